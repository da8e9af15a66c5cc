/-
  Trees of what the functions compute, and their laws. Own work; no condition.
-/
import Derived.Test.YtakjojajnblpoaaGreatDoorClL5
import Derived.Test.YtakjojajnblpoaaGreatDoorProg
set_option linter.unusedVariables false
set_option linter.unusedSimpArgs false
namespace Go.Vs
open Go Go.Vg
theorem est_start {H v1 V P U Q : Int} (hP : 0 < P) (h1 : 0 < v1) (hV : v1 * P ≤ V) (hU : U < (H + 1) * P) (hQ : Q * V ≤ U) (hQ0 : 0 ≤ Q) : Q ≤ H / v1 := by
 rw [Int.le_ediv_iff_mul_le h1]
 have a1 : Q * (v1 * P) ≤ Q * V := Int.mul_le_mul_of_nonneg_left hV hQ0
 have a2 : Q * v1 * P < (H + 1) * P := by rw [Int.mul_assoc]; omega
 have := Int.lt_of_mul_lt_mul_right a2 (by omega)
 omega
theorem est_high {q r H v1 v2 V P U Q u2 B : Int} (hV0 : 0 ≤ V) (hP : 0 < P) (hinv : q * v1 + r = H) (hV : (v1 * B + v2) * P ≤ V) (hU : U < (H * B + u2 + 1) * P) (hQ : Q * V ≤ U) (hq : 0 ≤ q) (h : q * v2 > r * B + u2) : Q ≤ q - 1 := by
 have a1 : H * B + u2 + 1 ≤ q * (v1 * B + v2) := by
  have : q * (v1 * B + v2) = (q * v1 + r) * B - r * B + q * v2 := by grind
  rw [this, hinv]; omega
 have a2 : (H * B + u2 + 1) * P ≤ (q * (v1 * B + v2)) * P := Int.mul_le_mul_of_nonneg_right a1 (by omega)
 have a3 : q * ((v1 * B + v2) * P) ≤ q * V := Int.mul_le_mul_of_nonneg_left hV hq
 rw [Int.mul_assoc] at a2
 have a4 : Q * V < q * V := by omega
 have := Int.lt_of_mul_lt_mul_right a4 hV0
 omega
theorem est_done {q r H v1 v2 V V3 P U u2 B Q : Int} (hP : 0 < P) (hinv : q * v1 + r = H) (hVe : V = (v1 * B + v2) * P + V3) (hV3 : V3 < P) (hV30 : 0 ≤ V3) (hU : (H * B + u2) * P ≤ U) (hq : 0 ≤ q) (hqB : q < B) (hVB : B * P ≤ V) (hUQ : U < (Q + 1) * V) (h : q * v2 ≤ r * B + u2) : q ≤ Q + 1 := by
 have a1 : q * (v1 * B + v2) ≤ H * B + u2 := by
  have : q * (v1 * B + v2) = (q * v1 + r) * B - r * B + q * v2 := by grind
  rw [this, hinv]; omega
 have a2 : (q * (v1 * B + v2)) * P ≤ (H * B + u2) * P := Int.mul_le_mul_of_nonneg_right a1 (by omega)
 have a3 : q * V3 ≤ B * P := by
  have b1 : q * V3 ≤ q * P := Int.mul_le_mul_of_nonneg_left (by omega) hq
  have b2 : q * P ≤ B * P := Int.mul_le_mul_of_nonneg_right (by omega) (by omega)
  omega
 have a4 : q * V = (q * (v1 * B + v2)) * P + q * V3 := by rw [hVe]; grind
 have a5 : q * V < (Q + 2) * V := by
  have : (Q + 2) * V = (Q + 1) * V + V := by grind
  omega
 have hVpos : 0 < V := by
  have : 0 < B * P := Int.mul_pos (by omega) hP
  omega
 have := Int.lt_of_mul_lt_mul_right a5 (by omega)
 omega
theorem fin_div {u w : List Int} {j n : Nat} {Q Vv e U : Int} (hlen : w.length = u.length) (hjn : j + n < u.length) (hw : Dg 1000000000 w)
  (htk : w.take j = u.take j) (hdr : w.drop (j + n) = u.drop (j + n)) (hz : V 1000000000 (u.drop (j + n + 1)) = 0) (hU : U = V 1000000000 (u.drop j)) (hX0 : 0 ≤ U - Q * Vv) (hX1 : U - Q * Vv < 1000000000 ^ n)
  (hV : V 1000000000 w = V 1000000000 u - 1000000000 ^ j * (Q * Vv) + 1000000000 ^ (j + n) * e) :
  V 1000000000 (w.set (j + n) 0) = V 1000000000 u - 1000000000 ^ j * (Q * Vv) ∧ V 1000000000 ((w.set (j + n) 0).drop j) = U - Q * Vv ∧ e = u.getD (j + n) 0 := by
 have sw := V_splitD 1000000000 w j
 have su := V_splitD 1000000000 u j
 rw [htk] at sw
 have hPj : (0 : Int) < 1000000000 ^ j := Int.pow_pos (by omega)
 have hPn : (0 : Int) < 1000000000 ^ n := Int.pow_pos (by omega)
 have e1 : V 1000000000 (w.drop j) = U - Q * Vv + 1000000000 ^ n * e := by
  have : 1000000000 ^ j * V 1000000000 (w.drop j) = 1000000000 ^ j * (U - Q * Vv + 1000000000 ^ n * e) := by
   rw [Int.pow_add] at hV
   rw [hU]
   have : (1000000000 : Int) ^ j * (V 1000000000 (u.drop j) - Q * Vv + 1000000000 ^ n * e) = 1000000000 ^ j * V 1000000000 (u.drop j) - 1000000000 ^ j * (Q * Vv) + 1000000000 ^ j * 1000000000 ^ n * e := by grind
   omega
  exact Int.eq_of_mul_eq_mul_left (by omega) this
 have s2 := V_splitD 1000000000 (w.drop j) n
 rw [List.drop_drop, hdr] at s2
 have s3 := V_drop_succD 1000000000 u (j + n)
 rw [hz, Int.mul_zero, Int.add_zero] at s3
 rw [s3] at s2
 have l1 := V_take_lt (by omega) (Dg_drop hw j) n
 have l2 := V_nonneg (by omega) (Dg_take (Dg_drop hw j) n)
 have hget : w.getD (j + n) 0 = u.getD (j + n) 0 := by
  have h1 : (w.drop (j + n)).getD 0 0 = (u.drop (j + n)).getD 0 0 := by rw [hdr]
  simpa [List.getD_eq_getElem?_getD, List.getElem?_drop] using h1
 have he : e = u.getD (j + n) 0 := by
  have h1 : 1000000000 ^ n * (u.getD (j + n) 0 - e) = (U - Q * Vv) - V 1000000000 ((w.drop j).take n) := by
   rw [Int.mul_sub]; omega
  have h2 : u.getD (j + n) 0 - e < 1 := by
   have : 1000000000 ^ n * (u.getD (j + n) 0 - e) < 1000000000 ^ n * 1 := by omega
   exact Int.lt_of_mul_lt_mul_left this (by omega)
  have h3 : -1 < u.getD (j + n) 0 - e := by
   have : 1000000000 ^ n * (-1) < 1000000000 ^ n * (u.getD (j + n) 0 - e) := by omega
   exact Int.lt_of_mul_lt_mul_left this (by omega)
  omega
 refine ⟨?_, ?_, he⟩
 ·rw [V_set _ (by omega), hget, hV, he, Int.mul_sub]
  omega
 ·have s4 : (w.set (j + n) 0).drop j = (w.drop j).set n 0 := by
   rw [List.drop_set, if_neg (by omega)]; congr 1; omega
  rw [s4, V_set _ (by rw [List.length_drop]; omega)]
  have : (w.drop j).getD n 0 = u.getD (j + n) 0 := by
   rw [← hget]; simp [List.getD_eq_getElem?_getD, List.getElem?_drop]
  rw [this, e1, he, Int.mul_sub]
  omega
theorem neg_div {u w : List Int} {j n : Nat} {q Vv e U : Int} (hw : Dg 1000000000 w)
  (htk : w.take j = u.take j) (hdr : w.drop (j + n) = u.drop (j + n)) (hz : V 1000000000 (u.drop (j + n + 1)) = 0) (hU : U = V 1000000000 (u.drop j)) (hX0 : U - q * Vv < 0)
  (hV : V 1000000000 w = V 1000000000 u - 1000000000 ^ j * (q * Vv) + 1000000000 ^ (j + n) * e) : u.getD (j + n) 0 < e := by
 have sw := V_splitD 1000000000 w j
 have su := V_splitD 1000000000 u j
 rw [htk] at sw
 have hPj : (0 : Int) < 1000000000 ^ j := Int.pow_pos (by omega)
 have hPn : (0 : Int) < 1000000000 ^ n := Int.pow_pos (by omega)
 have e1 : V 1000000000 (w.drop j) = U - q * Vv + 1000000000 ^ n * e := by
  have : 1000000000 ^ j * V 1000000000 (w.drop j) = 1000000000 ^ j * (U - q * Vv + 1000000000 ^ n * e) := by
   rw [Int.pow_add] at hV
   rw [hU]
   have : (1000000000 : Int) ^ j * (V 1000000000 (u.drop j) - q * Vv + 1000000000 ^ n * e) = 1000000000 ^ j * V 1000000000 (u.drop j) - 1000000000 ^ j * (q * Vv) + 1000000000 ^ j * 1000000000 ^ n * e := by grind
   omega
  exact Int.eq_of_mul_eq_mul_left (by omega) this
 have s2 := V_splitD 1000000000 (w.drop j) n
 rw [List.drop_drop, hdr] at s2
 have s3 := V_drop_succD 1000000000 u (j + n)
 rw [hz, Int.mul_zero, Int.add_zero] at s3
 rw [s3] at s2
 have l2 := V_nonneg (by omega) (Dg_take (Dg_drop hw j) n)
 have : 1000000000 ^ n * u.getD (j + n) 0 < 1000000000 ^ n * e := by omega
 exact Int.lt_of_mul_lt_mul_left this (by omega)
theorem drop_set_ge (l : List Int) {k j : Nat} (h : j ≤ k) (x : Int) : (l.set (k) x).take j = l.take j := by
 rw [List.take_set_of_le h]
theorem fm_R5_law (m o : List Int) (y : Int × Unit) (y4 : List Int × Unit) (v ql u w0 : List Int) (j n : Nat) (q : Int) (i2 : Int × Int × Int × List Int × Unit) (hv : Dg 1000000000 v) (hn : v.length = n) (hN : w0.length ≤ 1000000000000) (hjn : j + n < w0.length) (hw : Dg 1000000000 w0) (hq : 1 ≤ q ∧ q < 1000000000) (hK : inb (j : Int) (↑(Int.toNat (w64 (w64 (len m - len v) + 1))) : Int)) :
  ∃ w' e, loopO (fun i3 => (fm_divide_R5 m o y (v, ()) y4 ((j : Int), ql, u, ()) (q, ()) i2 i3).toO) (0, 0, w0, ()) = some (.inr (.inl ((j : Int) - 1, ql.set j (q - 1), w'.set (j + n) 0, ()))) ∧ w'.length = w0.length ∧ Dg 1000000000 w' ∧ w'.take j = w0.take j ∧ w'.drop (j + n) = w0.drop (j + n) ∧ V 1000000000 w' = V 1000000000 w0 + 1000000000 ^ j * V 1000000000 v - 1000000000 ^ (j + n) * e := by
 have wa : w64 (w64 ((j : Int) + len v) + 1) = ((j + n + 1 : Nat) : Int) := by rw [len_eq, hn, w64_id (x := (j : Int) + n) (by omega), w64_id (by omega)]; omega
 have wb : ((((j + n + 1 : Nat) : Int).toNat - (j : Int).toNat : Nat) : Int) = ((n + 1 : Nat) : Int) := by omega
 refine Exists.elim (loopO_ind (R := fun i3 => (fm_divide_R5 m o y (v, ()) y4 ((j : Int), ql, u, ()) (q, ()) i2 i3).toO) (fun i : Int × Int × List Int × Unit => ∃ k : Nat, k ≤ n ∧ i.1 = (k : Int) ∧ 0 ≤ i.2.1 ∧ i.2.1 ≤ 1 ∧ i.2.2.1.length = w0.length ∧ Dg 1000000000 i.2.2.1 ∧ i.2.2.1.take j = w0.take j ∧ i.2.2.1.drop (j + k) = w0.drop (j + k) ∧ V 1000000000 i.2.2.1 = V 1000000000 w0 + 1000000000 ^ j * V 1000000000 (v.take k) - 1000000000 ^ (j + k) * i.2.1) (fun i => ((n : Int) - i.1).toNat)
  (fun r => ∃ w' e, r = Sum.inr (Sum.inl ((j : Int) - 1, ql.set j (q - 1), w'.set (j + n) 0, ())) ∧ w'.length = w0.length ∧ Dg 1000000000 w' ∧ w'.take j = w0.take j ∧ w'.drop (j + n) = w0.drop (j + n) ∧ V 1000000000 w' = V 1000000000 w0 + 1000000000 ^ j * V 1000000000 v - 1000000000 ^ (j + n) * e) ?step (0, 0, w0, ()) ⟨0, by omega, rfl, by simp, by simp, rfl, hw, rfl, rfl, by simp [V]⟩) ?fin
 case fin =>
  rintro a ⟨h1, w', e, rfl, h3⟩
  exact ⟨w', e, h1, h3⟩
 rintro ⟨i, c, w, u5⟩ ⟨k, g1, g2, g3, g4, g5, g6, g7, g8, g9⟩
 dsimp only at g2 g3 g4 g5 g6 g7 g8 g9
 subst g2
 have dv := Dg_getD (by omega) hv k
 have dw := Dg_getD (by omega) g6 (j + k)
 have ev := V_take_succD 1000000000 v k
 simp only [fm_divide_R5, gi_nat, wa, wb, Int.toNat_natCast, Nat.zero_add]
 rcases Nat.lt_or_ge k n with hk | hk
 ·left
  have w1 : wu32 (wu32 (w.getD (j + k) 0 + v.getD k 0) + c) = w.getD (j + k) 0 + v.getD k 0 + c := by rw [wu32_id (x := w.getD (j + k) 0 + v.getD k 0) (by omega), wu32_id (by omega)]
  have w5 : w64 ((k : Int) + 1) = ((k + 1 : Nat) : Int) := by rw [w64_id (x := (k : Int) + 1) (by omega)]; omega
  simp only [w1, w5]
  have fin : ∀ x c' : Int, 0 ≤ x ∧ x < 1000000000 → 0 ≤ c' ∧ c' ≤ 1 → x + 1000000000 * c' = w.getD (j + k) 0 + v.getD k 0 + c → ∃ k_1 : Nat, k_1 ≤ n ∧ ((k + 1 : Nat) : Int) = (k_1 : Int) ∧ 0 ≤ c' ∧ c' ≤ 1 ∧ (w.set (j + k) x).length = w0.length ∧ Dg 1000000000 (w.set (j + k) x) ∧ (w.set (j + k) x).take j = w0.take j ∧ (w.set (j + k) x).drop (j + k_1) = w0.drop (j + k_1) ∧ V 1000000000 (w.set (j + k) x) = V 1000000000 w0 + 1000000000 ^ j * V 1000000000 (v.take k_1) - 1000000000 ^ (j + k_1) * c' := by
   intro x c' hx hc he
   refine ⟨k + 1, by omega, rfl, hc.1, hc.2, by simp; omega, Dg_set g6 hx _, by rw [drop_set_ge _ (by omega), g7], ?_, ?_⟩
   ·rw [drop_set_lt _ (by omega), show j + (k + 1) = j + k + 1 by omega, ← List.drop_drop (i := 1), g8, List.drop_drop]
   ·rw [V_set _ (by omega), g9, ev, show j + (k + 1) = j + k + 1 by omega, Int.pow_succ, Int.pow_add]
    have : (1000000000 : Int) ^ j * 1000000000 ^ k * (x + 1000000000 * c') = 1000000000 ^ j * 1000000000 ^ k * (w.getD (j + k) 0 + v.getD k 0 + c) := by rw [he]
    grind
  by_cases cc : w.getD (j + k) 0 + v.getD k 0 + c ≥ 1000000000
  ·refine ⟨(((k + 1 : Nat) : Int), 1, w.set (j + k) (w.getD (j + k) 0 + v.getD k 0 + c - 1000000000), ()), ?_, fin _ 1 (by omega) (by omega) (by omega), by dsimp only; omega⟩
   refine uT sd (uN sd (uN ⟨by omega, by omega⟩ (uT (decide_eq_true cc) (uN ⟨by omega, by omega⟩ ?_))))
   repeat (first | refine uV ?_ | refine uB ?_ | refine uN sd ?_ | refine uT sd ?_ | refine uF sd ?_ | refine uN (by simp) ?_)
   rw [wu32_id (x := w.getD (j + k) 0 + v.getD k 0 + c - 1000000000) (by omega)]
   rfl
  ·refine ⟨(((k + 1 : Nat) : Int), 0, w.set (j + k) (w.getD (j + k) 0 + v.getD k 0 + c), ()), ?_, fin _ 0 (by omega) (by omega) (by omega), by dsimp only; omega⟩
   refine uT sd (uN sd (uN ⟨by omega, by omega⟩ (uF (decide_eq_false cc) (uN ⟨by omega, by omega⟩ ?_))))
   repeat (first | refine uV ?_ | refine uB ?_ | refine uN sd ?_ | refine uT sd ?_ | refine uF sd ?_ | refine uN (by simp) ?_)
   rfl
 ·right
  have hkn : k = n := by omega
  subst hkn
  rw [V_take_ge _ (by omega)] at g9
  refine ⟨_, ?_, w, c, rfl, g5, g6, g7, g8, g9⟩
  refine uF sd (uN ⟨by simp [len], by rw [len_eq, hn]; omega⟩ (uN hK ?_))
  repeat (first | refine uV ?_ | refine uB ?_ | refine uN sd ?_ | refine uT sd ?_ | refine uF sd ?_ | refine uN (by simp) ?_)
  have w6 : wu32 (wu64 (q - 1)) = q - 1 := by rw [wu64_id (x := q - 1) (by omega), wu32_id (by omega)]
  rw [toO_ok, w6, w64_id (x := (j : Int) - 1) (by omega), len_eq, hn, Int.toNat_natCast]
theorem mul_lt_sqE {a b B : Int} (ha : 0 ≤ a ∧ a < B) (hb : 0 ≤ b ∧ b < B) : 0 ≤ a * b ∧ a * b ≤ (B - 1) * (B - 1) := by
 refine ⟨Int.mul_nonneg ha.1 hb.1, ?_⟩
 have h1 : a * b ≤ a * (B - 1) := Int.mul_le_mul_of_nonneg_left (by omega) ha.1
 have h2 : a * (B - 1) ≤ (B - 1) * (B - 1) := Int.mul_le_mul_of_nonneg_right (by omega) (by omega)
 omega
theorem fm_R4_law (m o : List Int) (y : Int × Unit) (y4 : List Int × Unit) (v ql u : List Int) (j n : Nat) (q Q : Int) (hv : Dg 1000000000 v) (hn : v.length = n) (hN : u.length ≤ 1000000000000) (hjn : j + n < u.length) (hu : Dg 1000000000 u) (hq : 0 ≤ q ∧ q < 1000000000) (hK : inb (j : Int) (↑(Int.toNat (w64 (w64 (len m - len v) + 1))) : Int))
  (hz : V 1000000000 (u.drop (j + n + 1)) = 0) (hQ : q = Q ∨ q = Q + 1) (hX0 : 0 ≤ V 1000000000 (u.drop j) - Q * V 1000000000 v) (hX1 : V 1000000000 (u.drop j) - Q * V 1000000000 v < V 1000000000 v) (hQ0 : 0 ≤ Q) :
  ∃ u', loopO (fun i2 => (fm_divide_R4 m o y (v, ()) y4 ((j : Int), ql, u, ()) (q, ()) i2).toO) (0, 0, 0, u, ()) = some (.inl ((j : Int) - 1, ql.set j Q, u', ())) ∧ u'.length = u.length ∧ Dg 1000000000 u' ∧ V 1000000000 u' = V 1000000000 u - 1000000000 ^ j * (Q * V 1000000000 v) ∧ V 1000000000 (u'.drop j) = V 1000000000 (u.drop j) - Q * V 1000000000 v := by
 have wa : w64 (w64 ((j : Int) + len v) + 1) = ((j + n + 1 : Nat) : Int) := by rw [len_eq, hn, w64_id (x := (j : Int) + n) (by omega), w64_id (by omega)]; omega
 have wb : ((((j + n + 1 : Nat) : Int).toNat - (j : Int).toNat : Nat) : Int) = ((n + 1 : Nat) : Int) := by omega
 have hVn : V 1000000000 v < 1000000000 ^ n := by have := V_lt (by omega) hv; rwa [hn] at this
 refine Exists.elim (loopO_ind (R := fun i2 => (fm_divide_R4 m o y (v, ()) y4 ((j : Int), ql, u, ()) (q, ()) i2).toO) (fun i : Int × Int × Int × List Int × Unit => ∃ k : Nat, k ≤ n ∧ i.1 = (k : Int) ∧ 0 ≤ i.2.1 ∧ i.2.1 ≤ 1 ∧ 0 ≤ i.2.2.1 ∧ i.2.2.1 < 1000000000 ∧ i.2.2.2.1.length = u.length ∧ Dg 1000000000 i.2.2.2.1 ∧ i.2.2.2.1.take j = u.take j ∧ i.2.2.2.1.drop (j + k) = u.drop (j + k) ∧ V 1000000000 i.2.2.2.1 = V 1000000000 u - 1000000000 ^ j * (q * V 1000000000 (v.take k)) + 1000000000 ^ (j + k) * (i.2.1 + i.2.2.1)) (fun i => ((n : Int) - i.1).toNat)
  (fun r => ∃ u', r = Sum.inl ((j : Int) - 1, ql.set j Q, u', ()) ∧ u'.length = u.length ∧ Dg 1000000000 u' ∧ V 1000000000 u' = V 1000000000 u - 1000000000 ^ j * (Q * V 1000000000 v) ∧ V 1000000000 (u'.drop j) = V 1000000000 (u.drop j) - Q * V 1000000000 v) ?step (0, 0, 0, u, ()) ⟨0, by omega, rfl, by simp, by simp, by simp, by simp, rfl, hu, rfl, rfl, by simp [V]⟩) ?fin
 case fin =>
  rintro a ⟨h1, u', rfl, h3⟩
  exact ⟨u', h1, h3⟩
 rintro ⟨i, b, c, w, u5⟩ ⟨k, g1, g2, g3, g4, g5, g6, g7, g8, g9, g10, g11⟩
 dsimp only at g2 g3 g4 g5 g6 g7 g8 g9 g10 g11
 subst g2
 have dv := Dg_getD (by omega) hv k
 have dw := Dg_getD (by omega) g8 (j + k)
 have ev := V_take_succD 1000000000 v k
 have hm := mul_lt_sqE hq dv
 have hs : 0 ≤ c + q * v.getD k 0 := by omega
 simp only [fm_divide_R4, gi_nat, wa, wb, Int.toNat_natCast, Nat.zero_add]
 rcases Nat.lt_or_ge k n with hk | hk
 ·left
  have wv : wu64 (v.getD k 0) = v.getD k 0 := wu64_id (by omega)
  have wp : wu64 (c + wu64 (q * v.getD k 0)) = c + q * v.getD k 0 := by rw [wu64_id (x := q * v.getD k 0) (by omega), wu64_id (by omega)]
  have em := Int.emod_add_mul_ediv (c + q * v.getD k 0) 1000000000
  have e2 : 0 ≤ (c + q * v.getD k 0) % 1000000000 ∧ (c + q * v.getD k 0) % 1000000000 < 1000000000 := by omega
  have e3 : 0 ≤ (c + q * v.getD k 0) / 1000000000 ∧ (c + q * v.getD k 0) / 1000000000 < 1000000000 := by omega
  have tm : Int.tmod (c + q * v.getD k 0) 1000000000 = (c + q * v.getD k 0) % 1000000000 := Int.tmod_eq_emod_of_nonneg hs
  have td : Int.tdiv (c + q * v.getD k 0) 1000000000 = (c + q * v.getD k 0) / 1000000000 := Int.tdiv_eq_ediv_of_nonneg hs
  have wr : w64 (w64 (w64 (w.getD (j + k) 0) - b) - w64 ((c + q * v.getD k 0) % 1000000000)) = w.getD (j + k) 0 - b - (c + q * v.getD k 0) % 1000000000 := by
   rw [w64_id (x := w.getD (j + k) 0) (by omega), w64_id (x := w.getD (j + k) 0 - b) (by omega), w64_id (x := (c + q * v.getD k 0) % 1000000000) (by omega), w64_id (by omega)]
  have w5 : w64 ((k : Int) + 1) = ((k + 1 : Nat) : Int) := by rw [w64_id (x := (k : Int) + 1) (by omega)]; omega
  have wd : wu64 ((c + q * v.getD k 0) / 1000000000) = (c + q * v.getD k 0) / 1000000000 := wu64_id (by omega)
  simp only [wv, wp, tm, td, wr, w5, wd]
  generalize (c + q * v.getD k 0) % 1000000000 = D at *
  generalize (c + q * v.getD k 0) / 1000000000 = C at *
  have fin : ∀ x b' : Int, 0 ≤ x ∧ x < 1000000000 → 0 ≤ b' ∧ b' ≤ 1 → x = w.getD (j + k) 0 - b - D + 1000000000 * b' → ∃ k_1 : Nat, k_1 ≤ n ∧ ((k + 1 : Nat) : Int) = (k_1 : Int) ∧ 0 ≤ b' ∧ b' ≤ 1 ∧ 0 ≤ C ∧ C < 1000000000 ∧ (w.set (j + k) x).length = u.length ∧ Dg 1000000000 (w.set (j + k) x) ∧ (w.set (j + k) x).take j = u.take j ∧ (w.set (j + k) x).drop (j + k_1) = u.drop (j + k_1) ∧ V 1000000000 (w.set (j + k) x) = V 1000000000 u - 1000000000 ^ j * (q * V 1000000000 (v.take k_1)) + 1000000000 ^ (j + k_1) * (b' + C) := by
   intro x b' hx hb he
   refine ⟨k + 1, by omega, rfl, hb.1, hb.2, e3.1, e3.2, by simp; omega, Dg_set g8 hx _, by rw [drop_set_ge _ (by omega), g9], ?_, ?_⟩
   ·rw [drop_set_lt _ (by omega), show j + (k + 1) = j + k + 1 by omega, ← List.drop_drop (i := 1), g10, List.drop_drop]
   ·rw [V_set _ (by omega), g11, ev, show j + (k + 1) = j + k + 1 by omega, Int.pow_succ, Int.pow_add, he]
    have : (1000000000 : Int) ^ j * 1000000000 ^ k * (D + 1000000000 * C) = 1000000000 ^ j * 1000000000 ^ k * (c + q * v.getD k 0) := by rw [em]
    grind
  by_cases cc : w.getD (j + k) 0 - b - D < 0
  ·refine ⟨(((k + 1 : Nat) : Int), 1, C, w.set (j + k) (w.getD (j + k) 0 - b - D + 1000000000), ()), ?_, fin _ 1 (by omega) (by omega) (by omega), by dsimp only; omega⟩
   refine uT sd (uN sd (uN ⟨by omega, by omega⟩ (uV (uV (uT (decide_eq_true cc) (uN ⟨by omega, by omega⟩ ?_))))))
   repeat (first | refine uV ?_ | refine uB ?_ | refine uN sd ?_ | refine uT sd ?_ | refine uF sd ?_ | refine uN (by simp) ?_)
   rw [w64_id (x := w.getD (j + k) 0 - b - D + 1000000000) (by omega), wu32_id (by omega)]
   rfl
  ·refine ⟨(((k + 1 : Nat) : Int), 0, C, w.set (j + k) (w.getD (j + k) 0 - b - D), ()), ?_, fin _ 0 (by omega) (by omega) (by omega), by dsimp only; omega⟩
   refine uT sd (uN sd (uN ⟨by omega, by omega⟩ (uV (uV (uF (decide_eq_false cc) (uN ⟨by omega, by omega⟩ ?_))))))
   repeat (first | refine uV ?_ | refine uB ?_ | refine uN sd ?_ | refine uT sd ?_ | refine uF sd ?_ | refine uN (by simp) ?_)
   rw [wu32_id (x := w.getD (j + k) 0 - b - D) (by omega)]
   rfl
 ·right
  have hkn : k = n := by omega
  subst hkn
  rw [V_take_ge _ (by omega)] at g11
  have hun := Dg_getD (by omega) hu (j + k)
  have hget : w.getD (j + k) 0 = u.getD (j + k) 0 := by
   have h1 : (w.drop (j + k)).getD 0 0 = (u.drop (j + k)).getD 0 0 := by rw [g10]
   simpa [List.getD_eq_getElem?_getD, List.getElem?_drop] using h1
  have wl : len v = (k : Int) := by rw [len_eq, hn]
  have wt : w64 (w64 (u.getD (j + k) 0) - b) = u.getD (j + k) 0 - b := by rw [w64_id (x := u.getD (j + k) 0) (by omega), w64_id (by omega)]
  have wc : w64 c = c := w64_id (by omega)
  simp only [wl, Int.toNat_natCast, hget, wt, wc]
  by_cases cb : u.getD (j + k) 0 - b < c
  ·-- one too great
   have hq1 : q = Q + 1 := by
    rcases hQ with h | h
    ·subst h
     obtain ⟨-, -, he⟩ := fin_div (Q := q) g7 hjn g8 g9 g10 hz rfl hX0 (by omega) g11
     omega
    ·exact h
   obtain ⟨w', e, r1, r2, r3, r4, r5, r6⟩ := fm_R5_law m o y y4 v ql u w j k q ((k : Int), b, c, w, ()) hv hn (by omega) (by omega) g8 (by omega) hK
   obtain ⟨f1, f2, -⟩ := fin_div (u := u) (w := w') (Q := Q) (Vv := V 1000000000 v) (e := b + c - e) (by rw [r2, g7]) hjn r3 (by rw [r4, g9]) (by rw [r5, g10]) hz rfl hX0 (by omega) (by
    rw [r6, g11, hq1]
    grind)
   refine ⟨_, ?_, w'.set (j + k) 0, rfl, by simp; omega, Dg_set r3 (by omega) _, f1, f2⟩
   refine uF sd (uN ⟨by omega, by omega⟩ (uT (decide_eq_true cb) ?_))
   refine uO (0, 0, w, ()) (by repeat (first | refine uV ?_ | refine uB ?_ | refine uN sd ?_ | refine uT sd ?_ | refine uF sd ?_ | refine uN (by simp) ?_); rfl) ?_
   rw [r1, hq1, Int.add_sub_cancel]
  ·have hq1 : q = Q := by
    rcases hQ with h | h
    ·exact h
    ·exfalso
     have := neg_div (q := q) g8 g9 g10 hz rfl (by rw [h, Int.add_mul]; omega) g11
     omega
   subst hq1
   obtain ⟨f1, f2, -⟩ := fin_div (Q := q) g7 hjn g8 g9 g10 hz rfl hX0 (by omega) g11
   refine ⟨_, ?_, w.set (j + k) 0, rfl, by simp; omega, Dg_set g8 (by omega) _, f1, f2⟩
   refine uF sd (uN ⟨by omega, by omega⟩ (uF (decide_eq_false cb) (uN ⟨by omega, by omega⟩ (uN (by rw [wl] at hK; exact hK) ?_))))
   repeat (first | refine uV ?_ | refine uB ?_ | refine uN sd ?_ | refine uT sd ?_ | refine uF sd ?_ | refine uN (by simp) ?_)
   rw [toO_ok, wu32_id (x := q) (by omega), w64_id (x := (j : Int) - 1) (by omega)]
end Go.Vs
namespace Go.Vs
open Go Go.Vg
theorem over_zeros {N : Nat} {s : List Int} (h : s.length ≤ N) : over (List.replicate N 0) 0 s = s ++ List.replicate (N - s.length) 0 := by
 unfold over
 simp
theorem V_over {N : Nat} {s : List Int} (h : s.length ≤ N) : V 1000000000 (over (List.replicate N 0) 0 s) = V 1000000000 s := by
 rw [over_zeros h, V_append, V_zeros]; omega
theorem fm_R2_law (m o : List Int) (y : Int × Unit) (y4 : List Int × Unit) (v ql u : List Int) (j n : Nat) (U Q : Int) (hv : Dg 1000000000 v) (hn : v.length = n + 2) (hN : u.length ≤ 1000000000000) (hjn : j + n + 2 < u.length) (hu : Dg 1000000000 u) (hz : V 1000000000 (u.drop (j + n + 2 + 1)) = 0) (hU : U = V 1000000000 (u.drop j)) (hUB : U < V 1000000000 v * 1000000000) (hQ1 : Q * V 1000000000 v ≤ U) (hQ2 : U < (Q + 1) * V 1000000000 v) (hQ0 : 0 ≤ Q) (htop : 1 ≤ v.getD (n + 1) 0) :
  ∃ q, (q = Q ∨ q = Q + 1) ∧ 0 ≤ q ∧ q < 1000000000 ∧ loopO (fun i1 => (fm_divide_R2 m o y (v, ()) y4 ((j : Int), ql, u, ()) i1).toO) ((u.getD (j + n + 2) 0 * 1000000000 + u.getD (j + n + 1) 0) % v.getD (n + 1) 0, (u.getD (j + n + 2) 0 * 1000000000 + u.getD (j + n + 1) 0) / v.getD (n + 1) 0, ()) = some (.inl (q, ())) := by
 have wb1 : w64 (len v - 1) = ((n + 1 : Nat) : Int) := by rw [len_eq, hn, w64_id (by omega)]; omega
 have wb2 : w64 (len v - 2) = ((n : Nat) : Int) := by rw [len_eq, hn, w64_id (by omega)]; omega
 have wa : w64 (w64 ((j : Int) + len v) + 1) = ((j + n + 2 + 1 : Nat) : Int) := by rw [len_eq, hn, w64_id (x := (j : Int) + ((n + 2 : Nat) : Int)) (by omega), w64_id (by omega)]; omega
 have wb : ((((j + n + 2 + 1 : Nat) : Int).toNat - (j : Int).toNat : Nat) : Int) = ((n + 3 : Nat) : Int) := by omega
 have dv1 := Dg_getD (by omega) hv (n + 1)
 have dv2 := Dg_getD (by omega) hv n
 have du0 := Dg_getD (by omega) hu (j + n + 2)
 have du1 := Dg_getD (by omega) hu (j + n + 1)
 have du2 := Dg_getD (by omega) hu (j + n)
 -- the divisor
 have hP : (0 : Int) < 1000000000 ^ n := Int.pow_pos (by omega)
 have hP1 : (0 : Int) < 1000000000 ^ (n + 1) := Int.pow_pos (by omega)
 have s1 := V_splitD 1000000000 v n
 have s2 := V_drop_succD 1000000000 v n
 have s3 := V_drop_succD 1000000000 v (n + 1)
 rw [V_drop_ge (k := n + 1 + 1) _ (by omega), Int.mul_zero, Int.add_zero] at s3
 rw [s3] at s2
 have s4 := V_take_lt (by omega) hv n
 have s5 := V_nonneg (by omega) (Dg_take hv n)
 have s6 := V_splitD 1000000000 v (n + 1)
 rw [s3] at s6
 have s7 := V_nonneg (by omega) (Dg_take hv (n + 1))
 -- the window
 have t1 := V_splitD 1000000000 (u.drop j) n
 have t2 : V 1000000000 ((u.drop j).drop n) = (u.getD (j + n + 2) 0 * 1000000000 + u.getD (j + n + 1) 0) * 1000000000 + u.getD (j + n) 0 := by
  rw [List.drop_drop]
  have a1 := V_drop_succD 1000000000 u (j + n)
  have a2 := V_drop_succD 1000000000 u (j + n + 1)
  have a3 := V_drop_succD 1000000000 u (j + n + 1 + 1)
  rw [show j + n + 1 + 1 + 1 = j + n + 2 + 1 by omega, hz] at a3
  rw [a1, a2, a3]
  show _ + 1000000000 * (_ + 1000000000 * (u.getD (j + n + 2) 0 + 1000000000 * 0)) = _
  omega
 have t3 := V_take_lt (by omega) (Dg_drop hu j) n
 have t4 := V_nonneg (by omega) (Dg_take (Dg_drop hu j) n)
 rw [← hU, t2] at t1
 generalize hH : u.getD (j + n + 2) 0 * 1000000000 + u.getD (j + n + 1) 0 = H at *
 have hH0 : 0 ≤ H ∧ H < 1000000000000000000 := by omega
 generalize hv1 : v.getD (n + 1) 0 = v1 at *
 generalize hv2 : v.getD n 0 = v2 at *
 generalize hu2 : u.getD (j + n) 0 = u2 at *
 generalize V 1000000000 (v.take n) = V3 at *
 generalize V 1000000000 ((u.drop j).take n) = U3 at *
 generalize V 1000000000 (v.take (n + 1)) = V4 at *
 have hVe : V 1000000000 v = (v1 * 1000000000 + v2) * 1000000000 ^ n + V3 := by rw [s1, s2]; grind
 have hVv : v1 * 1000000000 ^ (n + 1) ≤ V 1000000000 v := by
  have : (1000000000 : Int) ^ (n + 1) * v1 = v1 * 1000000000 ^ (n + 1) := Int.mul_comm _ _
  omega
 have hVB : 1000000000 * 1000000000 ^ n ≤ V 1000000000 v := by
  have a1 : 1 * 1000000000 ^ (n + 1) ≤ v1 * 1000000000 ^ (n + 1) := Int.mul_le_mul_of_nonneg_right htop (by omega)
  have a2 : (1000000000 : Int) ^ (n + 1) = 1000000000 * 1000000000 ^ n := by rw [Int.pow_succ, Int.mul_comm]
  omega
 have hUlo : (H * 1000000000 + u2) * 1000000000 ^ n ≤ U := by
  have : (1000000000 : Int) ^ n * (H * 1000000000 + u2) = (H * 1000000000 + u2) * 1000000000 ^ n := Int.mul_comm _ _
  omega
 have hUhi : U < (H * 1000000000 + u2 + 1) * 1000000000 ^ n := by
  have : (H * 1000000000 + u2 + 1) * 1000000000 ^ n = 1000000000 ^ n * (H * 1000000000 + u2) + 1000000000 ^ n := by grind
  omega
 have hUhi1 : U < (H + 1) * 1000000000 ^ (n + 1) := by
  have a1 : (H * 1000000000 + u2 + 1) * 1000000000 ^ n ≤ ((H + 1) * 1000000000) * 1000000000 ^ n := Int.mul_le_mul_of_nonneg_right (by omega) (by omega)
  have a2 : ((H + 1) * 1000000000) * 1000000000 ^ n = (H + 1) * 1000000000 ^ (n + 1) := by rw [Int.pow_succ]; grind
  omega
 have hVpos : 0 < V 1000000000 v := by have := Int.mul_pos (show (0 : Int) < 1000000000 by omega) hP; omega
 have hQB : Q < 1000000000 := by
  have : Q * V 1000000000 v < 1000000000 * V 1000000000 v := by omega
  exact Int.lt_of_mul_lt_mul_right this (by omega)
 have hstart := est_start hP1 (by omega) hVv hUhi1 hQ1 hQ0
 have hdm := Int.emod_add_mul_ediv H v1
 have hr0 := Int.emod_nonneg H (show v1 ≠ 0 by omega)
 have hr1 := Int.emod_lt_of_pos H (show 0 < v1 by omega)
 refine Exists.elim (loopO_ind (R := fun i1 => (fm_divide_R2 m o y (v, ()) y4 ((j : Int), ql, u, ()) i1).toO) (fun i : Int × Int × Unit => 0 ≤ i.1 ∧ i.1 < 1000000000 ∧ Q ≤ i.2.1 ∧ i.2.1 * v1 + i.1 = H) (fun i => i.2.1.toNat) (fun r => ∃ q, (q = Q ∨ q = Q + 1) ∧ 0 ≤ q ∧ q < 1000000000 ∧ r = Sum.inl (q, ())) ?step (H % v1, H / v1, ()) ⟨hr0, by dsimp only; omega, hstart, by dsimp only; rw [Int.mul_comm]; omega⟩) ?fin
 case fin =>
  rintro a ⟨h1, q, h2, h3, h4, rfl⟩
  exact ⟨q, h2, h3, h4, h1⟩
 rintro ⟨r, q, u5⟩ ⟨g1, g2, g3, g4⟩
 dsimp only at g1 g2 g3 g4
 have hqH : q ≤ H := by
  have : q * 1 ≤ q * v1 := Int.mul_le_mul_of_nonneg_left htop (by omega)
  omega
 have down : Q ≤ q - 1 → ((r + v1 ≥ 1000000000 → ∃ q', (q' = Q ∨ q' = Q + 1) ∧ 0 ≤ q' ∧ q' < 1000000000 ∧ q' = q - 1)) := by
  intro hdn hr
  have hqB : q - 1 < 1000000000 := by
   have a1 : (q - 1) * v1 = H - (r + v1) := by rw [Int.sub_mul]; omega
   have a2 : H < (v1 + 1) * 1000000000 := by
    have b1 : H * 1000000000 ^ (n + 1) ≤ U := by
     have a2 : (H * 1000000000) * 1000000000 ^ n = H * 1000000000 ^ (n + 1) := by rw [Int.pow_succ]; grind
     have a3 : (H * 1000000000) * 1000000000 ^ n ≤ (H * 1000000000 + u2) * 1000000000 ^ n := Int.mul_le_mul_of_nonneg_right (by omega) (by omega)
     omega
    have b2 : V 1000000000 v < (v1 + 1) * 1000000000 ^ (n + 1) := by
     have a2 : (v1 + 1) * 1000000000 ^ (n + 1) = (v1 * 1000000000 + 1000000000) * 1000000000 ^ n := by rw [Int.pow_succ]; grind
     have a3 : (v1 * 1000000000 + v2 + 1) * 1000000000 ^ n ≤ (v1 * 1000000000 + 1000000000) * 1000000000 ^ n := Int.mul_le_mul_of_nonneg_right (by omega) (by omega)
     have a4 : (v1 * 1000000000 + v2 + 1) * 1000000000 ^ n = (v1 * 1000000000 + v2) * 1000000000 ^ n + 1000000000 ^ n := by grind
     omega
    have b3 : H * 1000000000 ^ (n + 1) < ((v1 + 1) * 1000000000) * 1000000000 ^ (n + 1) := by
     have : ((v1 + 1) * 1000000000) * 1000000000 ^ (n + 1) = ((v1 + 1) * 1000000000 ^ (n + 1)) * 1000000000 := by grind
     omega
    exact Int.lt_of_mul_lt_mul_right b3 (by omega)
   have a3 : (q - 1) * v1 < 1000000000 * v1 := by
    have : (v1 + 1) * 1000000000 = 1000000000 * v1 + 1000000000 := by grind
    omega
   exact Int.lt_of_mul_lt_mul_right a3 (by omega)
  have hm := mul_lt_sqE (a := q - 1) (b := v2) (B := 1000000000) ⟨by omega, hqB⟩ dv2
  have hmB : 1000000000 * 1000000000 ≤ (r + v1) * 1000000000 := by omega
  have := est_done (q := q - 1) (r := r + v1) hP (by rw [Int.sub_mul]; omega) hVe s4 s5 hUlo (by omega) hqB hVB hQ2 (by omega)
  exact ⟨q - 1, by omega, by omega, hqB, rfl⟩
 have wv1 : wu64 v1 = v1 := wu64_id (by omega)
 have wr : wu64 (r + v1) = r + v1 := wu64_id (by omega)
 have hgi1 : gi v ((n + 1 : Nat) : Int) 0 = v1 := by rw [gi_nat, hv1]
 have hgi2 : gi v ((n : Nat) : Int) 0 = v2 := by rw [gi_nat, hv2]
 simp only [fm_divide_R2, fm_divide_R2_k1, wb1, wb2, hgi1, hgi2, wv1, wr, wa, wb, Int.toNat_natCast, Nat.zero_add, hu2]
 have stepdn : Q ≤ q - 1 → 1 ≤ q → ((r + v1 ≥ 1000000000 → ∃ q', ((q' = Q ∨ q' = Q + 1) ∧ 0 ≤ q' ∧ q' < 1000000000) ∧ wu64 (q - 1) = q') ∧ (¬ r + v1 ≥ 1000000000 → (0 ≤ r + v1 ∧ r + v1 < 1000000000 ∧ Q ≤ q - 1 ∧ (q - 1) * v1 + (r + v1) = H) ∧ wu64 (q - 1) = q - 1)) := by
  intro h1 h2
  have wq : wu64 (q - 1) = q - 1 := wu64_id (by omega)
  refine ⟨fun h => ?_, fun h => ⟨⟨by omega, by omega, h1, by rw [Int.sub_mul]; omega⟩, wq⟩⟩
  obtain ⟨q', e1, e2, e3, e4⟩ := down h1 h
  exact ⟨q', ⟨e1, e2, e3⟩, by rw [wq, e4]⟩
 by_cases c1 : q ≥ 1000000000
 ·obtain ⟨d1, d2⟩ := stepdn (by omega) (by omega)
  by_cases c2 : r + v1 ≥ 1000000000
  ·right
   obtain ⟨q', e1, e2⟩ := d1 c2
   refine ⟨.inl (q', ()), ?_, q', e1.1, e1.2.1, e1.2.2, rfl⟩
   refine uT (decide_eq_true c1) (uT (decide_eq_true c2) ?_)
   repeat (first | refine uV ?_ | refine uB ?_ | refine uN sd ?_ | refine uT sd ?_ | refine uF sd ?_ | refine uN (by simp) ?_)
   rw [toO_ok, e2]
  ·left
   obtain ⟨e1, e2⟩ := d2 c2
   refine ⟨(r + v1, q - 1, ()), ?_, e1, by dsimp only; omega⟩
   refine uT (decide_eq_true c1) (uF (decide_eq_false c2) ?_)
   repeat (first | refine uV ?_ | refine uB ?_ | refine uN sd ?_ | refine uT sd ?_ | refine uF sd ?_ | refine uN (by simp) ?_)
   rw [toO_ok, e2]
 ·have hm := mul_lt_sqE (a := q) (b := v2) (B := 1000000000) ⟨by omega, by omega⟩ dv2
  have wm : wu64 (q * wu64 v2) = q * v2 := by rw [wu64_id (x := v2) (by omega), wu64_id (by omega)]
  have wn : wu64 (wu64 (r * 1000000000) + wu64 u2) = r * 1000000000 + u2 := by rw [wu64_id (x := r * 1000000000) (by omega), wu64_id (x := u2) (by omega), wu64_id (by omega)]
  simp only [wm, wn]
  by_cases c3 : q * v2 > r * 1000000000 + u2
  ·have hdn := est_high (q := q) (r := r) (Int.le_of_lt hVpos) hP g4 (by omega) hUhi hQ1 (by omega) c3
   obtain ⟨d1, d2⟩ := stepdn hdn (by omega)
   by_cases c2 : r + v1 ≥ 1000000000
   ·right
    obtain ⟨q', e1, e2⟩ := d1 c2
    refine ⟨.inl (q', ()), ?_, q', e1.1, e1.2.1, e1.2.2, rfl⟩
    refine uF (decide_eq_false c1) (uN ⟨by omega, by rw [len_eq, hn]; omega⟩ (uN ⟨by omega, by omega⟩ (uT (decide_eq_true c3) (uT (decide_eq_true c2) ?_))))
    repeat (first | refine uV ?_ | refine uB ?_ | refine uN sd ?_ | refine uT sd ?_ | refine uF sd ?_ | refine uN (by simp) ?_)
    rw [toO_ok, e2]
   ·left
    obtain ⟨e1, e2⟩ := d2 c2
    refine ⟨(r + v1, q - 1, ()), ?_, e1, by dsimp only; omega⟩
    refine uF (decide_eq_false c1) (uN ⟨by omega, by rw [len_eq, hn]; omega⟩ (uN ⟨by omega, by omega⟩ (uT (decide_eq_true c3) (uF (decide_eq_false c2) ?_))))
    repeat (first | refine uV ?_ | refine uB ?_ | refine uN sd ?_ | refine uT sd ?_ | refine uF sd ?_ | refine uN (by simp) ?_)
    rw [toO_ok, e2]
  ·right
   have hdone := est_done (q := q) (r := r) hP g4 hVe s4 s5 hUlo (by omega) (by omega) hVB hQ2 (by omega)
   refine ⟨.inl (q, ()), ?_, q, by omega, by omega, by omega, rfl⟩
   refine uF (decide_eq_false c1) (uN ⟨by omega, by rw [len_eq, hn]; omega⟩ (uN ⟨by omega, by omega⟩ (uF (decide_eq_false c3) ?_)))
   repeat (first | refine uV ?_ | refine uB ?_ | refine uN sd ?_ | refine uT sd ?_ | refine uF sd ?_ | refine uN (by simp) ?_)
   rfl
end Go.Vs
namespace Go.Vs
open Go Go.Vg
theorem scale_len {b s t L : Nat} (hs : s * (t + 1) ≤ 1000000000) (hs1 : 1 ≤ s) (h1 : 1000000000 ^ L * t ≤ b) (h2 : b < 1000000000 ^ L * (t + 1)) (ht : 1 ≤ t) : (mag (b * s)).length = L + 1 := by
 have a1 : b * s < 1000000000 ^ (L + 1) := by
  have c1 : b * s < (1000000000 ^ L * (t + 1)) * s := Nat.mul_lt_mul_of_pos_right h2 (by omega)
  have c2 : (1000000000 ^ L * (t + 1)) * s = 1000000000 ^ L * (s * (t + 1)) := by rw [Nat.mul_assoc, Nat.mul_comm (t + 1)]
  have c3 : 1000000000 ^ L * (s * (t + 1)) ≤ 1000000000 ^ L * 1000000000 := Nat.mul_le_mul_left _ hs
  rw [Nat.pow_succ]; omega
 have a2 := mag_length_le_iff.2 a1
 have a3 : 1000000000 ^ L ≤ b * s := by
  have c1 : 1000000000 ^ L * 1 ≤ 1000000000 ^ L * t := Nat.mul_le_mul_left _ ht
  have c2 : b * 1 ≤ b * s := Nat.mul_le_mul_left _ hs1
  omega
 rcases Nat.lt_or_ge L (mag (b * s)).length with h | h
 ·omega
 ·have := mag_length_le_iff.1 h; omega
theorem fm_R1_law (m o : List Int) (y : Int × Unit) (y4 : List Int × Unit) (v q u : List Int) (j n : Nat) (qq : Int) (X : (Int × List Int × List Int × Unit) ⊕ (List Int × List Int × Unit)) (hvd : Dg 1000000000 v) (g7 : Dg 1000000000 u) (lv : v.length = n + 2) (g6 : u.length = m.length + 1) (hN : m.length ≤ 1000000000000) (hj : j + n + 2 < u.length) (hvtop : 1 ≤ v.getD (n + 1) 0)
  (p4 : loopO (fun i1 => (fm_divide_R2 m o y (v, ()) y4 ((j : Int), q, u, ()) i1).toO) ((u.getD (j + n + 2) 0 * 1000000000 + u.getD (j + n + 1) 0) % v.getD (n + 1) 0, (u.getD (j + n + 2) 0 * 1000000000 + u.getD (j + n + 1) 0) / v.getD (n + 1) 0, ()) = some (.inl (qq, ())))
  (r1 : loopO (fun i1 => (fm_divide_R4 m o y (v, ()) y4 ((j : Int), q, u, ()) (qq, ()) i1).toO) (0, 0, 0, u, ()) = some X) : (fm_divide_R1 m o y (v, ()) y4 ((j : Int), q, u, ())).toO = some X := by
 have wlv : len v = ((n + 2 : Nat) : Int) := by rw [len_eq, lv]
 have wa : w64 (w64 ((j : Int) + len v) + 1) = ((j + n + 2 + 1 : Nat) : Int) := by rw [wlv, w64_id (x := (j : Int) + ((n + 2 : Nat) : Int)) (by omega), w64_id (by omega)]; omega
 have wb : ((((j + n + 2 + 1 : Nat) : Int).toNat - (j : Int).toNat : Nat) : Int) = ((n + 3 : Nat) : Int) := by omega
 have wb1 : w64 (len v - 1) = ((n + 1 : Nat) : Int) := by rw [wlv, w64_id (by omega)]; omega
 have w2 : w64 (len m + 1) = ((m.length + 1 : Nat) : Int) := by rw [len_eq, w64_id (by omega)]; omega
 have dv1 := Dg_getD (by omega) hvd (n + 1)
 have du0 := Dg_getD (by omega) g7 (j + n + 2)
 have du1 := Dg_getD (by omega) g7 (j + n + 1)
 have hgi1 : wu64 (gi v ((n + 1 : Nat) : Int) 0) = v.getD (n + 1) 0 := by rw [gi_nat, wu64_id (by omega)]
 have wH : wu64 (wu64 (wu64 (u.getD (j + (n + 2)) 0) * 1000000000) + wu64 (u.getD (j + (n + 1)) 0)) = u.getD (j + n + 2) 0 * 1000000000 + u.getD (j + n + 1) 0 := by
  rw [show j + (n + 2) = j + n + 2 by omega, show j + (n + 1) = j + n + 1 by omega, wu64_id (x := u.getD (j + n + 2) 0) (by omega), wu64_id (x := u.getD (j + n + 2) 0 * 1000000000) (by omega), wu64_id (x := u.getD (j + n + 1) 0) (by omega), wu64_id (by omega)]
 have hH0 : 0 ≤ u.getD (j + n + 2) 0 * 1000000000 + u.getD (j + n + 1) 0 := by omega
 have tm := Int.tmod_eq_emod_of_nonneg (b := v.getD (n + 1) 0) hH0
 have td := Int.tdiv_eq_ediv_of_nonneg (b := v.getD (n + 1) 0) hH0
 have hdle : (u.getD (j + n + 2) 0 * 1000000000 + u.getD (j + n + 1) 0) / v.getD (n + 1) 0 ≤ u.getD (j + n + 2) 0 * 1000000000 + u.getD (j + n + 1) 0 := Int.ediv_le_self _ hH0
 have hdge : 0 ≤ (u.getD (j + n + 2) 0 * 1000000000 + u.getD (j + n + 1) 0) / v.getD (n + 1) 0 := Int.ediv_nonneg hH0 (by omega)
 have wq : wu64 ((u.getD (j + n + 2) 0 * 1000000000 + u.getD (j + n + 1) 0) / v.getD (n + 1) 0) = (u.getD (j + n + 2) 0 * 1000000000 + u.getD (j + n + 1) 0) / v.getD (n + 1) 0 := wu64_id (by omega)
 simp only [fm_divide_R1, wa, wb, wb1, hgi1, w2, Int.toNat_natCast, Nat.zero_add]
 have wlt : (len v).toNat = n + 2 := by rw [wlv]; omega
 simp only [wlt, wH, tm, td, wq]
 refine uT sd (uN ⟨by omega, by omega⟩ (uN ⟨by omega, by omega⟩ (uN ⟨by omega, by omega⟩ (uN ⟨by omega, by omega⟩ (uN ⟨by omega, by omega⟩ (uN (by omega) (uN (by omega) ?_)))))))
 refine uL (qq, ()) ?_ ?_
 ·refine uO ((u.getD (j + n + 2) 0 * 1000000000 + u.getD (j + n + 1) 0) % v.getD (n + 1) 0, (u.getD (j + n + 2) 0 * 1000000000 + u.getD (j + n + 1) 0) / v.getD (n + 1) 0, ()) ?_ p4
  repeat (first | refine uV ?_ | refine uB ?_ | refine uN sd ?_ | refine uT sd ?_ | refine uF sd ?_ | refine uN (by simp) ?_)
  rfl
 ·unfold fm_divide_R3
  refine uO (0, 0, 0, u, ()) (by repeat (first | refine uV ?_ | refine uB ?_ | refine uN sd ?_ | refine uT sd ?_ | refine uF sd ?_ | refine uN (by simp) ?_); rfl) ?_
  exact r1
set_option maxHeartbeats 1000000 in
theorem fm_divide_law (m o : List Int) (y) (h : S_fm_divide (m, o, ()) = some y) : (fm_divide_t m o).toO = some y := by
 obtain ⟨⟨a, b⟩, hp, hx, rfl⟩ := spec_some h
 obtain ⟨rfl, hx2⟩ := Prod.mk.inj hx; obtain ⟨rfl, -⟩ := Prod.mk.inj hx2; dsimp only
 obtain ⟨la, lb, hb0⟩ := hp
 simp only at la lb hb0
 clear h hx hx2
 unfold fm_divide_t
 have hcmp : S_fm_compare (mag a, mag b, ()) = some (cmpI a b, ()) := spec_at (enc := fun p : Nat × Nat => (mag p.1, mag p.2, ())) (a, b) ⟨by dsimp only; omega, by dsimp only; omega⟩ (fun b hb => enc2_inj hb)
 refine uC _ hcmp ?_
 by_cases hab : a < b
 ·refine uT (decide_eq_true (by unfold cmpI; rw [if_pos (by omega)]; show (-1 : Int) < 0; omega)) ?_
  rw [Nat.div_eq_of_lt hab, Nat.mod_eq_of_lt hab, mag_zero]; rfl
 refine uF (decide_eq_false (by unfold cmpI; rw [if_neg (by omega)]; split <;> decide)) ?_
 have hbl : 1 ≤ (mag b).length := by
  rcases Nat.eq_zero_or_pos (mag b).length with h5 | h5
  ·exact absurd (mag_nil_iff.1 (List.length_eq_zero_iff.1 h5)) hb0
  ·exact h5
 have hshort : ∀ x d : Nat, (mag x).length ≤ 1000000000000 → 0 < d → d < 4294967296 → S_fm_short (mag x, (d : Int), ()) = some (mag (x / d), ((x % d : Nat) : Int), ()) := by
  intro x d h1 h2 h3
  refine spec_at (enc := fun p : Nat × Nat => (mag p.1, (p.2 : Int), ())) (x, d) ⟨h1, h2, h3⟩ (fun b hb => ?_)
  obtain ⟨e1, e2⟩ := Prod.mk.inj hb
  obtain ⟨e2, -⟩ := Prod.mk.inj e2
  exact Prod.ext (mag_inj e1) (Int.ofNat.inj e2)
 by_cases h1 : (mag b).length = 1
 ·refine uT sd (uN ⟨by simp [asT], by exact sn⟩ ?_)
  have hb1 : b < 1000000000 := by have := mag_length_le_iff.1 (Nat.le_of_eq h1); simpa using this
  have hg : gi (mag b) 0 0 = (b : Int) := by rw [mag_small hb0 hb1]; rfl
  rw [hg]
  refine uC _ (hshort a b (by omega) (by omega) (by omega)) ?_
  have hm := Nat.mod_lt a (show 0 < b by omega)
  generalize a % b = r at hm ⊢
  refine uC (mag r, ()) ?_ rfl
  dsimp only
  rw [wu64_id (x := (r : Int)) (by omega)]
  unfold S_f_fromSmall
  rw [if_pos (by dsimp only; omega)]
  simp
 refine uF sd ?_
 obtain ⟨n, hnl⟩ : ∃ n, (mag b).length = n + 2 := ⟨(mag b).length - 2, by omega⟩
 have hml : n + 2 ≤ (mag a).length := by rw [← hnl]; exact mag_length_mono (by omega)
 obtain ⟨t, ht, t1, t2, t3, t4⟩ := mag_top hb0
 have w1 : w64 (len (mag b) - 1) = ((n + 1 : Nat) : Int) := by rw [len_eq, hnl, w64_id (by omega)]; omega
 rw [hnl, show n + 2 - 1 = n + 1 by omega] at ht t3 t4
 have hg : gi (mag b) ((n + 1 : Nat) : Int) 0 = (t : Int) := by rw [gi_nat, ht]
 have wt : wu32 ((t : Int) + 1) = ((t + 1 : Nat) : Int) := by rw [wu32_id (by omega)]; omega
 obtain ⟨s, hs⟩ : ∃ s, s = 1000000000 / (t + 1) := ⟨_, rfl⟩
 have hs1 : 1 ≤ s := by rw [hs]; exact (Nat.le_div_iff_mul_le (by omega)).2 (by omega)
 have hs2 : s * (t + 1) ≤ 1000000000 := by rw [hs]; exact Nat.div_mul_le_self _ _
 have hs3 : s < 1000000000 := by
  have : s * 2 ≤ s * (t + 1) := Nat.mul_le_mul_left _ (by omega)
  omega
 have ws : wu32 (Int.tdiv 1000000000 ((t + 1 : Nat) : Int)) = (s : Int) := by
  have : Int.tdiv 1000000000 ((t + 1 : Nat) : Int) = (s : Int) := by
   rw [Int.tdiv_eq_ediv_of_nonneg (by omega), hs]; rfl
  rw [this, wu32_id (by omega)]
 simp only [w1, hg, wt, ws]
 refine uN sd (uN (by omega) ?_)
 have hms : mag s = [(s : Int)] := mag_small (by omega) hs3
 have lv : (mag (b * s)).length = n + 2 := scale_len hs2 hs1 t3 t4 t1
 have htimes : ∀ x : Nat, (mag x).length ≤ 1000000000000 → S_fm_times (mag x, [(s : Int)], ()) = some (mag (x * s), ()) := by
  intro x hx
  rw [← hms]
  exact spec_at (enc := fun p : Nat × Nat => (mag p.1, mag p.2, ())) (x, s) ⟨hx, by rw [hms]; simp⟩ (fun b hb => enc2_inj hb)
 refine uC _ (htimes b (by omega)) ?_
 have w2 : w64 (len (mag a) + 1) = (((mag a).length + 1 : Nat) : Int) := by rw [len_eq, w64_id (by omega)]; omega
 obtain ⟨K, hK⟩ : ∃ K, (mag a).length = K + n + 2 := ⟨(mag a).length - (n + 2), by omega⟩
 have w3 : w64 (len (mag a) - len (mag (b * s))) = (K : Int) := by rw [len_eq, len_eq, lv, hK, w64_id (by omega)]; omega
 have w4 : w64 ((K : Int) + 1) = ((K + 1 : Nat) : Int) := by rw [w64_id (by omega)]; omega
 simp only [w2, w3, w4]
 refine uN (by omega) ?_
 refine uC _ (htimes a (by omega)) ?_
 refine uN (by omega) ?_
 have las : (mag (a * s)).length ≤ (mag a).length + 1 := by
  have := mag_length_mul a s
  rw [hms] at this; simpa using this
 have htk : List.take (mag a).length.succ (mag (a * s)) = mag (a * s) := List.take_of_length_le las
 -- the start
 have hu0d : Dg 1000000000 (over (List.replicate ((mag a).length + 1) 0) 0 (mag (a * s))) := by
  rw [over_zeros las]; exact Dg_append (mag_dg _) (Dg_zeros (by omega) _)
 have hu0V : V 1000000000 (over (List.replicate ((mag a).length + 1) 0) 0 (mag (a * s))) = ((a * s : Nat) : Int) := by rw [V_over las, V_mag]
 have hu0l : (over (List.replicate ((mag a).length + 1) 0) 0 (mag (a * s))).length = (mag a).length + 1 := by rw [over_zeros las]; simp; omega
 refine uO ((K : Int), List.replicate (K + 1) 0, over (List.replicate ((mag a).length + 1) 0) 0 (mag (a * s)), ()) ?_ ?_
 ·repeat (first | refine uV ?_ | refine uB ?_ | refine uN sd ?_ | refine uT sd ?_ | refine uF sd ?_ | refine uN (by simp) ?_)
  simp only [Int.toNat_natCast, w4]
  rw [show List.take ((mag a).length + 1) (mag (a * s)) = mag (a * s) from htk]
  rfl
 generalize hu0 : over (List.replicate ((mag a).length + 1) 0) 0 (mag (a * s)) = u0 at *
 have hvd := mag_dg (b * s)
 have hvV := V_mag (b * s)
 have hvpos : 0 < b * s := Nat.mul_pos (by omega) (by omega)
 have hvtop : 1 ≤ (mag (b * s)).getD (n + 1) 0 := by
  obtain ⟨t', e1, e2, -⟩ := mag_top (n := b * s) (by omega)
  rw [lv, show n + 2 - 1 = n + 1 by omega] at e1
  omega
 generalize hv : mag (b * s) = v at *
 have hdrop0 : V 1000000000 (u0.drop (K + 1)) < V 1000000000 v := by
  have e1 := V_splitD 1000000000 u0 (K + 1)
  have e2 := V_nonneg (by omega) (Dg_take hu0d (K + 1))
  have e3 := V_nonneg (by omega) (Dg_drop hu0d (K + 1))
  rw [hu0V] at e1
  have a1 : a < 1000000000 ^ (K + 1) * b := by
   have c1 := mag_length_le_iff.1 (Nat.le_of_eq hK)
   have c2 : 1000000000 ^ (n + 1) ≤ b := by
    have : 1000000000 ^ (n + 1) * 1 ≤ 1000000000 ^ (n + 1) * t := Nat.mul_le_mul_left _ t1
    omega
   have c3 : 1000000000 ^ (K + 1) * 1000000000 ^ (n + 1) ≤ 1000000000 ^ (K + 1) * b := Nat.mul_le_mul_left _ c2
   rw [← Nat.pow_add, show K + 1 + (n + 1) = K + n + 2 by omega] at c3
   omega
  have a2 : a * s < (1000000000 ^ (K + 1) * b) * s := Nat.mul_lt_mul_of_pos_right a1 (by omega)
  have a3 : ((a * s : Nat) : Int) < (((1000000000 ^ (K + 1) * b) * s : Nat) : Int) := Int.ofNat_lt.2 a2
  have a4 : ((((1000000000 ^ (K + 1) * b) * s : Nat)) : Int) = 1000000000 ^ (K + 1) * V 1000000000 v := by
   rw [hvV, Nat.mul_assoc, Int.natCast_mul, Int.natCast_pow]; rfl
  rw [a4] at a3
  have a5 : 1000000000 ^ (K + 1) * V 1000000000 (u0.drop (K + 1)) < 1000000000 ^ (K + 1) * V 1000000000 v := by omega
  exact Int.lt_of_mul_lt_mul_left a5 (Int.le_of_lt (Int.pow_pos (by omega)))
 refine loopO_eq (fun i : Int × List Int × List Int × Unit => ∃ k : Nat, k ≤ K + 1 ∧ i.1 = (k : Int) - 1 ∧ i.2.1.length = K + 1 ∧ Dg 1000000000 i.2.1 ∧ (∀ p, p < k → i.2.1.getD p 0 = 0) ∧ i.2.2.1.length = (mag a).length + 1 ∧ Dg 1000000000 i.2.2.1 ∧ V 1000000000 (i.2.2.1.drop k) < V 1000000000 v ∧ ((a * s : Nat) : Int) = V 1000000000 i.2.1 * V 1000000000 v + V 1000000000 i.2.2.1) (fun i => (i.1 + 1).toNat) (fun _ => (mag (a / b), mag (a % b), ())) ?_ _ ⟨K + 1, Nat.le_refl _, by dsimp only; omega, by simp, Dg_zeros (by omega) _, fun p _ => by simp [List.getD_eq_getElem?_getD, List.getElem?_replicate]; split <;> rfl, hu0l, hu0d, hdrop0, by rw [V_zeros, hu0V]; omega⟩
 rintro ⟨i, q, u, u6⟩ ⟨k, g1, g2, g3, g4, g5, g6, g7, g8, g9⟩
 dsimp only at g2 g3 g4 g5 g6 g7 g8 g9
 subst g2
 cases k with
 | zero =>
  right
  rw [List.drop_zero] at g8
  obtain ⟨x, hx⟩ := Int.eq_ofNat_of_zero_le (V_nonneg (by omega) g4)
  obtain ⟨r, hr⟩ := Int.eq_ofNat_of_zero_le (V_nonneg (by omega) g7)
  rw [hx, hr, hvV] at g9
  rw [hr, hvV] at g8
  have h8 : a * s = x * (b * s) + r := by
   have : ((a * s : Nat) : Int) = ((x * (b * s) + r : Nat) : Int) := by rw [g9]; simp
   exact Int.ofNat.inj this
  have h9 : x = a / b := by
   have : a * s / (b * s) = x := by rw [h8, Nat.add_comm, Nat.add_mul_div_right _ _ hvpos, Nat.div_eq_of_lt (by omega), Nat.zero_add]
   rw [← this, Nat.mul_div_mul_right _ _ (by omega)]
  have h10 : r = (a % b) * s := by
   have : a * s % (b * s) = r := by rw [h8, Nat.add_comm, Nat.add_mul_mod_self_right, Nat.mod_eq_of_lt (by omega)]
   rw [← this, Nat.mul_mod_mul_right]
  have hrl : (mag r).length ≤ n + 2 := by rw [← lv, ← hv]; exact mag_length_mono (by omega)
  have hVtake : V 1000000000 (u.take (n + 2)) = r := by
   have e1 := V_splitD 1000000000 u (n + 2)
   have e2 := V_nonneg (by omega) (Dg_take g7 (n + 2))
   have e3 := V_nonneg (by omega) (Dg_drop g7 (n + 2))
   have e4 : V 1000000000 u < 1000000000 ^ (n + 2) := by
    have := V_lt (by omega) hvd
    rw [lv] at this
    omega
   have e5 : V 1000000000 (u.drop (n + 2)) < 1 := by
    have : 1000000000 ^ (n + 2) * V 1000000000 (u.drop (n + 2)) < 1000000000 ^ (n + 2) * 1 := by omega
    exact Int.lt_of_mul_lt_mul_left this (Int.le_of_lt (Int.pow_pos (by omega)))
   have e6 : V 1000000000 (u.drop (n + 2)) = 0 := by omega
   rw [e6, Int.mul_zero] at e1
   omega
  have wlv : len v = ((n + 2 : Nat) : Int) := by rw [len_eq, lv]
  simp only [fm_divide_R1, w1, hg, wt, ws, w2, w3, w4, wlv, Int.toNat_natCast]
  have wkk : w64 (w64 (len (mag a) - ((n + 2 : Nat) : Int)) + 1) = ((K + 1 : Nat) : Int) := by rw [← wlv, w3, w4]
  simp only [wkk, Int.toNat_natCast]
  refine uF sd (uN ⟨by omega, by omega⟩ ?_)
  have htr : ∀ (l : List Int) (z : Nat), Dg 1000000000 l → l.length ≤ 2000000000000 → V 1000000000 l = z → S_fm_trim (l, ()) = some (mag z, ()) := by
   intro l z h1 h2 h3
   unfold S_fm_trim
   rw [if_pos ⟨h1, h2⟩]
   simp only [h3, Int.toNat_natCast]
  refine uC _ (htr _ r (Dg_take g7 _) (by rw [List.length_take]; omega) hVtake) ?_
  refine uC _ (hshort r s (by omega) (by omega) (by omega)) ?_
  have htq : List.take (K + 1) q = q := List.take_of_length_le (by omega)
  rw [htq]
  refine uC _ (htr q x g4 (by omega) hx) ?_
  rw [toO_ok, h9, h10, Nat.mul_div_cancel _ (by omega)]
 | succ j =>
  left
  have e6 : ((j + 1 : Nat) : Int) - 1 = (j : Int) := by omega
  rw [e6]
  have wlv : len v = ((n + 2 : Nat) : Int) := by rw [len_eq, lv]
  have wa : w64 (w64 ((j : Int) + len v) + 1) = ((j + n + 2 + 1 : Nat) : Int) := by rw [wlv, w64_id (x := (j : Int) + ((n + 2 : Nat) : Int)) (by omega), w64_id (by omega)]; omega
  have wb : ((((j + n + 2 + 1 : Nat) : Int).toNat - (j : Int).toNat : Nat) : Int) = ((n + 3 : Nat) : Int) := by omega
  have wb1 : w64 (len v - 1) = ((n + 1 : Nat) : Int) := by rw [wlv, w64_id (by omega)]; omega
  have hvpos' : 0 < V 1000000000 v := by rw [hvV]; omega
  have du := Dg_getD (by omega) g7 j
  have eU := V_drop_succD 1000000000 u j
  have hU0 := V_nonneg (by omega) (Dg_drop g7 j)
  have hUB : V 1000000000 (u.drop j) < V 1000000000 v * 1000000000 := by omega
  have hvlt : V 1000000000 v < 1000000000 ^ (n + 2) := by have := V_lt (by omega) hvd; rwa [lv] at this
  have hz : V 1000000000 (u.drop (j + n + 2 + 1)) = 0 := by
   have e1 := V_splitD 1000000000 (u.drop (j + 1)) (n + 2)
   rw [List.drop_drop, show j + 1 + (n + 2) = j + n + 2 + 1 by omega] at e1
   have e2 := V_nonneg (by omega) (Dg_take (Dg_drop g7 (j + 1)) (n + 2))
   have e3 := V_nonneg (by omega) (Dg_drop g7 (j + n + 2 + 1))
   have e5 : V 1000000000 (u.drop (j + n + 2 + 1)) < 1 := by
    have : 1000000000 ^ (n + 2) * V 1000000000 (u.drop (j + n + 2 + 1)) < 1000000000 ^ (n + 2) * 1 := by omega
    exact Int.lt_of_mul_lt_mul_left this (Int.le_of_lt (Int.pow_pos (by omega)))
   omega
  obtain ⟨Q, hQ⟩ : ∃ Q, Q = V 1000000000 (u.drop j) / V 1000000000 v := ⟨_, rfl⟩
  have hdm := Int.emod_add_mul_ediv (V 1000000000 (u.drop j)) (V 1000000000 v)
  have hr0 := Int.emod_nonneg (V 1000000000 (u.drop j)) (show V 1000000000 v ≠ 0 by omega)
  have hr1 := Int.emod_lt_of_pos (V 1000000000 (u.drop j)) hvpos'
  have hQ0 : 0 ≤ Q := by rw [hQ]; exact Int.ediv_nonneg hU0 (by omega)
  rw [← hQ, Int.mul_comm] at hdm
  have hQB : Q < 1000000000 := by
   have : Q * V 1000000000 v < 1000000000 * V 1000000000 v := by omega
   exact Int.lt_of_mul_lt_mul_right this (by omega)
  obtain ⟨qq, p1, p2, p3, p4⟩ := fm_R2_law (mag a) (mag b) (cmpI a b, ()) (mag (a * s), ()) v q u j n (V 1000000000 (u.drop j)) Q hvd lv (by omega) (by omega) g7 hz rfl hUB (by omega) (by rw [Int.add_mul]; omega) hQ0 hvtop
  obtain ⟨u', r1, r2, r3, r4, r5⟩ := fm_R4_law (mag a) (mag b) (cmpI a b, ()) (mag (a * s), ()) v q u j (n + 2) qq Q hvd lv (by omega) (by omega) g7 ⟨p2, p3⟩ (by rw [w3, w4]; exact ⟨by omega, by omega⟩) hz p1 (by omega) (by omega) hQ0
  have k1 : j ≤ K + 1 := Nat.le_of_succ_le g1
  have k3 : (q.set j Q).length = K + 1 := by rw [List.length_set]; exact g3
  have k4 := Dg_set g4 ⟨hQ0, hQB⟩ j
  have k6 : u'.length = (mag a).length + 1 := by rw [r2]; exact g6
  have k8 : V 1000000000 (u'.drop j) < V 1000000000 v := by rw [r5]; omega
  have k9 : ((j : Int) - 1 + 1).toNat < ((j : Int) + 1).toNat := by omega
  refine ⟨((j : Int) - 1, q.set j Q, u', ()), ?_, ⟨j, k1, rfl, k3, k4, ?_, k6, r3, k8, ?_⟩, k9, (by first | exact True.intro | rfl)⟩
  ·exact fm_R1_law (mag a) (mag b) (cmpI a b, ()) (mag (a * s), ()) v q u j n qq _ hvd g7 lv g6 (by omega) (by omega) hvtop p4 r1
  ·intro p hp
   dsimp only
   rw [getD_set_ne _ (by omega)]
   exact g5 p (by omega)
  ·dsimp only
   rw [V_set _ (by omega), g5 j (by omega), r4, g9]
   grind
end Go.Vs
namespace Go.Vs
open Go Go.Vg
theorem ws_difference_law (n o : SgT) (y) (h : S_ws_difference (n, o, ()) = some y) : (ws_difference_t n o).toO = some y := by
 obtain ⟨⟨a, b⟩, hp, hx, rfl⟩ := spec_some h
 obtain ⟨rfl, hx2⟩ := Prod.mk.inj hx; obtain ⟨rfl, -⟩ := Prod.mk.inj hx2; dsimp only
 obtain ⟨l1, l2⟩ := hp
 simp only at l1 l2
 unfold ws_difference_t
 dsimp only
 refine uC _ (L_ws_opposite (bd_le l2 (by omega))) ?_
 refine uC (sg (a + -b), ()) (L_ws_sum l1 (by rw [Int.natAbs_neg]; exact l2)) ?_
 rw [← Int.sub_eq_add_neg]; rfl
theorem sgn_mul {a b : Int} : a * b = 0 ∨ (!(decide (a < 0) == decide (b < 0))) = decide (a * b < 0) := by
 rcases Int.lt_trichotomy a 0 with ha | ha | ha
 ·rcases Int.lt_trichotomy b 0 with hb | hb | hb
  ·right
   have := Int.mul_pos_of_neg_of_neg ha hb
   rw [decide_eq_true ha, decide_eq_true hb, decide_eq_false (by omega)]; rfl
  ·left; rw [hb, Int.mul_zero]
  ·right
   have := Int.mul_neg_of_neg_of_pos ha hb
   rw [decide_eq_true ha, decide_eq_false (by omega), decide_eq_true this]; rfl
 ·left; rw [ha, Int.zero_mul]
 ·rcases Int.lt_trichotomy b 0 with hb | hb | hb
  ·right
   have := Int.mul_neg_of_pos_of_neg ha hb
   rw [decide_eq_false (by omega), decide_eq_true hb, decide_eq_true this]; rfl
  ·left; rw [hb, Int.mul_zero]
  ·right
   have := Int.mul_pos ha hb
   rw [decide_eq_false (by omega), decide_eq_false (by omega), decide_eq_false (by omega)]; rfl
theorem ws_product_law (n o : SgT) (y) (h : S_ws_product (n, o, ()) = some y) : (ws_product_t n o).toO = some y := by
 obtain ⟨⟨a, b⟩, hp, hx, rfl⟩ := spec_some h
 obtain ⟨rfl, hx2⟩ := Prod.mk.inj hx; obtain ⟨rfl, -⟩ := Prod.mk.inj hx2; dsimp only
 obtain ⟨l1, l2⟩ := hp
 simp only at l1 l2
 unfold ws_product_t
 dsimp only
 refine uC _ (L_wm_times (bd_le l1 (by omega)) (bd_le l2 (by omega))) ?_
 exact uC (sg (a * b), ()) (L_w_of (by rw [Int.natAbs_mul]) sgn_mul) rfl
end Go.Vs
namespace Go.Vs
open Go Go.Vg
theorem bd_pow6 {a n : Nat} (h1 : Bd 0 a) (h2 : n ≤ 40) : Bd 6 (a ^ n) := by
 have h3 := mag_length_pow a n
 have h4 : n * (mag a).length ≤ 40 * (mag a).length := Nat.mul_le_mul_right _ h2
 unfold Bd at *
 omega
theorem bdq_pow6 {q : Rat} {n : Nat} (h1 : BdQ 0 q) (h2 : n ≤ 40) : BdQ 6 (q ^ n) := by
 refine ⟨?_, ?_⟩
 ·rw [Rat.num_pow, Int.natAbs_pow]; exact bd_pow6 h1.1 h2
 ·rw [Rat.den_pow]; exact bd_pow6 h1.2 h2
theorem r2_Pow_law (a : FxT) (n : Int) (y) (h : S_r2_Pow (a, n, ()) = some y) : (r2_Pow_t a n).toO = some y := by
 unfold S_r2_Pow at h
 split at h
 case isFalse => cases h
 case isTrue s1 =>
 dsimp only at h s1
 refine uC _ (L_r2_Right s1) ?_
 cases ha : rdF a with
 | none => simp only [ha] at h; exact uT rfl h
 | some q =>
  simp only [ha] at h
  refine uF rfl ?_
  by_cases c1 : n < 0
  ·rw [if_pos (Or.inl c1)] at h
   exact uT (decide_eq_true c1) h
  ·refine uF (decide_eq_false c1) ?_
   by_cases c2 : n > 40
   ·rw [if_pos (Or.inr c2)] at h
    exact uT (decide_eq_true c2) h
   ·rw [if_neg (by omega)] at h
    refine uF (decide_eq_false c2) ?_
    have b1 := rdF_bd ha
    obtain ⟨f1, rfl⟩ := rdF_some ha
    obtain ⟨k, rfl⟩ := Int.eq_ofNat_of_zero_le (show 0 ≤ n by omega)
    refine uC _ (L_r2_In f1) (uC _ (L_r2_Raised (bdq_le b1 (by omega)) (by omega)) ?_)
    exact uC _ (L_r2_Out (bdq_pow6 (bdq_le b1 (by omega)) (by omega))) h
end Go.Vs
namespace Go.Vs
open Go Go.Vg
def fallsTo (l : List Int) (j : Nat) : Bool := (List.range j).any (fun i => decide (l.getD (i + 1) 0 < l.getD i 0))
def risesTo (l : List Int) (j : Nat) : Bool := (List.range j).any (fun i => decide (l.getD (i + 1) 0 > l.getD i 0))
theorem fallsTo_succ (l : List Int) (j : Nat) : fallsTo l (j + 1) = (fallsTo l j || decide (l.getD (j + 1) 0 < l.getD j 0)) := by
 unfold fallsTo; rw [List.range_succ, List.any_append]; simp
theorem risesTo_succ (l : List Int) (j : Nat) : risesTo l (j + 1) = (risesTo l j || decide (l.getD (j + 1) 0 > l.getD j 0)) := by
 unfold risesTo; rw [List.range_succ, List.any_append]; simp
theorem rightC_len {c : CvT} (h : rightC c) : c.2.1.length ≤ 17 ∧ (c.1 = 3 → 1 ≤ c.2.2.1.length ∧ c.2.2.1.length ≤ 4) := by
 rcases h with ⟨h1, h2, h3⟩ | ⟨h1, h2, h3⟩ | ⟨h1, h2, h3⟩
 ·rw [h2]; exact ⟨by simp, fun h => by omega⟩
 ·exact ⟨h2.2.1, fun h => by omega⟩
 ·rw [h2]; exact ⟨by simp, fun _ => ⟨h3.1, h3.2.1⟩⟩
theorem c_Trend_law (c : CvT) (y) (h : S_c_Trend (c, ()) = some y) : (c_Trend_t c).toO = some y := by
 injection h with h
 subst h
 obtain ⟨kind, tab, l, u0⟩ := c
 unfold c_Trend_t
 dsimp only
 refine uC _ (L_c_Check (kind, tab, l, ())) ?_
 by_cases hr : rightC (kind, tab, l, ())
 case neg =>
  have hr' : ¬ rightC (kind, tab, l, u0) := hr
  rw [if_neg hr']
  rw [if_neg hr]
  exact uT rfl rfl
 have hr' : rightC (kind, tab, l, u0) := hr
 rw [if_pos hr']
 rw [if_pos hr]
 obtain ⟨hl1, hl2⟩ := rightC_len hr
 dsimp only at hl1 hl2
 refine uF rfl (uO (1, false, false, ()) rfl ?_)
 refine loopO_eq (fun i : Int × Bool × Bool × Unit => ∃ j : Nat, j ≤ tab.length - 1 ∧ i.1 = (j : Int) + 1 ∧ i.2.1 = fallsTo tab j ∧ i.2.2.1 = risesTo tab j) (fun i => ((tab.length : Int) - i.1).toNat) (fun _ => (trendC (kind, tab, l, u0), 0, ())) ?_ _ ⟨0, by omega, rfl, rfl, rfl⟩
 rintro ⟨i, dn, up, u⟩ ⟨j, h1, h2, h3, h4⟩
 dsimp only at h2 h3 h4
 subst h2
 simp only [c_Trend_R1]
 have hw1 : w64 ((j : Int) + 1 + 1) = (((j + 1 : Nat) : Int)) + 1 := by rw [w64_id (by omega)]; omega
 have hw2 : w64 ((j : Int) + 1 - 1) = (j : Int) := by rw [w64_id (by omega)]; omega
 have hj1 : (j : Int) + 1 = ((j + 1 : Nat) : Int) := rfl
 rcases Nat.lt_or_ge (j + 1) tab.length with hk | hk
 ·left
  refine ⟨((((j + 1 : Nat) : Int)) + 1, fallsTo tab (j + 1), risesTo tab (j + 1), ()), ?_, ⟨j + 1, by omega, rfl, rfl, rfl⟩, by dsimp only; omega, (by first | exact True.intro | rfl)⟩
  refine uT sd ?_
  rw [hw1, hw2, hj1, fallsTo_succ, risesTo_succ, ← h3, ← h4]
  simp only [gi_nat]
  cases up
  ·refine uF rfl (uN ⟨by exact sn, by exact sn⟩ (uN ⟨by exact sn, by exact sn⟩ ?_))
   cases dn
   ·exact uF rfl (uN ⟨by exact sn, by exact sn⟩ (uN ⟨by exact sn, by exact sn⟩ rfl))
   ·exact uT rfl rfl
  ·refine uT rfl ?_
   cases dn
   ·exact uF rfl (uN ⟨by exact sn, by exact sn⟩ (uN ⟨by exact sn, by exact sn⟩ rfl))
   ·exact uT rfl rfl
 ·right
  refine uF sd ?_
  have hj : j = tab.length - 1 := by omega
  subst hj
  have h3' : dn = falls tab := h3
  have h4' : up = risesTo tab (tab.length - 1) := h4
  unfold trendC
  dsimp only
  by_cases k3 : kind = 3
  ·obtain ⟨g1, g2⟩ := hl2 k3
   rw [if_pos k3]
   subst k3
   refine uT rfl (uN ⟨by exact sn, by exact sn⟩ ?_)
   have hg : gi l 0 zs = l.getD 0 zs := gi_nat l 0 zs
   rw [hg]
   by_cases g3 : l.length > 1
   ·have e1 : (!decide (len l > 1)) = false := by rw [decide_eq_true (by rw [len_eq]; omega)]; rfl
    rw [if_pos g3, e1]
    by_cases g4 : (l.getD 0 zs).2.1 < 0
    ·exact uT (decide_eq_true g4) (uF rfl rfl)
    ·exact uF (decide_eq_false g4) (uF rfl (uF rfl rfl))
   ·have e1 : (!decide (len l > 1)) = true := by rw [decide_eq_false (by rw [len_eq]; omega)]; rfl
    rw [if_neg g3, e1]
    by_cases g4 : (l.getD 0 zs).2.1 < 0
    ·rw [if_pos g4]; exact uT (decide_eq_true g4) (uT rfl rfl)
    ·rw [if_neg g4]; exact uF (decide_eq_false g4) (uT rfl rfl)
  ·rw [if_neg k3]
   have h5 : up = rises tab := h4'
   refine uF (beq_eq_false_iff_ne.2 k3) ?_
   rw [h3', h5]
   cases falls tab
   ·exact uT rfl rfl
   ·refine uF rfl ?_
    cases rises tab
    ·exact uT rfl rfl
    ·exact uF rfl rfl
end Go.Vs
set_option maxRecDepth 100000
namespace Go.Vs
open Go Go.Vg Go.Proofs
noncomputable section
def cp_line_L : LTab := []
def cp_line_t (p : (Int × Int × Int × Int × Int × Int × Unit) × Int × Bool × Unit) (x : List UInt8 × List UInt8 × Unit) : TT ((List UInt8 × List UInt8 × Unit) × Int × Unit) :=
 .call (S_c_integer (p.1.2.1, ())) Dd19 fun y =>
 .call (S_f_Mul (y.1, (x.1, x.2.1, ()), ())) Dd14 fun y1 =>
 .ite (y1.2.1 != 0)
 (.ok (((#[].toList, #[].toList, ()), y1.2.1, ())))
 (.call (S_c_integer (p.1.2.2.1, ())) Dd19 fun y2 =>
 .call (S_f_Add ((y1.1.1, y1.1.2.1, ()), y2.1, ())) Dd14 fun y3 =>
 .ite (y3.2.1 != 0)
 (.ok (((#[].toList, #[].toList, ()), y3.2.1, ())))
 (.call (S_c_integer (1000000, ())) Dd19 fun y4 =>
 .call (S_f_Div ((y3.1.1, y3.1.2.1, ()), y4.1, ())) Dd14 fun y5 =>
 .ok (((y5.1.1, y5.1.2.1, ()), y5.2.1, ()))))
def cc_identity_L : LTab := []
def cc_identity_t (c : (Int × List Int × List (Int × Int × Int × Int × Int × Int × Unit) × Unit) × Unit) (x : List UInt8 × List UInt8 × Unit) : TT ((List UInt8 × List UInt8 × Unit) × Int × Unit) :=
 .ok (((x.1, x.2.1, ()), 0, ()))
def cc_formula_L : LTab := [(47, 27, 5120, { tag := 0, ι := (Int) × (Int) × (Int) × (Int) × (Int) × (Int) × (Int) × (Bool) × Unit, vs := .dat (.c 4 0) (Ty.int IntKind.i64) <| .dat (.c 4 1) (Ty.int IntKind.i64) <| .dat (.c 4 2) (Ty.int IntKind.i64) <| .dat (.c 4 3) (Ty.int IntKind.i64) <| .dat (.c 4 4) (Ty.int IntKind.i64) <| .dat (.c 4 5) (Ty.int IntKind.i64) <| .dat (.c 4 6) (Ty.int IntKind.i64) <| .dat (.c 4 7) (Ty.bool) <| .nil, ks := [6, 5, 4, 3], kh := [4, 2, 1, 0], fresh := 0 }), (128, 14, 17408, { tag := 1, ι := (Int) × (Int) × (Int) × (Int) × (Int) × (Int) × (Int) × (Int) × (Int) × (Bool) × Unit, vs := .dat (.s 9) (Ty.int IntKind.i64) <| .dat (.s 3) (Ty.int IntKind.i64) <| .dat (.c 4 0) (Ty.int IntKind.i64) <| .dat (.c 4 1) (Ty.int IntKind.i64) <| .dat (.c 4 2) (Ty.int IntKind.i64) <| .dat (.c 4 3) (Ty.int IntKind.i64) <| .dat (.c 4 4) (Ty.int IntKind.i64) <| .dat (.c 4 5) (Ty.int IntKind.i64) <| .dat (.c 4 6) (Ty.int IntKind.i64) <| .dat (.c 4 7) (Ty.bool) <| .nil, ks := [8, 7, 0], kh := [11, 7, 4, 2, 1, 0], fresh := 0 }), (47, 447, 19456, { tag := 2, ι := (List UInt8) × (List UInt8) × Unit, vs := .dat (.c 15 0) (Ty.str) <| .dat (.c 15 1) (Ty.str) <| .nil, ks := [10, 6, 5, 4], kh := [15, 4, 2, 1, 0], fresh := 0 }), (47, 28666, 28672, { tag := 3, ι := (Int) × (List UInt8) × (List UInt8) × Unit, vs := .dat (.s 62) (Ty.int IntKind.i64) <| .dat (.c 20 0) (Ty.str) <| .dat (.c 20 1) (Ty.str) <| .nil, ks := [61, 15, 14, 6, 4], kh := [20, 15, 4, 2, 1, 0], fresh := 0 })]
def cc_formula_R1 (c : (Int × List Int × List (Int × Int × Int × Int × Int × Int × Unit) × Unit) × Unit) (x : List UInt8 × List UInt8 × Unit) (i : (Int) × (Int) × (Int) × (Int) × (Int) × (Int) × (Int) × (Int) × (Int) × (Bool) × Unit) : TT (((Int) × (Int) × (Int) × (Int) × (Int) × (Int) × (Int) × (Int) × (Int) × (Bool) × Unit) ⊕ (((Int) × (Int) × (Int) × (Int) × (Int) × (Int) × (Int) × (Bool) × Unit) ⊕ ((List UInt8 × List UInt8 × Unit) × Int × Unit))) :=
 .ite (decide (i.1 < len c.1.2.2.1))
 (.need (inb i.1 (len c.1.2.2.1)) <| .call (S_c_over ((gi c.1.2.2.1 i.1 (0, 0, 0, 0, 0, 0, ())).1, 1000000, ())) Dd19 fun y =>
 .call (S_f_Cmp ((x.1, x.2.1, ()), y.1, ())) Dd15 fun y1 =>
 .ite (decide (y1.1 ≤ 0))
 (.tt <| .lt ((gi c.1.2.2.1 i.1 (0, 0, 0, 0, 0, 0, ())).1 : Int) fun z => .lt ((gi c.1.2.2.1 i.1 (0, 0, 0, 0, 0, 0, ())).2.1 : Int) fun z1 => .lt ((gi c.1.2.2.1 i.1 (0, 0, 0, 0, 0, 0, ())).2.2.1 : Int) fun z2 => .lt ((gi c.1.2.2.1 i.1 (0, 0, 0, 0, 0, 0, ())).2.2.2.1 : Int) fun z3 => .lt ((gi c.1.2.2.1 i.1 (0, 0, 0, 0, 0, 0, ())).2.2.2.2.1 : Int) fun z4 => .lt ((gi c.1.2.2.1 i.1 (0, 0, 0, 0, 0, 0, ())).2.2.2.2.2.1 : Int) fun z5 => .lt (i.2.1 : Int) fun z6 => .lt (i.1 == 0 : Bool) fun z7 => .triv ((Qq 4 ∧ Qq 0 ∧ Qq true) ∧ Qq (0 : Int) ∧ (Qq 2 ∧ Qq 0 ∧ Qq true) ∧ (Qq 1 ∧ Qq 0 ∧ Qq true) ∧ True) tv <| .triv ((Qq (122 : TypeId) ∧ Qq z ∧ Qq z1 ∧ Qq z2 ∧ Qq z3 ∧ Qq z4 ∧ Qq z5 ∧ Qq z6 ∧ Qq z7 ∧ True) ∧ Qq true ∧ (Qq (36 : TypeId) ∧ Qq (#[].toList : List UInt8) ∧ Qq (#[].toList : List UInt8) ∧ True) ∧ Qq true ∧ (Qq (36 : TypeId) ∧ Qq x.1 ∧ Qq x.2.1 ∧ True) ∧ Qq true ∧ (Qq (96 : TypeId) ∧ Qq c.1.1 ∧ Qq c.1.2.1 ∧ Qq c.1.2.2.1 ∧ True) ∧ Qq true ∧ True) tv <| .ok (.inr (.inl ((z, z1, z2, z3, z4, z5, z6, z7, ())))))
 (.tt <| .lt (w64 (i.1 + 1) : Int) fun z8 => .lt ((gi c.1.2.2.1 i.1 (0, 0, 0, 0, 0, 0, ())).1 : Int) fun z9 => .lt ((gi c.1.2.2.1 i.1 (0, 0, 0, 0, 0, 0, ())).2.1 : Int) fun z10 => .lt ((gi c.1.2.2.1 i.1 (0, 0, 0, 0, 0, 0, ())).2.2.1 : Int) fun z11 => .lt ((gi c.1.2.2.1 i.1 (0, 0, 0, 0, 0, 0, ())).2.2.2.1 : Int) fun z12 => .lt ((gi c.1.2.2.1 i.1 (0, 0, 0, 0, 0, 0, ())).2.2.2.2.1 : Int) fun z13 => .lt ((gi c.1.2.2.1 i.1 (0, 0, 0, 0, 0, 0, ())).2.2.2.2.2.1 : Int) fun z14 => .lt (i.2.1 : Int) fun z15 => .lt (i.1 == 0 : Bool) fun z16 => .triv (Qq z9 ∧ Qq z8 ∧ Qq (len c.1.2.2.1) ∧ Qq c.1.2.2.1 ∧ (Qq 11 ∧ Qq true) ∧ True) tv <| .triv ((Qq (LoopState.ready : LoopState) ∧ Qq (none : Option Code) ∧ Qq 86 ∧ Qq (#[20] : Array Tmp) ∧ Qq (subC (codeOf Tryz.f47) [1, 0, 1, 1, 0, 1, 0, 0]) ∧ Qq (subC (codeOf Tryz.f47) [1, 0, 1, 1, 0, 1, 0, 1]) ∧ (Qq (128 : FuncId) ∧ True ∧ (Qq 7 ∧ Qq 0 ∧ Qq true) ∧ True) ∧ Qq ((c.1.1, c.1.2.1, c.1.2.2.1, ()) : Int × List Int × List (Int × Int × Int × Int × Int × Int × Unit) × Unit) ∧ (Qq 0 ∧ Qq 0 ∧ Qq true) ∧ (Qq 4 ∧ Qq 0 ∧ Qq true) ∧ Qq (0 : Int) ∧ (Qq 2 ∧ Qq 0 ∧ Qq true) ∧ (Qq 1 ∧ Qq 0 ∧ Qq true) ∧ (Qq 0 ∧ Qq 0 ∧ Qq true) ∧ Qq c ∧ Qq x ∧ True) ∧ Qq true ∧ (Qq (42 : TypeId) ∧ Qq c.1.1 ∧ Qq c.1.2.1 ∧ Qq c.1.2.2.1 ∧ True) ∧ Qq true ∧ (Qq (122 : TypeId) ∧ Qq z9 ∧ Qq z10 ∧ Qq z11 ∧ Qq z12 ∧ Qq z13 ∧ Qq z14 ∧ Qq z15 ∧ Qq z16 ∧ True) ∧ Qq true ∧ (Qq (36 : TypeId) ∧ Qq (#[].toList : List UInt8) ∧ Qq (#[].toList : List UInt8) ∧ True) ∧ Qq true ∧ (Qq (36 : TypeId) ∧ Qq x.1 ∧ Qq x.2.1 ∧ True) ∧ Qq true ∧ (Qq (96 : TypeId) ∧ Qq c.1.1 ∧ Qq c.1.2.1 ∧ Qq c.1.2.2.1 ∧ True) ∧ Qq true ∧ True) tv <| .ok (.inl ((z8, z9, z9, z10, z11, z12, z13, z14, z15, z16, ())))))
 (.tt <| .lt (i.2.2.1 : Int) fun z17 => .lt (i.2.2.2.1 : Int) fun z18 => .lt (i.2.2.2.2.1 : Int) fun z19 => .lt (i.2.2.2.2.2.1 : Int) fun z20 => .lt (i.2.2.2.2.2.2.1 : Int) fun z21 => .lt (i.2.2.2.2.2.2.2.1 : Int) fun z22 => .lt (i.2.2.2.2.2.2.2.2.1 : Int) fun z23 => .lt (i.2.2.2.2.2.2.2.2.2.1 : Bool) fun z24 => .triv ((Qq 4 ∧ Qq 0 ∧ Qq true) ∧ Qq (0 : Int) ∧ (Qq 2 ∧ Qq 0 ∧ Qq true) ∧ (Qq 1 ∧ Qq 0 ∧ Qq true) ∧ True) tv <| .triv ((Qq (122 : TypeId) ∧ Qq z17 ∧ Qq z18 ∧ Qq z19 ∧ Qq z20 ∧ Qq z21 ∧ Qq z22 ∧ Qq z23 ∧ Qq z24 ∧ True) ∧ Qq true ∧ (Qq (36 : TypeId) ∧ Qq (#[].toList : List UInt8) ∧ Qq (#[].toList : List UInt8) ∧ True) ∧ Qq true ∧ (Qq (36 : TypeId) ∧ Qq x.1 ∧ Qq x.2.1 ∧ True) ∧ Qq true ∧ (Qq (96 : TypeId) ∧ Qq c.1.1 ∧ Qq c.1.2.1 ∧ Qq c.1.2.2.1 ∧ True) ∧ Qq true ∧ True) tv <| .ok (.inr (.inl ((z17, z18, z19, z20, z21, z22, z23, z24, ())))))
def cc_formula_R4 (c : (Int × List Int × List (Int × Int × Int × Int × Int × Int × Unit) × Unit) × Unit) (x : List UInt8 × List UInt8 × Unit) (j : Int × Int × Int × Int × Int × Int × Int × Bool × Unit) (y2 : (List UInt8 × List UInt8 × Unit) × Int × Unit) (j1 : List UInt8 × List UInt8 × Unit) (i1 : (Int) × (List UInt8) × (List UInt8) × Unit) : TT (((Int) × (List UInt8) × (List UInt8) × Unit) ⊕ ((List UInt8 × List UInt8 × Unit) × Int × Unit)) :=
 .ite (decide (i1.1 < w64 (j.2.2.2.1 - 1)))
 (.tt <| .tt <| .call (S_f_Mul ((i1.2.1, i1.2.2.1, ()), (j1.1, j1.2.1, ()), ())) Dd14 fun y5 =>
 .ite (y5.2.1 != 0)
 (.ok (.inr (((#[].toList, #[].toList, ()), y5.2.1, ()))))
 (.tt <| .lt (w64 (i1.1 + 1) : Int) fun z30 => .lt (y5.1.1 : List UInt8) fun z31 => .lt (y5.1.2.1 : List UInt8) fun z32 => .triv (Qq z30 ∧ Qq (w64 (j.2.2.2.1 - 1)) ∧ (Qq (103 : FuncId) ∧ True ∧ (Qq 20 ∧ Qq 0 ∧ Qq true) ∧ (Qq 15 ∧ Qq 0 ∧ Qq true) ∧ True) ∧ (Qq 20 ∧ Qq 0 ∧ Qq true) ∧ (Qq 4 ∧ Qq 0 ∧ Qq true) ∧ (Qq 2 ∧ Qq 0 ∧ Qq true) ∧ True) tv <| .triv ((Qq (36 : TypeId) ∧ Qq z31 ∧ Qq z32 ∧ True) ∧ Qq true ∧ (Qq (36 : TypeId) ∧ Qq j1.1 ∧ Qq j1.2.1 ∧ True) ∧ Qq true ∧ (Qq (122 : TypeId) ∧ Qq j.1 ∧ Qq j.2.1 ∧ Qq j.2.2.1 ∧ Qq j.2.2.2.1 ∧ Qq j.2.2.2.2.1 ∧ Qq j.2.2.2.2.2.1 ∧ Qq j.2.2.2.2.2.2.1 ∧ Qq j.2.2.2.2.2.2.2.1 ∧ True) ∧ Qq true ∧ (Qq (36 : TypeId) ∧ Qq (#[].toList : List UInt8) ∧ Qq (#[].toList : List UInt8) ∧ True) ∧ Qq true ∧ (Qq (36 : TypeId) ∧ Qq x.1 ∧ Qq x.2.1 ∧ True) ∧ Qq true ∧ (Qq (96 : TypeId) ∧ Qq c.1.1 ∧ Qq c.1.2.1 ∧ Qq c.1.2.2.1 ∧ True) ∧ Qq true ∧ True) tv <| .ok (.inl ((z30, z31, z32, ())))))
 (.call (S_c_over (j.2.2.2.2.2.1, 1000000, ())) Dd19 fun y6 =>
 .call (S_f_Add ((i1.2.1, i1.2.2.1, ()), y6.1, ())) Dd14 fun y7 =>
 .ite (y7.2.1 != 0)
 (.ok (.inr (((#[].toList, #[].toList, ()), y7.2.1, ()))))
 (.call (S_c_clampFrac ((y7.1.1, y7.1.2.1, ()), ())) Dd19 fun y8 =>
 .ok (.inr (((y8.1.1, y8.1.2.1, ()), 0, ())))))
def cc_formula_R3 (c : (Int × List Int × List (Int × Int × Int × Int × Int × Int × Unit) × Unit) × Unit) (x : List UInt8 × List UInt8 × Unit) (j : Int × Int × Int × Int × Int × Int × Int × Bool × Unit) (y2 : (List UInt8 × List UInt8 × Unit) × Int × Unit) (j1 : (List UInt8) × (List UInt8) × Unit) : TT ((List UInt8 × List UInt8 × Unit) × Int × Unit) :=
 .loop 3 (.tt <| .lt (j1.2.1 : List UInt8) fun z29 => .triv (Qq (0 : Int) ∧ Qq (w64 (j.2.2.2.1 - 1)) ∧ (Qq (103 : FuncId) ∧ True ∧ (Qq 20 ∧ Qq 0 ∧ Qq true) ∧ (Qq 15 ∧ Qq 0 ∧ Qq true) ∧ True) ∧ (Qq 20 ∧ Qq 0 ∧ Qq true) ∧ (Qq 4 ∧ Qq 0 ∧ Qq true) ∧ (Qq 2 ∧ Qq 0 ∧ Qq true) ∧ True) tv <| .triv ((Qq (36 : TypeId) ∧ Qq j1.1 ∧ Qq z29 ∧ True) ∧ Qq true ∧ (Qq (36 : TypeId) ∧ Qq j1.1 ∧ Qq z29 ∧ True) ∧ Qq true ∧ (Qq (122 : TypeId) ∧ Qq j.1 ∧ Qq j.2.1 ∧ Qq j.2.2.1 ∧ Qq j.2.2.2.1 ∧ Qq j.2.2.2.2.1 ∧ Qq j.2.2.2.2.2.1 ∧ Qq j.2.2.2.2.2.2.1 ∧ Qq j.2.2.2.2.2.2.2.1 ∧ True) ∧ Qq true ∧ (Qq (36 : TypeId) ∧ Qq (#[].toList : List UInt8) ∧ Qq (#[].toList : List UInt8) ∧ True) ∧ Qq true ∧ (Qq (36 : TypeId) ∧ Qq x.1 ∧ Qq x.2.1 ∧ True) ∧ Qq true ∧ (Qq (96 : TypeId) ∧ Qq c.1.1 ∧ Qq c.1.2.1 ∧ Qq c.1.2.2.1 ∧ True) ∧ Qq true ∧ True) tv <| .ok ((0, j1.1, z29, ()))) (cc_formula_R4 c x j y2 j1)
def cc_formula_R2 (c : (Int × List Int × List (Int × Int × Int × Int × Int × Int × Unit) × Unit) × Unit) (x : List UInt8 × List UInt8 × Unit) (j : (Int) × (Int) × (Int) × (Int) × (Int) × (Int) × (Int) × (Bool) × Unit) : TT ((List UInt8 × List UInt8 × Unit) × Int × Unit) :=
 .ite (j.2.2.2.2.1 != 1)
 (.ok (((#[].toList, #[].toList, ()), 5, ())))
 (.call (S_cp_line (((j.1, j.2.1, j.2.2.1, j.2.2.2.1, j.2.2.2.2.1, j.2.2.2.2.2.1, ()), j.2.2.2.2.2.2.1, j.2.2.2.2.2.2.2.1, ()), (x.1, x.2.1, ()), ())) Dd14 fun y2 =>
 .ite (y2.2.1 != 0)
 (.ok (((#[].toList, #[].toList, ()), y2.2.1, ())))
 (.join 2 (ι := (List UInt8) × (List UInt8) × Unit) (.call (S_f_Sign ((y2.1.1, y2.1.2.1, ()), ())) Dd15 fun y3 =>
 .ite (decide (y3.1 < 0))
 (.call (S_c_integer (0, ())) Dd19 fun y4 =>
 .tt <| .lt (y4.1.1 : List UInt8) fun z25 => .lt (y4.1.2.1 : List UInt8) fun z26 => .triv ((Qq 15 ∧ Qq 0 ∧ Qq true) ∧ (Qq 4 ∧ Qq 0 ∧ Qq true) ∧ Qq (0 : Int) ∧ (Qq 2 ∧ Qq 0 ∧ Qq true) ∧ True) tv <| .triv ((Qq (36 : TypeId) ∧ Qq z25 ∧ Qq z26 ∧ True) ∧ Qq true ∧ (Qq (122 : TypeId) ∧ Qq j.1 ∧ Qq j.2.1 ∧ Qq j.2.2.1 ∧ Qq j.2.2.2.1 ∧ Qq j.2.2.2.2.1 ∧ Qq j.2.2.2.2.2.1 ∧ Qq j.2.2.2.2.2.2.1 ∧ Qq j.2.2.2.2.2.2.2.1 ∧ True) ∧ Qq true ∧ (Qq (36 : TypeId) ∧ Qq (#[].toList : List UInt8) ∧ Qq (#[].toList : List UInt8) ∧ True) ∧ Qq true ∧ (Qq (36 : TypeId) ∧ Qq x.1 ∧ Qq x.2.1 ∧ True) ∧ Qq true ∧ (Qq (96 : TypeId) ∧ Qq c.1.1 ∧ Qq c.1.2.1 ∧ Qq c.1.2.2.1 ∧ True) ∧ Qq true ∧ True) tv <| .ok (.inl ((z25, z26, ()))))
 (.tt <| .lt (y2.1.1 : List UInt8) fun z27 => .lt (y2.1.2.1 : List UInt8) fun z28 => .triv ((Qq 15 ∧ Qq 0 ∧ Qq true) ∧ (Qq 4 ∧ Qq 0 ∧ Qq true) ∧ Qq (0 : Int) ∧ (Qq 2 ∧ Qq 0 ∧ Qq true) ∧ True) tv <| .triv ((Qq (36 : TypeId) ∧ Qq z27 ∧ Qq z28 ∧ True) ∧ Qq true ∧ (Qq (122 : TypeId) ∧ Qq j.1 ∧ Qq j.2.1 ∧ Qq j.2.2.1 ∧ Qq j.2.2.2.1 ∧ Qq j.2.2.2.2.1 ∧ Qq j.2.2.2.2.2.1 ∧ Qq j.2.2.2.2.2.2.1 ∧ Qq j.2.2.2.2.2.2.2.1 ∧ True) ∧ Qq true ∧ (Qq (36 : TypeId) ∧ Qq (#[].toList : List UInt8) ∧ Qq (#[].toList : List UInt8) ∧ True) ∧ Qq true ∧ (Qq (36 : TypeId) ∧ Qq x.1 ∧ Qq x.2.1 ∧ True) ∧ Qq true ∧ (Qq (96 : TypeId) ∧ Qq c.1.1 ∧ Qq c.1.2.1 ∧ Qq c.1.2.2.1 ∧ True) ∧ Qq true ∧ True) tv <| .ok (.inl ((z27, z28, ()))))) (cc_formula_R3 c x j y2)))
def cc_formula_t (c : (Int × List Int × List (Int × Int × Int × Int × Int × Int × Unit) × Unit) × Unit) (x : List UInt8 × List UInt8 × Unit) : TT ((List UInt8 × List UInt8 × Unit) × Int × Unit) :=
 .join 0 (ι := (Int) × (Int) × (Int) × (Int) × (Int) × (Int) × (Int) × (Bool) × Unit) (.tt <| .tt <| .tt <| .tt <| .loop 1 (.tt <| .triv (Qq (0 : Int) ∧ Qq (0 : Int) ∧ Qq (len c.1.2.2.1) ∧ Qq c.1.2.2.1 ∧ (Qq 11 ∧ Qq true) ∧ True) tv <| .triv ((Qq (LoopState.ready : LoopState) ∧ Qq (none : Option Code) ∧ Qq 86 ∧ Qq (#[20] : Array Tmp) ∧ Qq (subC (codeOf Tryz.f47) [1, 0, 1, 1, 0, 1, 0, 0]) ∧ Qq (subC (codeOf Tryz.f47) [1, 0, 1, 1, 0, 1, 0, 1]) ∧ (Qq (128 : FuncId) ∧ True ∧ (Qq 7 ∧ Qq 0 ∧ Qq true) ∧ True) ∧ Qq ((c.1.1, c.1.2.1, c.1.2.2.1, ()) : Int × List Int × List (Int × Int × Int × Int × Int × Int × Unit) × Unit) ∧ (Qq 0 ∧ Qq 0 ∧ Qq true) ∧ (Qq 4 ∧ Qq 0 ∧ Qq true) ∧ Qq (0 : Int) ∧ (Qq 2 ∧ Qq 0 ∧ Qq true) ∧ (Qq 1 ∧ Qq 0 ∧ Qq true) ∧ (Qq 0 ∧ Qq 0 ∧ Qq true) ∧ Qq c ∧ Qq x ∧ True) ∧ Qq true ∧ (Qq (42 : TypeId) ∧ Qq c.1.1 ∧ Qq c.1.2.1 ∧ Qq c.1.2.2.1 ∧ True) ∧ Qq true ∧ (Qq (122 : TypeId) ∧ Qq (0 : Int) ∧ Qq (0 : Int) ∧ Qq (0 : Int) ∧ Qq (0 : Int) ∧ Qq (0 : Int) ∧ Qq (0 : Int) ∧ Qq (0 : Int) ∧ Qq false ∧ True) ∧ Qq true ∧ (Qq (36 : TypeId) ∧ Qq (#[].toList : List UInt8) ∧ Qq (#[].toList : List UInt8) ∧ True) ∧ Qq true ∧ (Qq (36 : TypeId) ∧ Qq x.1 ∧ Qq x.2.1 ∧ True) ∧ Qq true ∧ (Qq (96 : TypeId) ∧ Qq c.1.1 ∧ Qq c.1.2.1 ∧ Qq c.1.2.2.1 ∧ True) ∧ Qq true ∧ True) tv <| .ok ((0, 0, 0, 0, 0, 0, 0, 0, 0, false, ()))) (cc_formula_R1 c x)) (cc_formula_R2 c x)
def c_Eval_L : LTab := []
def c_Eval_t (c : Int × List Int × List (Int × Int × Int × Int × Int × Int × Unit) × Unit) (x : List UInt8 × List UInt8 × Unit) : TT ((List UInt8 × List UInt8 × Unit) × Int × Unit) :=
 .call (S_c_Check ((c.1, c.2.1, c.2.2.1, ()), ())) Dd6 fun y =>
 .ite (y.1 != 0)
 (.ok (((#[].toList, #[].toList, ()), y.1, ())))
 (.call (S_f_Check ((x.1, x.2.1, ()), ())) Dd6 fun y1 =>
 .ite (y1.1 != 0)
 (.ok (((#[].toList, #[].toList, ()), y1.1, ())))
 (.need (inb (w64 (c.1 - 1)) (↑3 : Int)) <| .ite (w64 (c.1 - 1) == (↑2 : Int))
 (.call (S_c_clampFrac ((x.1, x.2.1, ()), ())) Dd19 fun y2 =>
 .call (S_cc_formula (((c.1, c.2.1, c.2.2.1, ()), ()), y2.1, ())) Dd14 fun y3 =>
 .ok (((y3.1.1, y3.1.2.1, ()), y3.2.1, ())))
 (.ite (w64 (c.1 - 1) == (↑1 : Int))
 (.call (S_c_clampFrac ((x.1, x.2.1, ()), ())) Dd19 fun y4 =>
 .call (S_cc_table (((c.1, c.2.1, c.2.2.1, ()), ()), y4.1, ())) Dd14 fun y5 =>
 .ok (((y5.1.1, y5.1.2.1, ()), y5.2.1, ())))
 (.ite (w64 (c.1 - 1) == (↑0 : Int))
 (.call (S_c_clampFrac ((x.1, x.2.1, ()), ())) Dd19 fun y6 =>
 .call (S_cc_identity (((c.1, c.2.1, c.2.2.1, ()), ()), y6.1, ())) Dd14 fun y7 =>
 .ok (((y7.1.1, y7.1.2.1, ()), y7.2.1, ())))
 (.bad)))))
end
end Go.Vs
namespace Go.Vs
open Go Go.Vg
theorem L_r9_of {n : Int} {d : Nat} (hn : inI64 n) (hd : d ≠ 0) (h2 : d ≤ 9223372036854775807) : S_r9_of (n, (d : Int), ()) = some (fx (mkRat n d), ()) := L_c_over hn hd h2
end Go.Vs
namespace Go.Vs
open Go Go.Vg
theorem shF_fx {q : Rat} (h : FitQ q) : shF (fx q) := by
 obtain ⟨h1, h2⟩ := h
 unfold Fit at h1 h2
 refine ⟨?_, ?_⟩
 ·show (dec q.num).length ≤ 1000000000000
  have := dec_length_le q.num
  omega
 ·show (dec (q.den : Int)).length ≤ 1000000000000
  have := dec_length_le (q.den : Int)
  omega
end Go.Vs
namespace Go.Vs
open Go Go.Vg
theorem wrF_step (q : Rat) : wrF q = outF (stepQ q) := by
 unfold wrF stepQ
 by_cases c : FitQ q
 ·rw [if_pos c, if_pos c]; rfl
 ·rw [if_neg c, if_neg c]; rfl
theorem stepQ_fit {q p : Rat} (h : stepQ q = some p) : FitQ p ∧ p = q := by
 unfold stepQ at h
 split at h
 ·injection h with h; subst h; exact ⟨by assumption, rfl⟩
 ·cases h
theorem L_f_MulS {p q : Rat} (h1 : FitQ p) (h2 : FitQ q) : S_f_Mul (fx p, fx q, ()) = some (outF (stepQ (p * q))) := by
 unfold S_f_Mul op2F; dsimp only; rw [rdF_fx h1, rdF_fx h2, ← wrF_step]
theorem L_f_AddS {p q : Rat} (h1 : FitQ p) (h2 : FitQ q) : S_f_Add (fx p, fx q, ()) = some (outF (stepQ (p + q))) := by
 unfold S_f_Add op2F; dsimp only; rw [rdF_fx h1, rdF_fx h2, ← wrF_step]
theorem L_f_SubS {p q : Rat} (h1 : FitQ p) (h2 : FitQ q) : S_f_Sub (fx p, fx q, ()) = some (outF (stepQ (p - q))) := by
 unfold S_f_Sub op2F; dsimp only; rw [rdF_fx h1, rdF_fx h2, ← wrF_step]
theorem L_f_DivS {p q : Rat} (h1 : FitQ p) (h2 : FitQ q) (h3 : q ≠ 0) : S_f_Div (fx p, fx q, ()) = some (outF (stepQ (p / q))) := by
 unfold S_f_Div; dsimp only; rw [rdF_fx h1, rdF_fx h2]; dsimp only; rw [if_neg h3, ← wrF_step]
theorem L_r2_MulS {p q : Rat} (h1 : FitQ p) (h2 : FitQ q) : S_r2_Mul (fx p, fx q, ()) = some (outF (stepQ (p * q))) := by
 unfold S_r2_Mul; rw [if_pos ⟨shF_fx h1, shF_fx h2⟩]; exact L_f_MulS h1 h2
theorem mk1_ne {n : Int} (h : n ≠ 0) : mkRat n 1 ≠ 0 := by
 rw [mkRat_one]; intro e; exact h (Rat.intCast_eq_zero_iff.1 e)
theorem inR_i64 {n a b : Int} (h : inR n a b) (h1 : -9223372036854775808 ≤ a) (h2 : b ≤ 9223372036854775807) : inI64 n := ⟨by have := h.1; omega, by have := h.2; omega⟩
theorem cp_line_law (p : PcT) (x : FxT) (y) (h : S_cp_line (p, x, ()) = some y) : (cp_line_t p x).toO = some y := by
 obtain ⟨⟨p', q⟩, ⟨hq, hn⟩, hx, rfl⟩ := spec_some h
 obtain ⟨rfl, hx2⟩ := Prod.mk.inj hx; obtain ⟨rfl, -⟩ := Prod.mk.inj hx2; dsimp only
 dsimp only at hq hn
 have im := inR_i64 hn.1 (by omega) (by omega)
 have ia := inR_i64 hn.2.1 (by omega) (by omega)
 have i6 : inI64 1000000 := ⟨by omega, by omega⟩
 unfold cp_line_t
 unfold lineQ
 refine uC _ (L_c_integer im) (uC _ (L_f_MulS (fitQ_int im) hq) ?_)
 cases h1 : stepQ (mkRat p.1.2.1 1 * q) with
 | none => exact uT rfl rfl
 | some u =>
  have hu := (stepQ_fit h1).1
  refine uF rfl (uC _ (L_c_integer ia) (uC _ (L_f_AddS hu (fitQ_int ia)) ?_))
  simp only [Option.bind_some]
  cases h2 : stepQ (u + mkRat p.1.2.2.1 1) with
  | none => exact uT rfl rfl
  | some v =>
   have hv := (stepQ_fit h2).1
   exact uF rfl (uC _ (L_c_integer i6) (uC _ (L_f_DivS hv (fitQ_int i6) (mk1_ne (by omega))) rfl))
end Go.Vs
namespace Go.Vs
open Go Go.Vg
theorem fitQ_zero : FitQ 0 := by have := fitQ_int (n := 0) ⟨by omega, by omega⟩; rwa [mkRat_one] at this
theorem mk01 : mkRat 0 1 = (0 : Rat) := by rw [mkRat_one]; rfl
theorem posQ_fit {u : Rat} (h : FitQ u) : FitQ (posQ u) := by
 unfold posQ; split
 ·exact fitQ_zero
 ·exact h
theorem fitQ_micro {n : Int} (h : inI64 n) : FitQ (mkRat n 1000000) := fitQ_mk (by omega) (fit_small h) (fit_small ⟨by omega, by omega⟩)
theorem sign_neg_iff (u : Rat) : u.num.sign < 0 ↔ u < 0 := by
 have e : u < 0 ↔ u.num < 0 := by rw [← Rat.not_le, ← Rat.num_nonneg]; omega
 rw [e]
 constructor
 ·intro h
  rcases Int.lt_trichotomy u.num 0 with g | g | g
  ·exact g
  ·rw [g] at h; exact absurd h (by decide)
  ·rw [Int.sign_eq_one_of_pos g] at h; omega
 ·intro h; rw [Int.sign_eq_neg_one_of_neg h]; omega
noncomputable def endQ (off : Int) (y : Rat) : Option Rat := (stepQ (y + mkRat off 1000000)).map clampQ
theorem segsOk_last : ∀ (l : List SegT) (last : Int), segsOk last l → last ≠ 1000000 → ∃ s ∈ l, s.1 = 1000000
 | [], _, h, hn => absurd h hn
 | s :: r, last, h, _ => by
  by_cases c : s.1 = 1000000
  ·exact ⟨s, List.mem_cons_self .., c⟩
  ·obtain ⟨t, ht, e⟩ := segsOk_last r s.1 h.2 c
   exact ⟨t, List.mem_cons_of_mem _ ht, e⟩
theorem micro_one : mkRat 1000000 1000000 = (1 : Rat) := by decide
theorem partN_lt {x : Rat} {l : List SegT} (h : segLOk l) (hx : x ≤ 1) : partN x l < l.length := by
 obtain ⟨s, hs, e⟩ := segsOk_last l 0 h.2.2 (by omega)
 exact List.findIdx_lt_length_of_exists ⟨s, hs, decide_eq_true (by rw [e, micro_one]; exact hx)⟩
theorem segsOk_mem : ∀ (l : List SegT) (last : Int), 0 ≤ last → segsOk last l → ∀ s ∈ l, numsOk s ∧ inR s.1 0 1000000
 | [], _, _, _, s, hs => by cases hs
 | t :: r, last, h0, h, s, hs => by
  have a := h.1.2.1
  rcases List.mem_cons.1 hs with e | e
  ·subst e; exact ⟨h.1.1, by omega, h.1.2.2⟩
  ·exact segsOk_mem r t.1 (by omega) h.2 s e
theorem cc_formula_R4_law (c : CvT × Unit) (x : FxT) (j : Int × Int × Int × Int × Int × Int × Int × Bool × Unit) (y2 : FxT × Int × Unit) (u : Rat) (hu : FitQ u) (h1 : inR j.2.2.2.1 1 36) (io : inI64 j.2.2.2.2.2.1) :
  loopO (fun i1 => (cc_formula_R4 c x j y2 (fx u) i1).toO) (0, dec u.num, decN u.den, ()) = some (outF ((powLoopQ u (j.2.2.2.1 - 1).toNat u).bind (endQ j.2.2.2.2.2.1))) := by
 obtain ⟨n, hn⟩ : ∃ n : Nat, j.2.2.2.1 - 1 = (n : Int) := Int.eq_ofNat_of_zero_le (by have := h1.1; omega)
 have hn2 : n ≤ 35 := by have := h1.2; omega
 have hw : w64 (j.2.2.2.1 - 1) = (n : Int) := by rw [w64_id (by omega)]; exact hn
 rw [hn, Int.toNat_natCast]
 refine loopO_eq (fun i : Int × List UInt8 × List UInt8 × Unit => ∃ (k : Nat) (q : Rat), k ≤ n ∧ i = ((k : Int), dec q.num, decN q.den, ()) ∧ FitQ q ∧ powLoopQ u n u = powLoopQ u (n - k) q) (fun i => ((n : Int) - i.1).toNat) (fun _ => outF ((powLoopQ u n u).bind (endQ j.2.2.2.2.2.1))) ?_ _ ⟨0, u, by omega, rfl, hu, rfl⟩
 rintro i ⟨k, q, k1, rfl, hq, k2⟩
 simp only [cc_formula_R4, hw]
 rcases Nat.lt_or_ge k n with hk | hk
 ·obtain ⟨m, hm⟩ : ∃ m, n - k = m + 1 := ⟨n - k - 1, by omega⟩
  rw [hm, show powLoopQ u (m + 1) q = (stepQ (q * u)).bind (powLoopQ u m) from rfl] at k2
  cases h2 : stepQ (q * u) with
  | none =>
   right
   rw [h2] at k2
   rw [k2]
   exact uT sd (uC _ (L_f_MulS hq hu) (by rw [h2]; exact uT rfl rfl))
  | some w =>
   left
   rw [h2] at k2
   refine ⟨(((k + 1 : Nat) : Int), dec w.num, decN w.den, ()), ?_, ⟨k + 1, w, by omega, rfl, (stepQ_fit h2).1, ?_⟩, by dsimp only; omega, (by first | exact True.intro | rfl)⟩
   ·refine uT sd (uC _ (L_f_MulS hq hu) ?_)
    rw [h2]
    refine uF rfl ?_
    rw [w64_id (x := (k : Int) + 1) (by omega)]
    rfl
   ·rw [k2, show n - (k + 1) = m by omega]; rfl
 ·right
  obtain rfl : k = n := by omega
  rw [Nat.sub_self, show powLoopQ u 0 q = some q from rfl] at k2
  rw [k2]
  refine uF sd (uC _ (L_c_over (d := 1000000) io (by omega) (by omega)) (uC _ (L_f_AddS hq (fitQ_micro io)) ?_))
  simp only [Option.bind_some, endQ]
  cases h3 : stepQ (q + mkRat j.2.2.2.2.2.1 1000000) with
  | none => exact uT rfl rfl
  | some w => exact uF rfl (uC _ (L_c_clampFrac (stepQ_fit h3).1) rfl)
end Go.Vs
namespace Go.Vs
open Go Go.Vg
theorem getD_at {l : List SegT} {k : Nat} (hk : k < l.length) : l.getD k zs = l[k] := by simp [hk]
theorem partN_eq {x : Rat} {l : List SegT} {k : Nat} (hk : k < l.length) (h1 : x ≤ mkRat (l.getD k zs).1 1000000) (h2 : ∀ j, j < k → ¬ x ≤ mkRat (l.getD j zs).1 1000000) : partN x l = k := by
 unfold partN
 refine (List.findIdx_eq hk).2 ⟨?_, fun j hj => ?_⟩
 ·rw [getD_at hk] at h1
  exact decide_eq_true h1
 ·have := h2 j hj
  rw [getD_at (show j < l.length by omega)] at this
  exact decide_eq_false this
theorem partN_le {x : Rat} {l : List SegT} {k : Nat} (h2 : ∀ j, j < k → ¬ x ≤ mkRat (l.getD j zs).1 1000000) (hp : partN x l < l.length) : k ≤ partN x l := by
 rcases Nat.lt_or_ge (partN x l) k with h | h
 ·refine absurd ?_ (h2 _ h)
  have := List.findIdx_getElem (p := fun s : SegT => decide (x ≤ mkRat s.1 1000000)) (xs := l) (w := hp)
  rw [getD_at hp]
  exact of_decide_eq_true this
 ·exact h
theorem seg_get {l : List SegT} (h : segLOk l) {k : Nat} (hk : k < l.length) : numsOk (l.getD k zs) ∧ inR (l.getD k zs).1 0 1000000 := by
 refine segsOk_mem l 0 (by omega) h.2.2 _ ?_
 rw [getD_at hk]
 exact List.getElem_mem hk
theorem L_cp_line {p : PcT} {q : Rat} (h1 : FitQ q) (h2 : numsOk p.1) : S_cp_line (p, fx q, ()) = some (outF (lineQ p.1.2.1 p.1.2.2.1 q)) := spec_at (enc := fun p : PcT × Rat => (p.1, fx p.2, ())) (p, q) ⟨h1, h2⟩ (fun b hb => by
 obtain ⟨e1, e2⟩ := Prod.mk.inj hb
 obtain ⟨e2, -⟩ := Prod.mk.inj e2
 exact Prod.ext e1 (fx_inj e2))
theorem lineQ_fit {m a : Int} {x u : Rat} (hl : lineQ m a x = some u) : FitQ u := by
 unfold lineQ at hl
 cases g1 : stepQ (mkRat m 1 * x) with
 | none => rw [g1] at hl; cases hl
 | some w =>
  rw [g1] at hl; simp only [Option.bind_some] at hl
  cases g2 : stepQ (w + mkRat a 1) with
  | none => rw [g2] at hl; cases hl
  | some v => rw [g2] at hl; exact (stepQ_fit hl).1
theorem cc_formula_law (c : CvT × Unit) (x : FxT) (y) (h : S_cc_formula (c, x, ()) = some y) : (cc_formula_t c x).toO = some y := by
 obtain ⟨⟨c', q⟩, ⟨hq, hx1, hl⟩, hx, rfl⟩ := spec_some h
 obtain ⟨rfl, hx2⟩ := Prod.mk.inj hx; obtain ⟨rfl, -⟩ := Prod.mk.inj hx2; dsimp only
 dsimp only at hq hx1 hl
 have hlen := hl.2.1
 have hp := partN_lt hl hx1
 obtain ⟨kind, tab, l, u0⟩ := c'
 dsimp only at hl hlen hp
 unfold cc_formula_t
 dsimp only
 have hsg := seg_get hl hp
 refine uL ((l.getD (partN q l) zs).1, (l.getD (partN q l) zs).2.1, (l.getD (partN q l) zs).2.2.1, (l.getD (partN q l) zs).2.2.2.1, (l.getD (partN q l) zs).2.2.2.2.1, (l.getD (partN q l) zs).2.2.2.2.2.1, beforeI l (partN q l), (partN q l : Int) == 0, ()) ?_ ?_
 ·refine uO (0, 0, 0, 0, 0, 0, 0, 0, 0, false, ()) rfl ?_
  refine loopO_eq (fun i : Int × Int × Int × Int × Int × Int × Int × Int × Int × Bool × Unit => ∃ k : Nat, k ≤ l.length ∧ i.1 = (k : Int) ∧ i.2.1 = beforeI l k ∧ ∀ j, j < k → ¬ q ≤ mkRat (l.getD j zs).1 1000000) (fun i => ((l.length : Int) - i.1).toNat) (fun _ => Sum.inl ((l.getD (partN q l) zs).1, (l.getD (partN q l) zs).2.1, (l.getD (partN q l) zs).2.2.1, (l.getD (partN q l) zs).2.2.2.1, (l.getD (partN q l) zs).2.2.2.2.1, (l.getD (partN q l) zs).2.2.2.2.2.1, beforeI l (partN q l), (partN q l : Int) == 0, ())) ?_ _ ⟨0, by omega, rfl, rfl, fun j hj => by omega⟩
  rintro ⟨i, last, r⟩ ⟨k, h3, h5, h6, h4⟩
  dsimp only at h5 h6
  subst h5
  simp only [cc_formula_R1, gi_nat]
  have hk := partN_le h4 hp
  have hk' : k < l.length := by omega
  have hi := inR_i64 (seg_get hl hk').2 (by omega) (by omega)
  by_cases g : q ≤ mkRat (l.getD k zs).1 1000000
  ·right
   rw [partN_eq hk' g h4, ← h6]
   exact uT sd (uN sd (uC _ (L_c_over (d := 1000000) hi (by omega) (by omega)) (uC _ (L_f_Cmp hq (fitQ_micro hi)) (uT (decide_eq_true ((ordQ_le _ _).2 g)) rfl))))
  ·left
   refine ⟨(((k + 1 : Nat) : Int), (l.getD k zs).1, (l.getD k zs).1, (l.getD k zs).2.1, (l.getD k zs).2.2.1, (l.getD k zs).2.2.2.1, (l.getD k zs).2.2.2.2.1, (l.getD k zs).2.2.2.2.2.1, last, (k : Int) == 0, ()), ?_, ⟨k + 1, by omega, rfl, ?_, fun j hj => ?_⟩, by dsimp only; omega, (by first | exact True.intro | rfl)⟩
   ·refine uT sd (uN sd (uC _ (L_c_over (d := 1000000) hi (by omega) (by omega)) (uC _ (L_f_Cmp hq (fitQ_micro hi)) (uF (decide_eq_false (fun h => g ((ordQ_le _ _).1 h))) ?_))))
    rw [w64_id (x := (k : Int) + 1) (by omega)]; rfl
   ·unfold beforeI; rw [if_neg (by omega), Nat.add_sub_cancel]
   ·rcases Nat.lt_or_ge j k with g2 | g2
    ·exact h4 j g2
    ·obtain rfl : j = k := by omega
     exact g
 ·unfold formC
  generalize l.getD (partN q l) zs = s at hsg ⊢
  obtain ⟨hn, hr⟩ := hsg
  have io := inR_i64 hn.2.2.1 (by omega) (by omega)
  unfold cc_formula_R2
  dsimp only
  by_cases hd : s.2.2.2.2.1 = 1
  ·rw [if_pos hd]
   refine uF (by rw [hd]; rfl) (uC _ (L_cp_line hq hn) ?_)
   dsimp only
   unfold formQ
   cases hl : lineQ s.2.1 s.2.2.1 q with
   | none => exact uT rfl rfl
   | some u =>
    have hu := lineQ_fit hl
    refine uF rfl ?_
    have hp := posQ_fit hu
    refine uL (fx (posQ u)) ?_ ?_
    ·refine uC (u.num.sign, 0, ()) (by unfold S_f_Sign; dsimp only [outF]; rw [rdF_fx hu]) ?_
     unfold posQ
     by_cases c : u < 0
     ·rw [if_pos c]
      exact uT (decide_eq_true ((sign_neg_iff u).2 c)) (uC _ (L_c_integer ⟨by omega, by omega⟩) (by rw [mk01]; rfl))
     ·rw [if_neg c]
      exact uF (decide_eq_false (fun h => c ((sign_neg_iff u).1 h))) rfl
    ·simp only [Option.bind_some]
     unfold cc_formula_R3
     exact uO (0, dec (posQ u).num, decN (posQ u).den, ()) rfl (cc_formula_R4_law _ _ _ _ _ hp hn.2.2.2.1 io)
  ·rw [if_neg hd]
   exact uT (by simpa using hd) rfl
end Go.Vs
namespace Go.Vs
open Go Go.Vg
theorem clampQ_fit {q : Rat} (h : FitQ q) : FitQ (clampQ q) := by
 have e1 : mkRat 1 1 = (1 : Rat) := by rw [mkRat_one]; rfl
 unfold clampQ
 split
 ·exact fitQ_zero
 ·split
  ·rw [← e1]; exact fitQ_int ⟨by omega, by omega⟩
  ·exact h
theorem clampQ_le (q : Rat) : clampQ q ≤ 1 := by
 unfold clampQ
 split
 ·decide
 ·split
  ·exact Rat.le_refl
  ·rename_i h; exact Rat.not_lt.1 h
theorem clampQ_nonneg (q : Rat) : 0 ≤ clampQ q := by
 unfold clampQ
 split
 ·exact Rat.le_refl
 ·split
  ·decide
  ·rename_i h _; exact Rat.not_lt.1 h
theorem cvq_inj {p q : CvT × Rat} (hb : ((p.1, ()), fx p.2, ()) = ((q.1, ()), fx q.2, ())) : p = q := by
 obtain ⟨e1, e2⟩ := Prod.mk.inj hb
 obtain ⟨e2, -⟩ := Prod.mk.inj e2
 exact Prod.ext (Prod.mk.inj e1).1 (fx_inj e2)
theorem L_cc_formula {c : CvT} {q : Rat} (h1 : FitQ q) (h2 : q ≤ 1) (h3 : segLOk c.2.2.1) : S_cc_formula ((c, ()), fx q, ()) = some (formC c.2.2.1 q) := spec_at (enc := fun p : CvT × Rat => ((p.1, ()), fx p.2, ())) (c, q) ⟨h1, h2, h3⟩ (fun b hb => cvq_inj hb)
theorem L_cc_table {c : CvT} {q : Rat} (h1 : FitQ q) (h0 : 0 ≤ q) (h2 : q ≤ 1) (h3 : tabOk c.2.1) : S_cc_table ((c, ()), fx q, ()) = some (outF (tabQ c.2.1 q)) := spec_at (enc := fun p : CvT × Rat => ((p.1, ()), fx p.2, ())) (c, q) ⟨h1, h0, h2, h3⟩ (fun b hb => cvq_inj hb)
theorem L_cc_identity {c : CvT} {q : Rat} (h1 : FitQ q) : S_cc_identity ((c, ()), fx q, ()) = some (fx q, 0, ()) := spec_at (enc := fun p : CvT × Rat => ((p.1, ()), fx p.2, ())) (c, q) h1 (fun b hb => cvq_inj hb)
theorem cc_identity_law (c : CvT × Unit) (x : FxT) (y) (h : S_cc_identity (c, x, ()) = some y) : (cc_identity_t c x).toO = some y := by
 obtain ⟨⟨c', q⟩, hq, hx, rfl⟩ := spec_some h
 obtain ⟨rfl, hx2⟩ := Prod.mk.inj hx; obtain ⟨rfl, -⟩ := Prod.mk.inj hx2; dsimp only
 rfl
theorem c_Eval_law (c : CvT) (x : FxT) (y) (h : S_c_Eval (c, x, ()) = some y) : (c_Eval_t c x).toO = some y := by
 injection h with h
 subst h
 obtain ⟨kind, tab, l, u0⟩ := c
 unfold c_Eval_t
 dsimp only
 refine uC _ (L_c_Check (kind, tab, l, ())) ?_
 by_cases hr : rightC (kind, tab, l, ())
 case neg =>
  have hr' : ¬ rightC (kind, tab, l, u0) := hr
  rw [if_neg hr', if_neg hr]
  exact uT rfl rfl
 have hr' : rightC (kind, tab, l, u0) := hr
 rw [if_pos hr', if_pos hr]
 refine uF rfl (uC (if (rdF x).isSome then 0 else 20, ()) rfl ?_)
 cases hx : rdF x with
 | none => exact uT rfl rfl
 | some q =>
  obtain ⟨hq, rfl⟩ := rdF_some hx
  refine uF rfl ?_
  have hc := clampQ_fit hq
  have hl := clampQ_le q
  have h0 := clampQ_nonneg q
  unfold evalC
  dsimp only
  rcases hr with ⟨k1, k2, k3⟩ | ⟨k1, k2, k3⟩ | ⟨k1, k2, k3⟩
  ·dsimp only at k1; subst k1
   refine uN ⟨by decide, by decide⟩ (uF rfl (uF rfl (uT rfl (uC _ (L_c_clampFrac hq) (uC _ (L_cc_identity hc) ?_)))))
   rfl
  ·dsimp only at k1; subst k1
   refine uN ⟨by decide, by decide⟩ (uF rfl (uT rfl (uC _ (L_c_clampFrac hq) (uC _ (L_cc_table (c := (2, tab, l, ())) hc h0 hl k2) ?_))))
   rfl
  ·dsimp only at k1; subst k1
   refine uN ⟨by decide, by decide⟩ (uT rfl (uC _ (L_c_clampFrac hq) (uC _ (L_cc_formula (c := (3, tab, l, ())) hc hl k3) ?_)))
   rfl
end Go.Vs
set_option maxRecDepth 100000
namespace Go.Vs
open Go Go.Vg Go.Proofs
noncomputable section
def c_hull_L : LTab := [(120, 58, 11264, { tag := 0, ι := (Int) × (Int) × (Int) × (Int) × Unit, vs := .dat (.s 14) (Ty.int IntKind.i64) <| .dat (.s 5) (Ty.int IntKind.i64) <| .dat (.c 5 0) (Ty.int IntKind.i64) <| .dat (.c 5 1) (Ty.int IntKind.i64) <| .nil, ks := [13, 12, 4, 2], kh := [5, 0], fresh := 0 })]
def c_hull_R1 (bands : List (Int × Int × Unit)) (i : (Int) × (Int) × (Int) × (Int) × Unit) : TT (((Int) × (Int) × (Int) × (Int) × Unit) ⊕ ((Int × Int × Unit) × Int × Unit)) :=
 .ite (decide (i.1 < len (List.take (List.length bands - Int.toNat 1) (List.drop (Int.toNat 1) bands))))
 (.need (inb i.1 (len (List.take (List.length bands - Int.toNat 1) (List.drop (Int.toNat 1) bands)))) <| .call (S_b_Hull ((i.2.2.1, i.2.2.2.1, ()), ((gi (List.take (List.length bands - Int.toNat 1) (List.drop (Int.toNat 1) bands)) i.1 (0, 0, ())).1, (gi (List.take (List.length bands - Int.toNat 1) (List.drop (Int.toNat 1) bands)) i.1 (0, 0, ())).2.1, ()), ())) Dd16 fun y =>
 .ite (y.2.1 != 0)
 (.ok (.inr (((0, 0, ()), y.2.1, ()))))
 (.tt <| .lt (w64 (i.1 + 1) : Int) fun z2 => .lt (y.2.1 : Int) fun z3 => .lt (y.1.1 : Int) fun z4 => .lt (y.1.2.1 : Int) fun z5 => .triv (Qq z3 ∧ Qq z2 ∧ Qq (len (List.take (List.length bands - Int.toNat 1) (List.drop (Int.toNat 1) bands)) : Int) ∧ Qq (List.take (List.length bands - Int.toNat 1) (List.drop (Int.toNat 1) bands)) ∧ (Qq 5 ∧ Qq 0 ∧ Qq true) ∧ (Qq 0 ∧ Qq 0 ∧ Qq true) ∧ True) tv <| .triv ((Qq (53 : TypeId) ∧ Qq z4 ∧ Qq z5 ∧ True) ∧ Qq true ∧ (Qq (53 : TypeId) ∧ Qq (0 : Int) ∧ Qq (0 : Int) ∧ True) ∧ Qq true ∧ True) tv <| .ok (.inl ((z2, z3, z4, z5, ())))))
 (.ok (.inr (((i.2.2.1, i.2.2.2.1, ()), 0, ()))))
def c_hull_t (bands : List (Int × Int × Unit)) : TT ((Int × Int × Unit) × Int × Unit) :=
 .need (asT Int 0 ≤ 0 ∧ 0 < len bands) <| .need (asT Int 0 ≤ 1 ∧ 1 ≤ len bands) <| .loop 0 (.tt <| .lt ((gi bands 0 (0, 0, ())).1 : Int) fun z => .lt ((gi bands 0 (0, 0, ())).2.1 : Int) fun z1 => .triv (Qq (0 : Int) ∧ Qq (0 : Int) ∧ Qq (len (List.take (List.length bands - Int.toNat 1) (List.drop (Int.toNat 1) bands)) : Int) ∧ Qq (List.take (List.length bands - Int.toNat 1) (List.drop (Int.toNat 1) bands)) ∧ (Qq 5 ∧ Qq 0 ∧ Qq true) ∧ (Qq 0 ∧ Qq 0 ∧ Qq true) ∧ True) tv <| .triv ((Qq (53 : TypeId) ∧ Qq z ∧ Qq z1 ∧ True) ∧ Qq true ∧ (Qq (53 : TypeId) ∧ Qq (0 : Int) ∧ Qq (0 : Int) ∧ True) ∧ Qq true ∧ True) tv <| .ok ((0, 0, z, z1, ()))) (c_hull_R1 bands)
def c_around_L : LTab := [(118, 58, 9216, { tag := 0, ι := (Int) × (List (Int × Int × Unit)) × Unit, vs := .dat (.s 14) (Ty.int IntKind.i64) <| .row 4 (Ty.pair (Ty.int IntKind.i64) (Ty.pair (Ty.int IntKind.i64) Ty.unit)) <| .nil, ks := [13, 12, 4, 2], kh := [4, 0], fresh := 0 })]
def c_around_R1 (values : List (List UInt8 × List UInt8 × Unit)) (i : (Int) × (List (Int × Int × Unit)) × Unit) : TT (((Int) × (List (Int × Int × Unit)) × Unit) ⊕ ((Int × Int × Unit) × Int × Unit)) :=
 .ite (decide (i.1 < len values))
 (.need (inb i.1 (len values)) <| .call (S_b_Around (((gi values i.1 ([], [], ())).1, (gi values i.1 ([], [], ())).2.1, ()), ())) Dd16 fun y =>
 .ite (y.2.1 != 0)
 (.ok (.inr (((0, 0, ()), y.2.1, ()))))
 (.need (inb i.1 (↑(Int.toNat (len values)) : Int)) <| .tt <| .lt (w64 (i.1 + 1) : Int) fun z1 => .lt (List.set i.2.1 (0 + Int.toNat i.1) (y.1.1, y.1.2.1, ()) : List (Int × Int × Unit)) fun z2 => .triv (Qq z1 ∧ Qq (len values) ∧ Qq values ∧ (Qq 4 ∧ Qq 0 ∧ Qq (Int.toNat (len values)) ∧ Qq true) ∧ (Qq 0 ∧ Qq 0 ∧ Qq true) ∧ True) tv <| .triv ((Qq (53 : TypeId) ∧ Qq z2) ∧ Qq true ∧ (Qq (53 : TypeId) ∧ Qq (0 : Int) ∧ Qq (0 : Int) ∧ True) ∧ Qq true ∧ True) tv <| .ok (.inl ((z1, z2, ())))))
 (.call (S_c_hull (List.take (Int.toNat (len values)) i.2.1, ())) Dd16 fun y1 =>
 .ok (.inr (((y1.1.1, y1.1.2.1, ()), y1.2.1, ()))))
def c_around_t (values : List (List UInt8 × List UInt8 × Unit)) : TT ((Int × Int × Unit) × Int × Unit) :=
 .need (0 ≤ len values ∧ len values ≤ len values ∧ len values * (↑16 : Int) ≤ 140737488355328) <| .loop 0 (.tt <| .lt (List.replicate (Int.toNat (len values)) (0, 0, ()) : List (Int × Int × Unit)) fun z => .triv (Qq (0 : Int) ∧ Qq (len values) ∧ Qq values ∧ (Qq 4 ∧ Qq 0 ∧ Qq (Int.toNat (len values)) ∧ Qq true) ∧ (Qq 0 ∧ Qq 0 ∧ Qq true) ∧ True) tv <| .triv ((Qq (53 : TypeId) ∧ Qq z) ∧ Qq true ∧ (Qq (53 : TypeId) ∧ Qq (0 : Int) ∧ Qq (0 : Int) ∧ True) ∧ Qq true ∧ True) tv <| .ok ((0, z, ()))) (c_around_R1 values)
def cp_values_L : LTab := []
def cp_values_t (p : (Int × Int × Int × Int × Int × Int × Unit) × Int × Bool × Unit) (lo : Int) (hi : Int) : TT ((Int × Int × Unit) × Int × Unit) :=
 .call (S_c_over (lo, 1000000000000, ())) Dd19 fun y =>
 .call (S_cp_line (((p.1.1, p.1.2.1, p.1.2.2.1, p.1.2.2.2.1, p.1.2.2.2.2.1, p.1.2.2.2.2.2.1, ()), p.2.1, p.2.2.1, ()), y.1, ())) Dd14 fun y1 =>
 .ite (y1.2.1 != 0)
 (.ok (((0, 0, ()), y1.2.1, ())))
 (.call (S_c_over (hi, 1000000000000, ())) Dd19 fun y2 =>
 .call (S_cp_line (((p.1.1, p.1.2.1, p.1.2.2.1, p.1.2.2.2.1, p.1.2.2.2.2.1, p.1.2.2.2.2.2.1, ()), p.2.1, p.2.2.1, ()), y2.1, ())) Dd14 fun y3 =>
 .ite (y3.2.1 != 0)
 (.ok (((0, 0, ()), y3.2.1, ())))
 (.call (S_c_around (List.take 2 [(y1.1.1, y1.1.2.1, ()), (y3.1.1, y3.1.2.1, ())], ())) Dd16 fun y4 =>
 .ite (y4.2.1 != 0)
 (.ok (((0, 0, ()), y4.2.1, ())))
 (.call (S_p_Power ((if 0 > y4.1.1 then 0 else y4.1.1, if 0 > y4.1.2.1 then 0 else y4.1.2.1, ()), p.1.2.2.2.1, p.1.2.2.2.2.1, ())) Dd16 fun y5 =>
 .ite (y5.2.1 != 0)
 (.ok (((0, 0, ()), y5.2.1, ())))
 (.call (S_c_over (p.1.2.2.2.2.2.1, 1000000, ())) Dd19 fun y6 =>
 .call (S_b_Around (y6.1, ())) Dd16 fun y7 =>
 .ite (y7.2.1 != 0)
 (.ok (((0, 0, ()), y7.2.1, ())))
 (.call (S_b_Add ((y5.1.1, y5.1.2.1, ()), (y7.1.1, y7.1.2.1, ()), ())) Dd16 fun y8 =>
 .ite (y8.2.1 != 0)
 (.ok (((0, 0, ()), y8.2.1, ())))
 (.call (S_b_Clamp ((y8.1.1, y8.1.2.1, ()), 0, 1000000000000, ())) Dd16 fun y9 =>
 .ok (((y9.1.1, y9.1.2.1, ()), y9.2.1, ()))))))))
def cc_identityBand_L : LTab := []
def cc_identityBand_t (c : (Int × List Int × List (Int × Int × Int × Int × Int × Int × Unit) × Unit) × Unit) (x : Int × Int × Unit) : TT ((Int × Int × Unit) × Int × Unit) :=
 .ok (((x.1, x.2.1, ()), 0, ()))
end
end Go.Vs
namespace Go.Vs
open Go Go.Vg
theorem tab_get {l : List Int} (h : tabOk l) {k : Nat} (hk : k < l.length) : inR (l.getD k 0) 0 65535 := by
 refine h.2.2 _ ?_
 have : l.getD k 0 = l[k] := by simp [hk]
 rw [this]
 exact List.getElem_mem hk
end Go.Vs
namespace Go.Vs
open Go Go.Vg
theorem okB_hull {a b : BdT} (h1 : okB a.1 a.2.1) (h2 : okB b.1 b.2.1) : okB (hullR a b).1 (hullR a b).2.1 := by
 obtain ⟨a1, a2, u⟩ := a
 obtain ⟨b1, b2, w⟩ := b
 unfold okB hullR at *
 dsimp only at *
 omega
theorem hullB_ok {a b : BdT} (h1 : okB a.1 a.2.1) (h2 : okB b.1 b.2.1) : hullB a b = (hullR a b, 0, ()) := by
 unfold hullB; rw [if_pos ⟨h1, h2⟩]; rfl
theorem L_b_Hull' {a b : BdT} (h1 : okB a.1 a.2.1) (h2 : okB b.1 b.2.1) : S_b_Hull (a, b, ()) = some (hullR a b, 0, ()) := by
 unfold S_b_Hull; dsimp only; rw [hullB_ok h1 h2]
theorem c_hull_law (l : List BdT) (y) (h : S_c_hull (l, ()) = some y) : (c_hull_t l).toO = some y := by
 unfold S_c_hull at h
 split at h
 case isFalse => cases h
 case isTrue hp =>
 injection h with h
 subst h
 obtain ⟨hn, hl, ho⟩ := hp
 dsimp only at hn hl ho ⊢
 cases l with
 | nil => exact absurd rfl hn
 | cons b r =>
  have hr : r.length ≤ 1000000 := by simp only [List.length_cons] at hl; omega
  unfold c_hull_t
  refine uN ⟨by decide, by simp only [len_eq, List.length_cons]; omega⟩ (uN ⟨by decide, by simp only [len_eq, List.length_cons]; omega⟩ ?_)
  refine uO (0, 0, b.1, b.2.1, ()) rfl ?_
  have hb := ho b (List.mem_cons_self ..)
  have htail : List.take ((b :: r).length - Int.toNat 1) (List.drop (Int.toNat 1) (b :: r)) = r := by
   show List.take ((b :: r).length - 1) r = r
   simp
  refine loopO_eq (fun i : Int × Int × Int × Int × Unit => ∃ (k : Nat) (w : BdT), k ≤ r.length ∧ i = ((k : Int), 0, w.1, w.2.1, ()) ∧ okB w.1 w.2.1 ∧ hullL (b :: r) = (r.drop k).foldl hullR w) (fun i => ((r.length : Int) - i.1).toNat) (fun _ => (hullL (b :: r), 0, ())) ?_ _ ⟨0, b, by omega, rfl, hb, rfl⟩
  rintro i ⟨k, w, k1, rfl, hw, k2⟩
  simp only [c_hull_R1, htail, gi_nat]
  rcases Nat.lt_or_ge k r.length with hk | hk
  ·have e : r.getD k (0, 0, ()) = r[k] := by simp [hk]
   have ho2 := ho r[k] (List.mem_cons_of_mem _ (List.getElem_mem hk))
   left
   refine ⟨(((k + 1 : Nat) : Int), 0, (hullR w r[k]).1, (hullR w r[k]).2.1, ()), ?_, ⟨k + 1, hullR w r[k], by omega, rfl, okB_hull hw ho2, ?_⟩, by dsimp only; omega, (by first | exact True.intro | rfl)⟩
   ·refine uT sd (uN sd (uC (hullR w r[k], 0, ()) (by rw [e]; exact L_b_Hull' hw ho2) (uF rfl ?_)))
    rw [w64_id (x := (k : Int) + 1) (by omega)]
    rfl
   ·rw [k2, List.drop_eq_getElem_cons hk]; rfl
  ·right
   obtain rfl : k = r.length := by omega
   rw [List.drop_length] at k2
   refine uF sd ?_
   rw [toO_ok, k2]; rfl
end Go.Vs
namespace Go.Vs
open Go Go.Vg
theorem tight_ok {q : Rat} (h : (tight q q).2.1 = 0) : okB (tight q q).1.1 (tight q q).1.2.1 := by
 unfold tight mkB at *
 split at h
 ·rename_i c; rw [if_pos c]; exact c
 ·exact absurd h (by decide)
theorem L_b_AroundS {q : Rat} (h : FitQ q) : S_b_Around (fx q, ()) = some (tight q q) := by
 unfold S_b_Around; dsimp only; rw [rdF_fx h]
theorem c_around_law (l : List FxT) (y) (h : S_c_around (l, ()) = some y) : (c_around_t l).toO = some y := by
 obtain ⟨r, ⟨hn, hl, ho⟩, hx, rfl⟩ := spec_some h
 obtain ⟨rfl, -⟩ := Prod.mk.inj hx
 have hlen : len (r.map (fun q => fx q)) = (r.length : Int) := by rw [len_eq, List.length_map]
 unfold c_around_t
 simp only [hlen, Int.toNat_natCast]
 refine uN ⟨by omega, by omega, by omega⟩ (uO (0, List.replicate r.length (0, 0, ()), ()) rfl ?_)
 refine loopO_eq (fun i : Int × List BdT × Unit => ∃ k : Nat, k ≤ r.length ∧ i.1 = (k : Int) ∧ i.2.1.length = r.length ∧ i.2.1.take k = (r.take k).map (fun q => (tight q q).1)) (fun i => ((r.length : Int) - i.1).toNat) (fun _ => (hullL (r.map fun q => (tight q q).1), 0, ())) ?_ _ ⟨0, by omega, rfl, by simp, by simp⟩
 rintro ⟨i, bs, u⟩ ⟨k, k1, k2, k3, k4⟩
 dsimp only at k2 k3 k4
 subst k2
 simp only [c_around_R1, hlen, gi_nat, Int.toNat_natCast]
 rcases Nat.lt_or_ge k r.length with hk | hk
 ·have e : (r.map (fun q => fx q)).getD k ([], [], ()) = fx r[k] := by simp [hk]
  obtain ⟨f1, f2⟩ := ho r[k] (List.getElem_mem hk)
  left
  refine ⟨(((k + 1 : Nat) : Int), bs.set k (tight r[k] r[k]).1, ()), ?_, ⟨k + 1, by omega, rfl, by simp [k3], ?_⟩, by dsimp only; omega, (by first | exact True.intro | rfl)⟩
  ·refine uT sd (uN ⟨by omega, by omega⟩ (uC (tight r[k] r[k]) (by rw [e]; exact L_b_AroundS f1) (uF (by rw [f2]; rfl) (uN ⟨by omega, by omega⟩ ?_))))
   rw [w64_id (x := (k : Int) + 1) (by omega), Nat.zero_add]
   rfl
  ·rw [List.take_succ_eq_append_getElem hk, List.map_append, ← k4]
   rw [List.take_succ_eq_append_getElem (by rw [List.length_set]; omega), List.take_set_of_le (Nat.le_refl k)]
   simp
 ·right
  obtain rfl : k = r.length := by omega
  rw [List.take_length] at k4
  refine uF sd (uC (hullL (r.map fun q => (tight q q).1), 0, ()) ?_ rfl)
  rw [k4]
  unfold S_c_hull
  refine if_pos ⟨by simpa using hn, by simpa using hl, fun b hb => ?_⟩
  obtain ⟨q, hq, rfl⟩ := List.mem_map.1 hb
  exact tight_ok (ho q hq).2
theorem fit_30 {z : Int} (h1 : -1000000000000000000000000 ≤ z) (h2 : z ≤ 1000000000000000000000000) : Fit z := by
 unfold Fit
 refine Nat.le_trans ((decN_length_iff (k := 30) (by omega)).2 ?_) (by omega)
 omega
theorem lineN_bd {m a n : Int} (hm : inR m (-100000000) 100000000) (ha : inR a (-100000000) 100000000) (hn : inU n) : -200000000000000000000 ≤ lineN m a n ∧ lineN m a n ≤ 200000000000000000000 := by
 obtain ⟨m1, m2⟩ := hm
 obtain ⟨a1, a2⟩ := ha
 obtain ⟨n1, n2⟩ := hn
 unfold lineN
 have c1 : (m + 100000000) * n ≥ 0 := Int.mul_nonneg (by omega) n1
 have c2 : (100000000 - m) * n ≥ 0 := Int.mul_nonneg (by omega) n1
 rw [Int.add_mul] at c1
 rw [Int.sub_mul] at c2
 constructor <;> omega
end Go.Vs
