/-
  Trees of what the functions compute, and their laws. Own work; no condition.
-/
import Derived.Test.YtakjojajnblpoaaGreatDoorClL5
import Derived.Test.YtakjojajnblpoaaGreatDoorProg
set_option linter.unusedVariables false
set_option linter.unusedSimpArgs false
namespace Go.Vs
open Go Go.Vg
theorem arA {N : Nat} {s : List Int} (h : s.length ≤ N) : over (List.replicate N 0) 0 s = s ++ List.replicate (N - s.length) 0 := by
 unfold over
 simp
theorem aRj {N : Nat} {s : List Int} (h : s.length ≤ N) : V 1000000000 (over (List.replicate N 0) 0 s) = V 1000000000 s := by
 rw [arA h, adX, ar7]; omega
theorem aL1 (m o : List Int) (y : Int × Unit) (y4 : List Int × Unit) (v ql u : List Int) (j n : Nat) (U Q : Int) (hv : Dg 1000000000 v) (hn : v.length = n + 2) (hN : u.length ≤ 1000000000000) (hjn : j + n + 2 < u.length) (hu : Dg 1000000000 u) (hz : V 1000000000 (u.drop (j + n + 2 + 1)) = 0) (hU : U = V 1000000000 (u.drop j)) (hUB : U < V 1000000000 v * 1000000000) (hQ1 : Q * V 1000000000 v ≤ U) (hQ2 : U < (Q + 1) * V 1000000000 v) (hQ0 : 0 ≤ Q) (htop : 1 ≤ v.getD (n + 1) 0) :
  ∃ q, (q = Q ∨ q = Q + 1) ∧ 0 ≤ q ∧ q < 1000000000 ∧ ac1 (fun i1 => (agI m o y (v, ()) y4 ((j : Int), ql, u, ()) i1).toO) ((u.getD (j + n + 2) 0 * 1000000000 + u.getD (j + n + 1) 0) % v.getD (n + 1) 0, (u.getD (j + n + 2) 0 * 1000000000 + u.getD (j + n + 1) 0) / v.getD (n + 1) 0, ()) = some (.inl (q, ())) := by
 have wb1 : w64 (len v - 1) = ((n + 1 : Nat) : Int) := by rw [aaC, hn, aaA (by omega)]; omega
 have wb2 : w64 (len v - 2) = ((n : Nat) : Int) := by rw [aaC, hn, aaA (by omega)]; omega
 have wa : w64 (w64 ((j : Int) + len v) + 1) = ((j + n + 2 + 1 : Nat) : Int) := by rw [aaC, hn, aaA (x := (j : Int) + ((n + 2 : Nat) : Int)) (by omega), aaA (by omega)]; omega
 have wb : ((((j + n + 2 + 1 : Nat) : Int).toNat - (j : Int).toNat : Nat) : Int) = ((n + 3 : Nat) : Int) := by omega
 have dv1 := aa3 (by omega) hv (n + 1)
 have dv2 := aa3 (by omega) hv n
 have du0 := aa3 (by omega) hu (j + n + 2)
 have du1 := aa3 (by omega) hu (j + n + 1)
 have du2 := aa3 (by omega) hu (j + n)
 -- the divisor
 have hP : (0 : Int) < 1000000000 ^ n := Int.pow_pos (by omega)
 have hP1 : (0 : Int) < 1000000000 ^ (n + 1) := Int.pow_pos (by omega)
 have s1 := ab6 1000000000 v n
 have s2 := aaU 1000000000 v n
 have s3 := aaU 1000000000 v (n + 1)
 rw [acT (k := n + 1 + 1) _ (by omega), Int.mul_zero, Int.add_zero] at s3
 rw [s3] at s2
 have s4 := ac3 (by omega) hv n
 have s5 := aaT (by omega) (ab5 hv n)
 have s6 := ab6 1000000000 v (n + 1)
 rw [s3] at s6
 have s7 := aaT (by omega) (ab5 hv (n + 1))
 -- the window
 have t1 := ab6 1000000000 (u.drop j) n
 have t2 : V 1000000000 ((u.drop j).drop n) = (u.getD (j + n + 2) 0 * 1000000000 + u.getD (j + n + 1) 0) * 1000000000 + u.getD (j + n) 0 := by
  rw [List.drop_drop]
  have a1 := aaU 1000000000 u (j + n)
  have a2 := aaU 1000000000 u (j + n + 1)
  have a3 := aaU 1000000000 u (j + n + 1 + 1)
  rw [show j + n + 1 + 1 + 1 = j + n + 2 + 1 by omega, hz] at a3
  rw [a1, a2, a3]
  show _ + 1000000000 * (_ + 1000000000 * (u.getD (j + n + 2) 0 + 1000000000 * 0)) = _
  omega
 have t3 := ac3 (by omega) (acK hu j) n
 have t4 := aaT (by omega) (ab5 (acK hu j) n)
 rw [← hU, t2] at t1
 generalize hH : u.getD (j + n + 2) 0 * 1000000000 + u.getD (j + n + 1) 0 = H at *
 have hH0 : 0 ≤ H ∧ H < 1000000000000000000 := by omega
 generalize hv1 : v.getD (n + 1) 0 = v1 at *
 generalize hv2 : v.getD n 0 = v2 at *
 generalize hu2 : u.getD (j + n) 0 = u2 at *
 generalize V 1000000000 (v.take n) = V3 at *
 generalize V 1000000000 ((u.drop j).take n) = U3 at *
 generalize V 1000000000 (v.take (n + 1)) = V4 at *
 have hVe : V 1000000000 v = (v1 * 1000000000 + v2) * 1000000000 ^ n + V3 := by rw [s1, s2]; grind
 have hVv : v1 * 1000000000 ^ (n + 1) ≤ V 1000000000 v := by
  have : (1000000000 : Int) ^ (n + 1) * v1 = v1 * 1000000000 ^ (n + 1) := Int.mul_comm _ _
  omega
 have hVB : 1000000000 * 1000000000 ^ n ≤ V 1000000000 v := by
  have a1 : 1 * 1000000000 ^ (n + 1) ≤ v1 * 1000000000 ^ (n + 1) := Int.mul_le_mul_of_nonneg_right htop (by omega)
  have a2 : (1000000000 : Int) ^ (n + 1) = 1000000000 * 1000000000 ^ n := by rw [Int.pow_succ, Int.mul_comm]
  omega
 have hUlo : (H * 1000000000 + u2) * 1000000000 ^ n ≤ U := by
  have : (1000000000 : Int) ^ n * (H * 1000000000 + u2) = (H * 1000000000 + u2) * 1000000000 ^ n := Int.mul_comm _ _
  omega
 have hUhi : U < (H * 1000000000 + u2 + 1) * 1000000000 ^ n := by
  have : (H * 1000000000 + u2 + 1) * 1000000000 ^ n = 1000000000 ^ n * (H * 1000000000 + u2) + 1000000000 ^ n := by grind
  omega
 have hUhi1 : U < (H + 1) * 1000000000 ^ (n + 1) := by
  have a1 : (H * 1000000000 + u2 + 1) * 1000000000 ^ n ≤ ((H + 1) * 1000000000) * 1000000000 ^ n := Int.mul_le_mul_of_nonneg_right (by omega) (by omega)
  have a2 : ((H + 1) * 1000000000) * 1000000000 ^ n = (H + 1) * 1000000000 ^ (n + 1) := by rw [Int.pow_succ]; grind
  omega
 have hVpos : 0 < V 1000000000 v := by have := Int.mul_pos (show (0 : Int) < 1000000000 by omega) hP; omega
 have hQB : Q < 1000000000 := by
  have : Q * V 1000000000 v < 1000000000 * V 1000000000 v := by omega
  exact Int.lt_of_mul_lt_mul_right this (by omega)
 have hstart := aMh hP1 (by omega) hVv hUhi1 hQ1 hQ0
 have hdm := Int.emod_add_mul_ediv H v1
 have hr0 := Int.emod_nonneg H (show v1 ≠ 0 by omega)
 have hr1 := Int.emod_lt_of_pos H (show 0 < v1 by omega)
 refine Exists.elim (adJ (R := fun i1 => (agI m o y (v, ()) y4 ((j : Int), ql, u, ()) i1).toO) (fun i : Int × Int × Unit => 0 ≤ i.1 ∧ i.1 < 1000000000 ∧ Q ≤ i.2.1 ∧ i.2.1 * v1 + i.1 = H) (fun i => i.2.1.toNat) (fun r => ∃ q, (q = Q ∨ q = Q + 1) ∧ 0 ≤ q ∧ q < 1000000000 ∧ r = Sum.inl (q, ())) ?step (H % v1, H / v1, ()) ⟨hr0, by dsimp only; omega, hstart, by dsimp only; rw [Int.mul_comm]; omega⟩) ?fin
 case fin =>
  rintro a ⟨h1, q, h2, h3, h4, rfl⟩
  exact ⟨q, h2, h3, h4, h1⟩
 rintro ⟨r, q, u5⟩ ⟨g1, g2, g3, g4⟩
 dsimp only at g1 g2 g3 g4
 have hqH : q ≤ H := by
  have : q * 1 ≤ q * v1 := Int.mul_le_mul_of_nonneg_left htop (by omega)
  omega
 have down : Q ≤ q - 1 → ((r + v1 ≥ 1000000000 → ∃ q', (q' = Q ∨ q' = Q + 1) ∧ 0 ≤ q' ∧ q' < 1000000000 ∧ q' = q - 1)) := by
  intro hdn hr
  have hqB : q - 1 < 1000000000 := by
   have a1 : (q - 1) * v1 = H - (r + v1) := by rw [Int.sub_mul]; omega
   have a2 : H < (v1 + 1) * 1000000000 := by
    have b1 : H * 1000000000 ^ (n + 1) ≤ U := by
     have a2 : (H * 1000000000) * 1000000000 ^ n = H * 1000000000 ^ (n + 1) := by rw [Int.pow_succ]; grind
     have a3 : (H * 1000000000) * 1000000000 ^ n ≤ (H * 1000000000 + u2) * 1000000000 ^ n := Int.mul_le_mul_of_nonneg_right (by omega) (by omega)
     omega
    have b2 : V 1000000000 v < (v1 + 1) * 1000000000 ^ (n + 1) := by
     have a2 : (v1 + 1) * 1000000000 ^ (n + 1) = (v1 * 1000000000 + 1000000000) * 1000000000 ^ n := by rw [Int.pow_succ]; grind
     have a3 : (v1 * 1000000000 + v2 + 1) * 1000000000 ^ n ≤ (v1 * 1000000000 + 1000000000) * 1000000000 ^ n := Int.mul_le_mul_of_nonneg_right (by omega) (by omega)
     have a4 : (v1 * 1000000000 + v2 + 1) * 1000000000 ^ n = (v1 * 1000000000 + v2) * 1000000000 ^ n + 1000000000 ^ n := by grind
     omega
    have b3 : H * 1000000000 ^ (n + 1) < ((v1 + 1) * 1000000000) * 1000000000 ^ (n + 1) := by
     have : ((v1 + 1) * 1000000000) * 1000000000 ^ (n + 1) = ((v1 + 1) * 1000000000 ^ (n + 1)) * 1000000000 := by grind
     omega
    exact Int.lt_of_mul_lt_mul_right b3 (by omega)
   have a3 : (q - 1) * v1 < 1000000000 * v1 := by
    have : (v1 + 1) * 1000000000 = 1000000000 * v1 + 1000000000 := by grind
    omega
   exact Int.lt_of_mul_lt_mul_right a3 (by omega)
  have hm := arE (a := q - 1) (b := v2) (B := 1000000000) ⟨by omega, hqB⟩ dv2
  have hmB : 1000000000 * 1000000000 ≤ (r + v1) * 1000000000 := by omega
  have := aHh (q := q - 1) (r := r + v1) hP (by rw [Int.sub_mul]; omega) hVe s4 s5 hUlo (by omega) hqB hVB hQ2 (by omega)
  exact ⟨q - 1, by omega, by omega, hqB, rfl⟩
 have wv1 : abO v1 = v1 := aaO (by omega)
 have wr : abO (r + v1) = r + v1 := aaO (by omega)
 have hgi1 : gi v ((n + 1 : Nat) : Int) 0 = v1 := by rw [aaM, hv1]
 have hgi2 : gi v ((n : Nat) : Int) 0 = v2 := by rw [aaM, hv2]
 simp only [agI, ahE, wb1, wb2, hgi1, hgi2, wv1, wr, wa, wb, Int.toNat_natCast, Nat.zero_add, hu2]
 have stepdn : Q ≤ q - 1 → 1 ≤ q → ((r + v1 ≥ 1000000000 → ∃ q', ((q' = Q ∨ q' = Q + 1) ∧ 0 ≤ q' ∧ q' < 1000000000) ∧ abO (q - 1) = q') ∧ (¬ r + v1 ≥ 1000000000 → (0 ≤ r + v1 ∧ r + v1 < 1000000000 ∧ Q ≤ q - 1 ∧ (q - 1) * v1 + (r + v1) = H) ∧ abO (q - 1) = q - 1)) := by
  intro h1 h2
  have wq : abO (q - 1) = q - 1 := aaO (by omega)
  refine ⟨fun h => ?_, fun h => ⟨⟨by omega, by omega, h1, by rw [Int.sub_mul]; omega⟩, wq⟩⟩
  obtain ⟨q', e1, e2, e3, e4⟩ := down h1 h
  exact ⟨q', ⟨e1, e2, e3⟩, by rw [wq, e4]⟩
 by_cases c1 : q ≥ 1000000000
 ·obtain ⟨d1, d2⟩ := stepdn (by omega) (by omega)
  by_cases c2 : r + v1 ≥ 1000000000
  ·right
   obtain ⟨q', e1, e2⟩ := d1 c2
   refine ⟨.inl (q', ()), ?_, q', e1.1, e1.2.1, e1.2.2, rfl⟩
   refine uT (decide_eq_true c1) (uT (decide_eq_true c2) ?_)
   repeat (first | refine uV ?_ | refine uB ?_ | refine uN sd ?_ | refine uT sd ?_ | refine uF sd ?_ | refine uN (by simp) ?_)
   rw [aaK, e2]
  ·left
   obtain ⟨e1, e2⟩ := d2 c2
   refine ⟨(r + v1, q - 1, ()), ?_, e1, by dsimp only; omega⟩
   refine uT (decide_eq_true c1) (uF (decide_eq_false c2) ?_)
   repeat (first | refine uV ?_ | refine uB ?_ | refine uN sd ?_ | refine uT sd ?_ | refine uF sd ?_ | refine uN (by simp) ?_)
   rw [aaK, e2]
 ·have hm := arE (a := q) (b := v2) (B := 1000000000) ⟨by omega, by omega⟩ dv2
  have wm : abO (q * abO v2) = q * v2 := by rw [aaO (x := v2) (by omega), aaO (by omega)]
  have wn : abO (abO (r * 1000000000) + abO u2) = r * 1000000000 + u2 := by rw [aaO (x := r * 1000000000) (by omega), aaO (x := u2) (by omega), aaO (by omega)]
  simp only [wm, wn]
  by_cases c3 : q * v2 > r * 1000000000 + u2
  ·have hdn := aOQ (q := q) (r := r) (Int.le_of_lt hVpos) hP g4 (by omega) hUhi hQ1 (by omega) c3
   obtain ⟨d1, d2⟩ := stepdn hdn (by omega)
   by_cases c2 : r + v1 ≥ 1000000000
   ·right
    obtain ⟨q', e1, e2⟩ := d1 c2
    refine ⟨.inl (q', ()), ?_, q', e1.1, e1.2.1, e1.2.2, rfl⟩
    refine uF (decide_eq_false c1) (uN ⟨by omega, by rw [aaC, hn]; omega⟩ (uN ⟨by omega, by omega⟩ (uT (decide_eq_true c3) (uT (decide_eq_true c2) ?_))))
    repeat (first | refine uV ?_ | refine uB ?_ | refine uN sd ?_ | refine uT sd ?_ | refine uF sd ?_ | refine uN (by simp) ?_)
    rw [aaK, e2]
   ·left
    obtain ⟨e1, e2⟩ := d2 c2
    refine ⟨(r + v1, q - 1, ()), ?_, e1, by dsimp only; omega⟩
    refine uF (decide_eq_false c1) (uN ⟨by omega, by rw [aaC, hn]; omega⟩ (uN ⟨by omega, by omega⟩ (uT (decide_eq_true c3) (uF (decide_eq_false c2) ?_))))
    repeat (first | refine uV ?_ | refine uB ?_ | refine uN sd ?_ | refine uT sd ?_ | refine uF sd ?_ | refine uN (by simp) ?_)
    rw [aaK, e2]
  ·right
   have hdone := aHh (q := q) (r := r) hP g4 hVe s4 s5 hUlo (by omega) (by omega) hVB hQ2 (by omega)
   refine ⟨.inl (q, ()), ?_, q, by omega, by omega, by omega, rfl⟩
   refine uF (decide_eq_false c1) (uN ⟨by omega, by rw [aaC, hn]; omega⟩ (uN ⟨by omega, by omega⟩ (uF (decide_eq_false c3) ?_)))
   repeat (first | refine uV ?_ | refine uB ?_ | refine uN sd ?_ | refine uT sd ?_ | refine uF sd ?_ | refine uN (by simp) ?_)
   rfl
theorem aKr {b s t L : Nat} (hs : s * (t + 1) ≤ 1000000000) (hs1 : 1 ≤ s) (h1 : 1000000000 ^ L * t ≤ b) (h2 : b < 1000000000 ^ L * (t + 1)) (ht : 1 ≤ t) : (mag (b * s)).length = L + 1 := by
 have a1 : b * s < 1000000000 ^ (L + 1) := by
  have c1 : b * s < (1000000000 ^ L * (t + 1)) * s := Nat.mul_lt_mul_of_pos_right h2 (by omega)
  have c2 : (1000000000 ^ L * (t + 1)) * s = 1000000000 ^ L * (s * (t + 1)) := by rw [Nat.mul_assoc, Nat.mul_comm (t + 1)]
  have c3 : 1000000000 ^ L * (s * (t + 1)) ≤ 1000000000 ^ L * 1000000000 := Nat.mul_le_mul_left _ hs
  rw [Nat.pow_succ]; omega
 have a2 := mag_length_le_iff.2 a1
 have a3 : 1000000000 ^ L ≤ b * s := by
  have c1 : 1000000000 ^ L * 1 ≤ 1000000000 ^ L * t := Nat.mul_le_mul_left _ ht
  have c2 : b * 1 ≤ b * s := Nat.mul_le_mul_left _ hs1
  omega
 rcases Nat.lt_or_ge L (mag (b * s)).length with h | h
 ·omega
 ·have := mag_length_le_iff.1 h; omega
theorem aL2 (m o : List Int) (y : Int × Unit) (y4 : List Int × Unit) (v q u : List Int) (j n : Nat) (qq : Int) (X : (Int × List Int × List Int × Unit) ⊕ (List Int × List Int × Unit)) (hvd : Dg 1000000000 v) (g7 : Dg 1000000000 u) (lv : v.length = n + 2) (g6 : u.length = m.length + 1) (hN : m.length ≤ 1000000000000) (hj : j + n + 2 < u.length) (hvtop : 1 ≤ v.getD (n + 1) 0)
  (p4 : ac1 (fun i1 => (agI m o y (v, ()) y4 ((j : Int), q, u, ()) i1).toO) ((u.getD (j + n + 2) 0 * 1000000000 + u.getD (j + n + 1) 0) % v.getD (n + 1) 0, (u.getD (j + n + 2) 0 * 1000000000 + u.getD (j + n + 1) 0) / v.getD (n + 1) 0, ()) = some (.inl (qq, ())))
  (r1 : ac1 (fun i1 => (agH m o y (v, ()) y4 ((j : Int), q, u, ()) (qq, ()) i1).toO) (0, 0, 0, u, ()) = some X) : (ah0 m o y (v, ()) y4 ((j : Int), q, u, ())).toO = some X := by
 have wlv : len v = ((n + 2 : Nat) : Int) := by rw [aaC, lv]
 have wa : w64 (w64 ((j : Int) + len v) + 1) = ((j + n + 2 + 1 : Nat) : Int) := by rw [wlv, aaA (x := (j : Int) + ((n + 2 : Nat) : Int)) (by omega), aaA (by omega)]; omega
 have wb : ((((j + n + 2 + 1 : Nat) : Int).toNat - (j : Int).toNat : Nat) : Int) = ((n + 3 : Nat) : Int) := by omega
 have wb1 : w64 (len v - 1) = ((n + 1 : Nat) : Int) := by rw [wlv, aaA (by omega)]; omega
 have w2 : w64 (len m + 1) = ((m.length + 1 : Nat) : Int) := by rw [aaC, aaA (by omega)]; omega
 have dv1 := aa3 (by omega) hvd (n + 1)
 have du0 := aa3 (by omega) g7 (j + n + 2)
 have du1 := aa3 (by omega) g7 (j + n + 1)
 have hgi1 : abO (gi v ((n + 1 : Nat) : Int) 0) = v.getD (n + 1) 0 := by rw [aaM, aaO (by omega)]
 have wH : abO (abO (abO (u.getD (j + (n + 2)) 0) * 1000000000) + abO (u.getD (j + (n + 1)) 0)) = u.getD (j + n + 2) 0 * 1000000000 + u.getD (j + n + 1) 0 := by
  rw [show j + (n + 2) = j + n + 2 by omega, show j + (n + 1) = j + n + 1 by omega, aaO (x := u.getD (j + n + 2) 0) (by omega), aaO (x := u.getD (j + n + 2) 0 * 1000000000) (by omega), aaO (x := u.getD (j + n + 1) 0) (by omega), aaO (by omega)]
 have hH0 : 0 ≤ u.getD (j + n + 2) 0 * 1000000000 + u.getD (j + n + 1) 0 := by omega
 have tm := Int.tmod_eq_emod_of_nonneg (b := v.getD (n + 1) 0) hH0
 have td := Int.tdiv_eq_ediv_of_nonneg (b := v.getD (n + 1) 0) hH0
 have hdle : (u.getD (j + n + 2) 0 * 1000000000 + u.getD (j + n + 1) 0) / v.getD (n + 1) 0 ≤ u.getD (j + n + 2) 0 * 1000000000 + u.getD (j + n + 1) 0 := Int.ediv_le_self _ hH0
 have hdge : 0 ≤ (u.getD (j + n + 2) 0 * 1000000000 + u.getD (j + n + 1) 0) / v.getD (n + 1) 0 := Int.ediv_nonneg hH0 (by omega)
 have wq : abO ((u.getD (j + n + 2) 0 * 1000000000 + u.getD (j + n + 1) 0) / v.getD (n + 1) 0) = (u.getD (j + n + 2) 0 * 1000000000 + u.getD (j + n + 1) 0) / v.getD (n + 1) 0 := aaO (by omega)
 simp only [ah0, wa, wb, wb1, hgi1, w2, Int.toNat_natCast, Nat.zero_add]
 have wlt : (len v).toNat = n + 2 := by rw [wlv]; omega
 simp only [wlt, wH, tm, td, wq]
 refine uT sd (uN ⟨by omega, by omega⟩ (uN ⟨by omega, by omega⟩ (uN ⟨by omega, by omega⟩ (uN ⟨by omega, by omega⟩ (uN ⟨by omega, by omega⟩ (uN (by omega) (uN (by omega) ?_)))))))
 refine uL (qq, ()) ?_ ?_
 ·refine uO ((u.getD (j + n + 2) 0 * 1000000000 + u.getD (j + n + 1) 0) % v.getD (n + 1) 0, (u.getD (j + n + 2) 0 * 1000000000 + u.getD (j + n + 1) 0) / v.getD (n + 1) 0, ()) ?_ p4
  repeat (first | refine uV ?_ | refine uB ?_ | refine uN sd ?_ | refine uT sd ?_ | refine uF sd ?_ | refine uN (by simp) ?_)
  rfl
 ·unfold as8
  refine uO (0, 0, 0, u, ()) (by repeat (first | refine uV ?_ | refine uB ?_ | refine uN sd ?_ | refine uT sd ?_ | refine uF sd ?_ | refine uN (by simp) ?_); rfl) ?_
  exact r1
set_option maxHeartbeats 1000000 in
theorem apE (m o : List Int) (y) (h : abC (m, o, ()) = some y) : (aj2 m o).toO = some y := by
 obtain ⟨⟨a, b⟩, hp, hx, rfl⟩ := aaD h
 obtain ⟨rfl, hx2⟩ := Prod.mk.inj hx; obtain ⟨rfl, -⟩ := Prod.mk.inj hx2; dsimp only
 obtain ⟨la, lb, hb0⟩ := hp
 simp only at la lb hb0
 clear h hx hx2
 unfold aj2
 have hcmp : adM (mag a, mag b, ()) = some (atF a b, ()) := aaI (enc := fun p : Nat × Nat => (mag p.1, mag p.2, ())) (a, b) ⟨by dsimp only; omega, by dsimp only; omega⟩ (fun b hb => ac9 hb)
 refine uC _ hcmp ?_
 by_cases hab : a < b
 ·refine uT (decide_eq_true (by unfold atF; rw [if_pos (by omega)]; show (-1 : Int) < 0; omega)) ?_
  rw [Nat.div_eq_of_lt hab, Nat.mod_eq_of_lt hab, mag_zero]; rfl
 refine uF (decide_eq_false (by unfold atF; rw [if_neg (by omega)]; split <;> decide)) ?_
 have hbl : 1 ≤ (mag b).length := by
  rcases Nat.eq_zero_or_pos (mag b).length with h5 | h5
  ·exact absurd (mag_nil_iff.1 (List.length_eq_zero_iff.1 h5)) hb0
  ·exact h5
 have hshort : ∀ x d : Nat, (mag x).length ≤ 1000000000000 → 0 < d → d < 4294967296 → ajG (mag x, (d : Int), ()) = some (mag (x / d), ((x % d : Nat) : Int), ()) := by
  intro x d h1 h2 h3
  refine aaI (enc := fun p : Nat × Nat => (mag p.1, (p.2 : Int), ())) (x, d) ⟨h1, h2, h3⟩ (fun b hb => ?_)
  obtain ⟨e1, e2⟩ := Prod.mk.inj hb
  obtain ⟨e2, -⟩ := Prod.mk.inj e2
  exact Prod.ext (adI e1) (Int.ofNat.inj e2)
 by_cases h1 : (mag b).length = 1
 ·refine uT sd (uN ⟨by simp [asT], by exact sn⟩ ?_)
  have hb1 : b < 1000000000 := by have := mag_length_le_iff.1 (Nat.le_of_eq h1); simpa using this
  have hg : gi (mag b) 0 0 = (b : Int) := by rw [ao8 hb0 hb1]; rfl
  rw [hg]
  refine uC _ (hshort a b (by omega) (by omega) (by omega)) ?_
  have hm := Nat.mod_lt a (show 0 < b by omega)
  generalize a % b = r at hm ⊢
  refine uC (mag r, ()) ?_ rfl
  dsimp only
  rw [aaO (x := (r : Int)) (by omega)]
  unfold abM
  rw [if_pos (by dsimp only; omega)]
  simp
 refine uF sd ?_
 obtain ⟨n, hnl⟩ : ∃ n, (mag b).length = n + 2 := ⟨(mag b).length - 2, by omega⟩
 have hml : n + 2 ≤ (mag a).length := by rw [← hnl]; exact abQ (by omega)
 obtain ⟨t, ht, t1, t2, t3, t4⟩ := aFv hb0
 have w1 : w64 (len (mag b) - 1) = ((n + 1 : Nat) : Int) := by rw [aaC, hnl, aaA (by omega)]; omega
 rw [hnl, show n + 2 - 1 = n + 1 by omega] at ht t3 t4
 have hg : gi (mag b) ((n + 1 : Nat) : Int) 0 = (t : Int) := by rw [aaM, ht]
 have wt : adS ((t : Int) + 1) = ((t + 1 : Nat) : Int) := by rw [aa0 (by omega)]; omega
 obtain ⟨s, hs⟩ : ∃ s, s = 1000000000 / (t + 1) := ⟨_, rfl⟩
 have hs1 : 1 ≤ s := by rw [hs]; exact (Nat.le_div_iff_mul_le (by omega)).2 (by omega)
 have hs2 : s * (t + 1) ≤ 1000000000 := by rw [hs]; exact Nat.div_mul_le_self _ _
 have hs3 : s < 1000000000 := by
  have : s * 2 ≤ s * (t + 1) := Nat.mul_le_mul_left _ (by omega)
  omega
 have ws : adS (Int.tdiv 1000000000 ((t + 1 : Nat) : Int)) = (s : Int) := by
  have : Int.tdiv 1000000000 ((t + 1 : Nat) : Int) = (s : Int) := by
   rw [Int.tdiv_eq_ediv_of_nonneg (by omega), hs]; rfl
  rw [this, aa0 (by omega)]
 simp only [w1, hg, wt, ws]
 refine uN sd (uN (by omega) ?_)
 have hms : mag s = [(s : Int)] := ao8 (by omega) hs3
 have lv : (mag (b * s)).length = n + 2 := aKr hs2 hs1 t3 t4 t1
 have htimes : ∀ x : Nat, (mag x).length ≤ 1000000000000 → acC (mag x, [(s : Int)], ()) = some (mag (x * s), ()) := by
  intro x hx
  rw [← hms]
  exact aaI (enc := fun p : Nat × Nat => (mag p.1, mag p.2, ())) (x, s) ⟨hx, by rw [hms]; simp⟩ (fun b hb => ac9 hb)
 refine uC _ (htimes b (by omega)) ?_
 have w2 : w64 (len (mag a) + 1) = (((mag a).length + 1 : Nat) : Int) := by rw [aaC, aaA (by omega)]; omega
 obtain ⟨K, hK⟩ : ∃ K, (mag a).length = K + n + 2 := ⟨(mag a).length - (n + 2), by omega⟩
 have w3 : w64 (len (mag a) - len (mag (b * s))) = (K : Int) := by rw [aaC, aaC, lv, hK, aaA (by omega)]; omega
 have w4 : w64 ((K : Int) + 1) = ((K + 1 : Nat) : Int) := by rw [aaA (by omega)]; omega
 simp only [w2, w3, w4]
 refine uN (by omega) ?_
 refine uC _ (htimes a (by omega)) ?_
 refine uN (by omega) ?_
 have las : (mag (a * s)).length ≤ (mag a).length + 1 := by
  have := af5 a s
  rw [hms] at this; simpa using this
 have htk : List.take (mag a).length.succ (mag (a * s)) = mag (a * s) := List.take_of_length_le las
 -- the start
 have hu0d : Dg 1000000000 (over (List.replicate ((mag a).length + 1) 0) 0 (mag (a * s))) := by
  rw [arA las]; exact aeG (agO _) (af9 (by omega) _)
 have hu0V : V 1000000000 (over (List.replicate ((mag a).length + 1) 0) 0 (mag (a * s))) = ((a * s : Nat) : Int) := by rw [aRj las, alT]
 have hu0l : (over (List.replicate ((mag a).length + 1) 0) 0 (mag (a * s))).length = (mag a).length + 1 := by rw [arA las]; simp; omega
 refine uO ((K : Int), List.replicate (K + 1) 0, over (List.replicate ((mag a).length + 1) 0) 0 (mag (a * s)), ()) ?_ ?_
 ·repeat (first | refine uV ?_ | refine uB ?_ | refine uN sd ?_ | refine uT sd ?_ | refine uF sd ?_ | refine uN (by simp) ?_)
  simp only [Int.toNat_natCast, w4]
  rw [show List.take ((mag a).length + 1) (mag (a * s)) = mag (a * s) from htk]
  rfl
 generalize hu0 : over (List.replicate ((mag a).length + 1) 0) 0 (mag (a * s)) = u0 at *
 have hvd := agO (b * s)
 have hvV := alT (b * s)
 have hvpos : 0 < b * s := Nat.mul_pos (by omega) (by omega)
 have hvtop : 1 ≤ (mag (b * s)).getD (n + 1) 0 := by
  obtain ⟨t', e1, e2, -⟩ := aFv (n := b * s) (by omega)
  rw [lv, show n + 2 - 1 = n + 1 by omega] at e1
  omega
 generalize hv : mag (b * s) = v at *
 have hdrop0 : V 1000000000 (u0.drop (K + 1)) < V 1000000000 v := by
  have e1 := ab6 1000000000 u0 (K + 1)
  have e2 := aaT (by omega) (ab5 hu0d (K + 1))
  have e3 := aaT (by omega) (acK hu0d (K + 1))
  rw [hu0V] at e1
  have a1 : a < 1000000000 ^ (K + 1) * b := by
   have c1 := mag_length_le_iff.1 (Nat.le_of_eq hK)
   have c2 : 1000000000 ^ (n + 1) ≤ b := by
    have : 1000000000 ^ (n + 1) * 1 ≤ 1000000000 ^ (n + 1) * t := Nat.mul_le_mul_left _ t1
    omega
   have c3 : 1000000000 ^ (K + 1) * 1000000000 ^ (n + 1) ≤ 1000000000 ^ (K + 1) * b := Nat.mul_le_mul_left _ c2
   rw [← Nat.pow_add, show K + 1 + (n + 1) = K + n + 2 by omega] at c3
   omega
  have a2 : a * s < (1000000000 ^ (K + 1) * b) * s := Nat.mul_lt_mul_of_pos_right a1 (by omega)
  have a3 : ((a * s : Nat) : Int) < (((1000000000 ^ (K + 1) * b) * s : Nat) : Int) := Int.ofNat_lt.2 a2
  have a4 : ((((1000000000 ^ (K + 1) * b) * s : Nat)) : Int) = 1000000000 ^ (K + 1) * V 1000000000 v := by
   rw [hvV, Nat.mul_assoc, Int.natCast_mul, Int.natCast_pow]; rfl
  rw [a4] at a3
  have a5 : 1000000000 ^ (K + 1) * V 1000000000 (u0.drop (K + 1)) < 1000000000 ^ (K + 1) * V 1000000000 v := by omega
  exact Int.lt_of_mul_lt_mul_left a5 (Int.le_of_lt (Int.pow_pos (by omega)))
 refine aaN (fun i : Int × List Int × List Int × Unit => ∃ k : Nat, k ≤ K + 1 ∧ i.1 = (k : Int) - 1 ∧ i.2.1.length = K + 1 ∧ Dg 1000000000 i.2.1 ∧ (∀ p, p < k → i.2.1.getD p 0 = 0) ∧ i.2.2.1.length = (mag a).length + 1 ∧ Dg 1000000000 i.2.2.1 ∧ V 1000000000 (i.2.2.1.drop k) < V 1000000000 v ∧ ((a * s : Nat) : Int) = V 1000000000 i.2.1 * V 1000000000 v + V 1000000000 i.2.2.1) (fun i => (i.1 + 1).toNat) (fun _ => (mag (a / b), mag (a % b), ())) ?_ _ ⟨K + 1, Nat.le_refl _, by dsimp only; omega, by simp, af9 (by omega) _, fun p _ => by simp [List.getD_eq_getElem?_getD, List.getElem?_replicate]; split <;> rfl, hu0l, hu0d, hdrop0, by rw [ar7, hu0V]; omega⟩
 rintro ⟨i, q, u, u6⟩ ⟨k, g1, g2, g3, g4, g5, g6, g7, g8, g9⟩
 dsimp only at g2 g3 g4 g5 g6 g7 g8 g9
 subst g2
 cases k with
 | zero =>
  right
  rw [List.drop_zero] at g8
  obtain ⟨x, hx⟩ := Int.eq_ofNat_of_zero_le (aaT (by omega) g4)
  obtain ⟨r, hr⟩ := Int.eq_ofNat_of_zero_le (aaT (by omega) g7)
  rw [hx, hr, hvV] at g9
  rw [hr, hvV] at g8
  have h8 : a * s = x * (b * s) + r := by
   have : ((a * s : Nat) : Int) = ((x * (b * s) + r : Nat) : Int) := by rw [g9]; simp
   exact Int.ofNat.inj this
  have h9 : x = a / b := by
   have : a * s / (b * s) = x := by rw [h8, Nat.add_comm, Nat.add_mul_div_right _ _ hvpos, Nat.div_eq_of_lt (by omega), Nat.zero_add]
   rw [← this, Nat.mul_div_mul_right _ _ (by omega)]
  have h10 : r = (a % b) * s := by
   have : a * s % (b * s) = r := by rw [h8, Nat.add_comm, Nat.add_mul_mod_self_right, Nat.mod_eq_of_lt (by omega)]
   rw [← this, Nat.mul_mod_mul_right]
  have hrl : (mag r).length ≤ n + 2 := by rw [← lv, ← hv]; exact abQ (by omega)
  have hVtake : V 1000000000 (u.take (n + 2)) = r := by
   have e1 := ab6 1000000000 u (n + 2)
   have e2 := aaT (by omega) (ab5 g7 (n + 2))
   have e3 := aaT (by omega) (acK g7 (n + 2))
   have e4 : V 1000000000 u < 1000000000 ^ (n + 2) := by
    have := aJK (by omega) hvd
    rw [lv] at this
    omega
   have e5 : V 1000000000 (u.drop (n + 2)) < 1 := by
    have : 1000000000 ^ (n + 2) * V 1000000000 (u.drop (n + 2)) < 1000000000 ^ (n + 2) * 1 := by omega
    exact Int.lt_of_mul_lt_mul_left this (Int.le_of_lt (Int.pow_pos (by omega)))
   have e6 : V 1000000000 (u.drop (n + 2)) = 0 := by omega
   rw [e6, Int.mul_zero] at e1
   omega
  have wlv : len v = ((n + 2 : Nat) : Int) := by rw [aaC, lv]
  simp only [ah0, w1, hg, wt, ws, w2, w3, w4, wlv, Int.toNat_natCast]
  have wkk : w64 (w64 (len (mag a) - ((n + 2 : Nat) : Int)) + 1) = ((K + 1 : Nat) : Int) := by rw [← wlv, w3, w4]
  simp only [wkk, Int.toNat_natCast]
  refine uF sd (uN ⟨by omega, by omega⟩ ?_)
  have htr : ∀ (l : List Int) (z : Nat), Dg 1000000000 l → l.length ≤ 2000000000000 → V 1000000000 l = z → acF (l, ()) = some (mag z, ()) := by
   intro l z h1 h2 h3
   unfold acF
   rw [if_pos ⟨h1, h2⟩]
   simp only [h3, Int.toNat_natCast]
  refine uC _ (htr _ r (ab5 g7 _) (by rw [List.length_take]; omega) hVtake) ?_
  refine uC _ (hshort r s (by omega) (by omega) (by omega)) ?_
  have htq : List.take (K + 1) q = q := List.take_of_length_le (by omega)
  rw [htq]
  refine uC _ (htr q x g4 (by omega) hx) ?_
  rw [aaK, h9, h10, Nat.mul_div_cancel _ (by omega)]
 | succ j =>
  left
  have e6 : ((j + 1 : Nat) : Int) - 1 = (j : Int) := by omega
  rw [e6]
  have wlv : len v = ((n + 2 : Nat) : Int) := by rw [aaC, lv]
  have wa : w64 (w64 ((j : Int) + len v) + 1) = ((j + n + 2 + 1 : Nat) : Int) := by rw [wlv, aaA (x := (j : Int) + ((n + 2 : Nat) : Int)) (by omega), aaA (by omega)]; omega
  have wb : ((((j + n + 2 + 1 : Nat) : Int).toNat - (j : Int).toNat : Nat) : Int) = ((n + 3 : Nat) : Int) := by omega
  have wb1 : w64 (len v - 1) = ((n + 1 : Nat) : Int) := by rw [wlv, aaA (by omega)]; omega
  have hvpos' : 0 < V 1000000000 v := by rw [hvV]; omega
  have du := aa3 (by omega) g7 j
  have eU := aaU 1000000000 u j
  have hU0 := aaT (by omega) (acK g7 j)
  have hUB : V 1000000000 (u.drop j) < V 1000000000 v * 1000000000 := by omega
  have hvlt : V 1000000000 v < 1000000000 ^ (n + 2) := by have := aJK (by omega) hvd; rwa [lv] at this
  have hz : V 1000000000 (u.drop (j + n + 2 + 1)) = 0 := by
   have e1 := ab6 1000000000 (u.drop (j + 1)) (n + 2)
   rw [List.drop_drop, show j + 1 + (n + 2) = j + n + 2 + 1 by omega] at e1
   have e2 := aaT (by omega) (ab5 (acK g7 (j + 1)) (n + 2))
   have e3 := aaT (by omega) (acK g7 (j + n + 2 + 1))
   have e5 : V 1000000000 (u.drop (j + n + 2 + 1)) < 1 := by
    have : 1000000000 ^ (n + 2) * V 1000000000 (u.drop (j + n + 2 + 1)) < 1000000000 ^ (n + 2) * 1 := by omega
    exact Int.lt_of_mul_lt_mul_left this (Int.le_of_lt (Int.pow_pos (by omega)))
   omega
  obtain ⟨Q, hQ⟩ : ∃ Q, Q = V 1000000000 (u.drop j) / V 1000000000 v := ⟨_, rfl⟩
  have hdm := Int.emod_add_mul_ediv (V 1000000000 (u.drop j)) (V 1000000000 v)
  have hr0 := Int.emod_nonneg (V 1000000000 (u.drop j)) (show V 1000000000 v ≠ 0 by omega)
  have hr1 := Int.emod_lt_of_pos (V 1000000000 (u.drop j)) hvpos'
  have hQ0 : 0 ≤ Q := by rw [hQ]; exact Int.ediv_nonneg hU0 (by omega)
  rw [← hQ, Int.mul_comm] at hdm
  have hQB : Q < 1000000000 := by
   have : Q * V 1000000000 v < 1000000000 * V 1000000000 v := by omega
   exact Int.lt_of_mul_lt_mul_right this (by omega)
  obtain ⟨qq, p1, p2, p3, p4⟩ := aL1 (mag a) (mag b) (atF a b, ()) (mag (a * s), ()) v q u j n (V 1000000000 (u.drop j)) Q hvd lv (by omega) (by omega) g7 hz rfl hUB (by omega) (by rw [Int.add_mul]; omega) hQ0 hvtop
  obtain ⟨u', r1, r2, r3, r4, r5⟩ := aL0 (mag a) (mag b) (atF a b, ()) (mag (a * s), ()) v q u j (n + 2) qq Q hvd lv (by omega) (by omega) g7 ⟨p2, p3⟩ (by rw [w3, w4]; exact ⟨by omega, by omega⟩) hz p1 (by omega) (by omega) hQ0
  have k1 : j ≤ K + 1 := Nat.le_of_succ_le g1
  have k3 : (q.set j Q).length = K + 1 := by rw [List.length_set]; exact g3
  have k4 := aiE g4 ⟨hQ0, hQB⟩ j
  have k6 : u'.length = (mag a).length + 1 := by rw [r2]; exact g6
  have k8 : V 1000000000 (u'.drop j) < V 1000000000 v := by rw [r5]; omega
  have k9 : ((j : Int) - 1 + 1).toNat < ((j : Int) + 1).toNat := by omega
  refine ⟨((j : Int) - 1, q.set j Q, u', ()), ?_, ⟨j, k1, rfl, k3, k4, ?_, k6, r3, k8, ?_⟩, k9, (by first | exact True.intro | rfl)⟩
  ·exact aL2 (mag a) (mag b) (atF a b, ()) (mag (a * s), ()) v q u j n qq _ hvd g7 lv g6 (by omega) (by omega) hvtop p4 r1
  ·intro p hp
   dsimp only
   rw [anW _ (by omega)]
   exact g5 p (by omega)
  ·dsimp only
   rw [axF _ (by omega), g5 j (by omega), r4, g9]
   grind
theorem aHJ (n o : SgT) (y) (h : axG (n, o, ()) = some y) : (akZ n o).toO = some y := by
 obtain ⟨⟨a, b⟩, hp, hx, rfl⟩ := aaD h
 obtain ⟨rfl, hx2⟩ := Prod.mk.inj hx; obtain ⟨rfl, -⟩ := Prod.mk.inj hx2; dsimp only
 obtain ⟨l1, l2⟩ := hp
 simp only at l1 l2
 unfold akZ
 dsimp only
 refine uC _ (aB6 (aaH l2 (by omega))) ?_
 refine uC (sg (a + -b), ()) (aO7 l1 (by rw [Int.natAbs_neg]; exact l2)) ?_
 rw [← Int.sub_eq_add_neg]; rfl
theorem aPI {a b : Int} : a * b = 0 ∨ (!(decide (a < 0) == decide (b < 0))) = decide (a * b < 0) := by
 rcases Int.lt_trichotomy a 0 with ha | ha | ha
 ·rcases Int.lt_trichotomy b 0 with hb | hb | hb
  ·right
   have := Int.mul_pos_of_neg_of_neg ha hb
   rw [decide_eq_true ha, decide_eq_true hb, decide_eq_false (by omega)]; rfl
  ·left; rw [hb, Int.mul_zero]
  ·right
   have := Int.mul_neg_of_neg_of_pos ha hb
   rw [decide_eq_true ha, decide_eq_false (by omega), decide_eq_true this]; rfl
 ·left; rw [ha, Int.zero_mul]
 ·rcases Int.lt_trichotomy b 0 with hb | hb | hb
  ·right
   have := Int.mul_neg_of_pos_of_neg ha hb
   rw [decide_eq_false (by omega), decide_eq_true hb, decide_eq_true this]; rfl
  ·left; rw [hb, Int.mul_zero]
  ·right
   have := Int.mul_pos ha hb
   rw [decide_eq_false (by omega), decide_eq_false (by omega), decide_eq_false (by omega)]; rfl
theorem ax7 (n o : SgT) (y) (h : ah6 (n, o, ()) = some y) : (akY n o).toO = some y := by
 obtain ⟨⟨a, b⟩, hp, hx, rfl⟩ := aaD h
 obtain ⟨rfl, hx2⟩ := Prod.mk.inj hx; obtain ⟨rfl, -⟩ := Prod.mk.inj hx2; dsimp only
 obtain ⟨l1, l2⟩ := hp
 simp only at l1 l2
 unfold akY
 dsimp only
 refine uC _ (asE (aaH l1 (by omega)) (aaH l2 (by omega))) ?_
 exact uC (sg (a * b), ()) (aAs (by rw [Int.natAbs_mul]) aPI) rfl
def awA (l : List Int) (j : Nat) : Bool := (List.range j).any (fun i => decide (l.getD (i + 1) 0 < l.getD i 0))
def aqW (l : List Int) (j : Nat) : Bool := (List.range j).any (fun i => decide (l.getD (i + 1) 0 > l.getD i 0))
theorem aDM (l : List Int) (j : Nat) : awA l (j + 1) = (awA l j || decide (l.getD (j + 1) 0 < l.getD j 0)) := by
 unfold awA; rw [List.range_succ, List.any_append]; simp
theorem aCA (l : List Int) (j : Nat) : aqW l (j + 1) = (aqW l j || decide (l.getD (j + 1) 0 > l.getD j 0)) := by
 unfold aqW; rw [List.range_succ, List.any_append]; simp
theorem aH3 {c : CvT} (h : acD c) : c.2.1.length ≤ 17 ∧ (c.1 = 3 → 1 ≤ c.2.2.1.length ∧ c.2.2.1.length ≤ 4) := by
 rcases h with ⟨h1, h2, h3⟩ | ⟨h1, h2, h3⟩ | ⟨h1, h2, h3⟩
 ·rw [h2]; exact ⟨by simp, fun h => by omega⟩
 ·exact ⟨h2.2.1, fun h => by omega⟩
 ·rw [h2]; exact ⟨by simp, fun _ => ⟨h3.1, h3.2.1⟩⟩
theorem aGg (c : CvT) (y) (h : agL (c, ()) = some y) : (aw0 c).toO = some y := by
 injection h with h
 subst h
 obtain ⟨kind, tab, l, u0⟩ := c
 unfold aw0
 dsimp only
 refine uC _ (aqO (kind, tab, l, ())) ?_
 by_cases hr : acD (kind, tab, l, ())
 case neg =>
  have hr' : ¬ acD (kind, tab, l, u0) := hr
  rw [if_neg hr']
  rw [if_neg hr]
  exact uT rfl rfl
 have hr' : acD (kind, tab, l, u0) := hr
 rw [if_pos hr']
 rw [if_pos hr]
 obtain ⟨hl1, hl2⟩ := aH3 hr
 dsimp only at hl1 hl2
 refine uF rfl (uO (1, false, false, ()) rfl ?_)
 refine aaN (fun i : Int × Bool × Bool × Unit => ∃ j : Nat, j ≤ tab.length - 1 ∧ i.1 = (j : Int) + 1 ∧ i.2.1 = awA tab j ∧ i.2.2.1 = aqW tab j) (fun i => ((tab.length : Int) - i.1).toNat) (fun _ => (aiR (kind, tab, l, u0), 0, ())) ?_ _ ⟨0, by omega, rfl, rfl, rfl⟩
 rintro ⟨i, dn, up, u⟩ ⟨j, h1, h2, h3, h4⟩
 dsimp only at h2 h3 h4
 subst h2
 simp only [aAk]
 have hw1 : w64 ((j : Int) + 1 + 1) = (((j + 1 : Nat) : Int)) + 1 := by rw [aaA (by omega)]; omega
 have hw2 : w64 ((j : Int) + 1 - 1) = (j : Int) := by rw [aaA (by omega)]; omega
 have hj1 : (j : Int) + 1 = ((j + 1 : Nat) : Int) := rfl
 rcases Nat.lt_or_ge (j + 1) tab.length with hk | hk
 ·left
  refine ⟨((((j + 1 : Nat) : Int)) + 1, awA tab (j + 1), aqW tab (j + 1), ()), ?_, ⟨j + 1, by omega, rfl, rfl, rfl⟩, by dsimp only; omega, (by first | exact True.intro | rfl)⟩
  refine uT sd ?_
  rw [hw1, hw2, hj1, aDM, aCA, ← h3, ← h4]
  simp only [aaM]
  cases up
  ·refine uF rfl (uN ⟨by exact sn, by exact sn⟩ (uN ⟨by exact sn, by exact sn⟩ ?_))
   cases dn
   ·exact uF rfl (uN ⟨by exact sn, by exact sn⟩ (uN ⟨by exact sn, by exact sn⟩ rfl))
   ·exact uT rfl rfl
  ·refine uT rfl ?_
   cases dn
   ·exact uF rfl (uN ⟨by exact sn, by exact sn⟩ (uN ⟨by exact sn, by exact sn⟩ rfl))
   ·exact uT rfl rfl
 ·right
  refine uF sd ?_
  have hj : j = tab.length - 1 := by omega
  subst hj
  have h3' : dn = aI6 tab := h3
  have h4' : up = aqW tab (tab.length - 1) := h4
  unfold aiR
  dsimp only
  by_cases k3 : kind = 3
  ·obtain ⟨g1, g2⟩ := hl2 k3
   rw [if_pos k3]
   subst k3
   refine uT rfl (uN ⟨by exact sn, by exact sn⟩ ?_)
   have hg : gi l 0 zs = l.getD 0 zs := aaM l 0 zs
   rw [hg]
   by_cases g3 : l.length > 1
   ·have e1 : (!decide (len l > 1)) = false := by rw [decide_eq_true (by rw [aaC]; omega)]; rfl
    rw [if_pos g3, e1]
    by_cases g4 : (l.getD 0 zs).2.1 < 0
    ·exact uT (decide_eq_true g4) (uF rfl rfl)
    ·exact uF (decide_eq_false g4) (uF rfl (uF rfl rfl))
   ·have e1 : (!decide (len l > 1)) = true := by rw [decide_eq_false (by rw [aaC]; omega)]; rfl
    rw [if_neg g3, e1]
    by_cases g4 : (l.getD 0 zs).2.1 < 0
    ·rw [if_pos g4]; exact uT (decide_eq_true g4) (uT rfl rfl)
    ·rw [if_neg g4]; exact uF (decide_eq_false g4) (uT rfl rfl)
  ·rw [if_neg k3]
   have h5 : up = aH2 tab := h4'
   refine uF (beq_eq_false_iff_ne.2 k3) ?_
   rw [h3', h5]
   cases aI6 tab
   ·exact uT rfl rfl
   ·refine uF rfl ?_
    cases aH2 tab
    ·exact uT rfl rfl
    ·exact uF rfl rfl
set_option maxRecDepth 100000
open Go Go.Vg Go.Proofs
noncomputable section
def aEW : LTab := [(126, 26, 2048, { tag := 0, ι := (Int) × Unit, vs := .dat (.s 5) (Ty.int IntKind.i64) <| .nil, ks := [0, 1], kh := [], fresh := 0 })]
def asM (a : Int) (b : Int) (i : (Int) × Unit) : TT (((Int) × Unit) ⊕ (Bool × Unit)) :=
 .ite (decide (i.1 ≤ a))
 (.ite (decide (i.1 ≤ b))
 (.need (i.1 ≠ 0) <| .ite (Int.tmod a i.1 == 0)
 (.need (i.1 ≠ 0) <| .ite (Int.tmod b i.1 == 0)
 (.ok (.inr ((true, ()))))
 (.tt <| .lt (w64 (i.1 + 1) : Int) fun z => .triv (Qq z ∧ Qq a ∧ Qq b ∧ True) tv <| .tr <| .ok (.inl ((z, ())))))
 (.tt <| .lt (w64 (i.1 + 1) : Int) fun z1 => .triv (Qq z1 ∧ Qq a ∧ Qq b ∧ True) tv <| .tr <| .ok (.inl ((z1, ())))))
 (.ok (.inr ((false, ())))))
 (.ok (.inr ((false, ()))))
def anM (a : Int) (b : Int) : TT (Bool × Unit) :=
 .loop 0 (.tt <| .triv (Qq (2 : Int) ∧ Qq a ∧ Qq b ∧ True) tv <| .tr <| .ok ((2, ()))) (asM a b)
end
theorem aAY (a b : Int) (y) (h : abK (a, b, ()) = some y) : (anM a b).toO = some y := by
 unfold abK at h
 split at h
 case isFalse => cases h
 case isTrue hp =>
 injection h with h
 subst h
 obtain ⟨⟨a1, a2⟩, b1, b2⟩ := hp
 dsimp only at a1 a2 b1 b2 ⊢
 obtain ⟨m, rfl⟩ := Int.eq_ofNat_of_zero_le (show 0 ≤ a by omega)
 obtain ⟨n, rfl⟩ := Int.eq_ofNat_of_zero_le (show 0 ≤ b by omega)
 unfold anM
 refine uO (2, ()) rfl ?_
 refine aaN (fun i : Int × Unit => ∃ k : Nat, 2 ≤ k ∧ k ≤ 50 ∧ i.1 = (k : Int) ∧ ∀ j, 2 ≤ j → j < k → ¬ (j ∣ m ∧ j ∣ n)) (fun i => ((60 : Int) - i.1).toNat) (fun _ => (!decide (Nat.gcd (m : Int).natAbs (n : Int).natAbs = 1), ())) ?_ _ ⟨2, by omega, by omega, rfl, fun j h1 h2 => by omega⟩
 rintro ⟨i, u⟩ ⟨k, h1, h1', h2, h3⟩
 dsimp only at h2
 subst h2
 simp only [asM, Int.natAbs_natCast]
 have hstop : ¬ (k ≤ m ∧ k ≤ n) → (!decide (Nat.gcd m n = 1)) = false := by
  intro hk
  refine (fun hg : Nat.gcd m n = 1 => by rw [decide_eq_true hg]; rfl) ?_
  have g1 : 0 < Nat.gcd m n := Nat.gcd_pos_of_pos_left _ (by omega)
  have g2 := Nat.gcd_dvd_left m n
  have g3 := Nat.gcd_dvd_right m n
  have g4 := Nat.le_of_dvd (by omega) g2
  have g5 := Nat.le_of_dvd (by omega) g3
  rcases Nat.lt_or_ge 1 (Nat.gcd m n) with g6 | g6
  ·exact absurd ⟨g2, g3⟩ (h3 _ (by omega) (by omega))
  ·omega
 have hdiv : ∀ z : Nat, ((Int.tmod (z : Int) (k : Int)) == 0) = decide (k ∣ z) := by
  intro z
  rw [← Int.ofNat_tmod]
  by_cases c : k ∣ z
  ·rw [decide_eq_true c, Nat.mod_eq_zero_of_dvd c]; rfl
  ·rw [decide_eq_false c, beq_eq_false_iff_ne]
   intro h
   exact c (Nat.dvd_of_mod_eq_zero (by omega))
 by_cases c1 : k ≤ m
 ·by_cases c2 : k ≤ n
  ·by_cases d1 : k ∣ m
   ·by_cases d2 : k ∣ n
    ·right
     rw [decide_eq_false (fun h : Nat.gcd m n = 1 => by have := Nat.dvd_gcd d1 d2; rw [h] at this; have := Nat.le_of_dvd (by omega) this; omega)]
     exact uT sd (uT sd (uN (by omega) (uT (by rw [hdiv]; exact decide_eq_true d1) (uN (by omega) (uT (by rw [hdiv]; exact decide_eq_true d2) rfl)))))
    ·left
     refine ⟨(((k + 1 : Nat) : Int), ()), ?_, ⟨k + 1, by omega, by omega, rfl, fun j j1 j2 => ?_⟩, by dsimp only; omega, (by first | exact True.intro | rfl)⟩
     ·refine uT sd (uT sd (uN (by omega) (uT (by rw [hdiv]; exact decide_eq_true d1) (uN (by omega) (uF (by rw [hdiv]; exact decide_eq_false d2) ?_)))))
      rw [aaA (x := (k : Int) + 1) (by omega)]; rfl
     ·rcases Nat.lt_or_ge j k with hj | hj
      ·exact h3 j j1 hj
      ·obtain rfl : j = k := by omega
       exact fun h => d2 h.2
   ·left
    refine ⟨(((k + 1 : Nat) : Int), ()), ?_, ⟨k + 1, by omega, by omega, rfl, fun j j1 j2 => ?_⟩, by dsimp only; omega, (by first | exact True.intro | rfl)⟩
    ·refine uT sd (uT sd (uN (by omega) (uF (by rw [hdiv]; exact decide_eq_false d1) ?_)))
     rw [aaA (x := (k : Int) + 1) (by omega)]; rfl
    ·rcases Nat.lt_or_ge j k with hj | hj
     ·exact h3 j j1 hj
     ·obtain rfl : j = k := by omega
      exact fun h => d1 h.1
  ·right
   rw [hstop (fun h => c2 h.2)]
   exact uT sd (uF sd rfl)
 ·right
  rw [hstop (fun h => c1 h.1)]
  exact uF sd rfl
theorem aQC {n : Int} {d : Nat} (hn : aa9 n) (hd : d ≠ 0) (h2 : d ≤ 9223372036854775807) : aQB (n, (d : Int), ()) = some (fx (mkRat n d), ()) := afH hn hd h2
set_option maxRecDepth 100000
open Go Go.Vg Go.Proofs
noncomputable section
def aMx : LTab := []
def awK (p : (Int × Int × Int × Int × Int × Int × Unit) × Int × Bool × Unit) (x : List UInt8 × List UInt8 × Unit) : TT ((List UInt8 × List UInt8 × Unit) × Int × Unit) :=
 .call (aaF (p.1.2.1, ())) aeY fun y =>
 .call (ad8 (y.1, (x.1, x.2.1, ()), ())) afI fun y1 =>
 .ite (y1.2.1 != 0)
 (.ok (((#[].toList, #[].toList, ()), y1.2.1, ())))
 (.call (aaF (p.1.2.2.1, ())) aeY fun y2 =>
 .call (adO ((y1.1.1, y1.1.2.1, ()), y2.1, ())) afI fun y3 =>
 .ite (y3.2.1 != 0)
 (.ok (((#[].toList, #[].toList, ()), y3.2.1, ())))
 (.call (aaF (1000000, ())) aeY fun y4 =>
 .call (afF ((y3.1.1, y3.1.2.1, ()), y4.1, ())) afI fun y5 =>
 .ok (((y5.1.1, y5.1.2.1, ()), y5.2.1, ()))))
def aBU : LTab := []
def apQ (c : (Int × List Int × List (Int × Int × Int × Int × Int × Int × Unit) × Unit) × Unit) (x : List UInt8 × List UInt8 × Unit) : TT ((List UInt8 × List UInt8 × Unit) × Int × Unit) :=
 .ok (((x.1, x.2.1, ()), 0, ()))
def aD5 : LTab := [(47, 27, 5120, { tag := 0, ι := (Int) × (Int) × (Int) × (Int) × (Int) × (Int) × (Int) × (Bool) × Unit, vs := .dat (.c 4 0) (Ty.int IntKind.i64) <| .dat (.c 4 1) (Ty.int IntKind.i64) <| .dat (.c 4 2) (Ty.int IntKind.i64) <| .dat (.c 4 3) (Ty.int IntKind.i64) <| .dat (.c 4 4) (Ty.int IntKind.i64) <| .dat (.c 4 5) (Ty.int IntKind.i64) <| .dat (.c 4 6) (Ty.int IntKind.i64) <| .dat (.c 4 7) (Ty.bool) <| .nil, ks := [6, 5, 4, 3], kh := [4, 2, 1, 0], fresh := 0 }), (128, 14, 17408, { tag := 1, ι := (Int) × (Int) × (Int) × (Int) × (Int) × (Int) × (Int) × (Int) × (Int) × (Bool) × Unit, vs := .dat (.s 9) (Ty.int IntKind.i64) <| .dat (.s 3) (Ty.int IntKind.i64) <| .dat (.c 4 0) (Ty.int IntKind.i64) <| .dat (.c 4 1) (Ty.int IntKind.i64) <| .dat (.c 4 2) (Ty.int IntKind.i64) <| .dat (.c 4 3) (Ty.int IntKind.i64) <| .dat (.c 4 4) (Ty.int IntKind.i64) <| .dat (.c 4 5) (Ty.int IntKind.i64) <| .dat (.c 4 6) (Ty.int IntKind.i64) <| .dat (.c 4 7) (Ty.bool) <| .nil, ks := [8, 7, 0], kh := [11, 7, 4, 2, 1, 0], fresh := 0 }), (47, 447, 19456, { tag := 2, ι := (List UInt8) × (List UInt8) × Unit, vs := .dat (.c 15 0) (Ty.str) <| .dat (.c 15 1) (Ty.str) <| .nil, ks := [10, 6, 5, 4], kh := [15, 4, 2, 1, 0], fresh := 0 }), (47, 28666, 28672, { tag := 3, ι := (Int) × (List UInt8) × (List UInt8) × Unit, vs := .dat (.s 62) (Ty.int IntKind.i64) <| .dat (.c 20 0) (Ty.str) <| .dat (.c 20 1) (Ty.str) <| .nil, ks := [61, 15, 14, 6, 4], kh := [20, 15, 4, 2, 1, 0], fresh := 0 })]
def apT (c : (Int × List Int × List (Int × Int × Int × Int × Int × Int × Unit) × Unit) × Unit) (x : List UInt8 × List UInt8 × Unit) (i : (Int) × (Int) × (Int) × (Int) × (Int) × (Int) × (Int) × (Int) × (Int) × (Bool) × Unit) : TT (((Int) × (Int) × (Int) × (Int) × (Int) × (Int) × (Int) × (Int) × (Int) × (Bool) × Unit) ⊕ (((Int) × (Int) × (Int) × (Int) × (Int) × (Int) × (Int) × (Bool) × Unit) ⊕ ((List UInt8 × List UInt8 × Unit) × Int × Unit))) :=
 .ite (decide (i.1 < len c.1.2.2.1))
 (.need (inb i.1 (len c.1.2.2.1)) <| .call (abY ((gi c.1.2.2.1 i.1 (0, 0, 0, 0, 0, 0, ())).1, 1000000, ())) aeY fun y =>
 .call (afX ((x.1, x.2.1, ()), y.1, ())) aCf fun y1 =>
 .ite (decide (y1.1 ≤ 0))
 (.tt <| .lt ((gi c.1.2.2.1 i.1 (0, 0, 0, 0, 0, 0, ())).1 : Int) fun z => .lt ((gi c.1.2.2.1 i.1 (0, 0, 0, 0, 0, 0, ())).2.1 : Int) fun z1 => .lt ((gi c.1.2.2.1 i.1 (0, 0, 0, 0, 0, 0, ())).2.2.1 : Int) fun z2 => .lt ((gi c.1.2.2.1 i.1 (0, 0, 0, 0, 0, 0, ())).2.2.2.1 : Int) fun z3 => .lt ((gi c.1.2.2.1 i.1 (0, 0, 0, 0, 0, 0, ())).2.2.2.2.1 : Int) fun z4 => .lt ((gi c.1.2.2.1 i.1 (0, 0, 0, 0, 0, 0, ())).2.2.2.2.2.1 : Int) fun z5 => .lt (i.2.1 : Int) fun z6 => .lt (i.1 == 0 : Bool) fun z7 => .triv ((Qq 4 ∧ Qq 0 ∧ Qq true) ∧ Qq (0 : Int) ∧ (Qq 2 ∧ Qq 0 ∧ Qq true) ∧ (Qq 1 ∧ Qq 0 ∧ Qq true) ∧ True) tv <| .triv ((Qq (122 : TypeId) ∧ Qq z ∧ Qq z1 ∧ Qq z2 ∧ Qq z3 ∧ Qq z4 ∧ Qq z5 ∧ Qq z6 ∧ Qq z7 ∧ True) ∧ Qq true ∧ (Qq (36 : TypeId) ∧ Qq (#[].toList : List UInt8) ∧ Qq (#[].toList : List UInt8) ∧ True) ∧ Qq true ∧ (Qq (36 : TypeId) ∧ Qq x.1 ∧ Qq x.2.1 ∧ True) ∧ Qq true ∧ (Qq (96 : TypeId) ∧ Qq c.1.1 ∧ Qq c.1.2.1 ∧ Qq c.1.2.2.1 ∧ True) ∧ Qq true ∧ True) tv <| .ok (.inr (.inl ((z, z1, z2, z3, z4, z5, z6, z7, ())))))
 (.tt <| .lt (w64 (i.1 + 1) : Int) fun z8 => .lt ((gi c.1.2.2.1 i.1 (0, 0, 0, 0, 0, 0, ())).1 : Int) fun z9 => .lt ((gi c.1.2.2.1 i.1 (0, 0, 0, 0, 0, 0, ())).2.1 : Int) fun z10 => .lt ((gi c.1.2.2.1 i.1 (0, 0, 0, 0, 0, 0, ())).2.2.1 : Int) fun z11 => .lt ((gi c.1.2.2.1 i.1 (0, 0, 0, 0, 0, 0, ())).2.2.2.1 : Int) fun z12 => .lt ((gi c.1.2.2.1 i.1 (0, 0, 0, 0, 0, 0, ())).2.2.2.2.1 : Int) fun z13 => .lt ((gi c.1.2.2.1 i.1 (0, 0, 0, 0, 0, 0, ())).2.2.2.2.2.1 : Int) fun z14 => .lt (i.2.1 : Int) fun z15 => .lt (i.1 == 0 : Bool) fun z16 => .triv (Qq z9 ∧ Qq z8 ∧ Qq (len c.1.2.2.1) ∧ Qq c.1.2.2.1 ∧ (Qq 11 ∧ Qq true) ∧ True) tv <| .triv ((Qq (LoopState.ready : LoopState) ∧ Qq (none : Option Code) ∧ Qq 86 ∧ Qq (#[20] : Array Tmp) ∧ Qq (akT (acL Tryz.f47) [1, 0, 1, 1, 0, 1, 0, 0]) ∧ Qq (akT (acL Tryz.f47) [1, 0, 1, 1, 0, 1, 0, 1]) ∧ (Qq (128 : FuncId) ∧ True ∧ (Qq 7 ∧ Qq 0 ∧ Qq true) ∧ True) ∧ Qq ((c.1.1, c.1.2.1, c.1.2.2.1, ()) : Int × List Int × List (Int × Int × Int × Int × Int × Int × Unit) × Unit) ∧ (Qq 0 ∧ Qq 0 ∧ Qq true) ∧ (Qq 4 ∧ Qq 0 ∧ Qq true) ∧ Qq (0 : Int) ∧ (Qq 2 ∧ Qq 0 ∧ Qq true) ∧ (Qq 1 ∧ Qq 0 ∧ Qq true) ∧ (Qq 0 ∧ Qq 0 ∧ Qq true) ∧ Qq c ∧ Qq x ∧ True) ∧ Qq true ∧ (Qq (42 : TypeId) ∧ Qq c.1.1 ∧ Qq c.1.2.1 ∧ Qq c.1.2.2.1 ∧ True) ∧ Qq true ∧ (Qq (122 : TypeId) ∧ Qq z9 ∧ Qq z10 ∧ Qq z11 ∧ Qq z12 ∧ Qq z13 ∧ Qq z14 ∧ Qq z15 ∧ Qq z16 ∧ True) ∧ Qq true ∧ (Qq (36 : TypeId) ∧ Qq (#[].toList : List UInt8) ∧ Qq (#[].toList : List UInt8) ∧ True) ∧ Qq true ∧ (Qq (36 : TypeId) ∧ Qq x.1 ∧ Qq x.2.1 ∧ True) ∧ Qq true ∧ (Qq (96 : TypeId) ∧ Qq c.1.1 ∧ Qq c.1.2.1 ∧ Qq c.1.2.2.1 ∧ True) ∧ Qq true ∧ True) tv <| .ok (.inl ((z8, z9, z9, z10, z11, z12, z13, z14, z15, z16, ())))))
 (.tt <| .lt (i.2.2.1 : Int) fun z17 => .lt (i.2.2.2.1 : Int) fun z18 => .lt (i.2.2.2.2.1 : Int) fun z19 => .lt (i.2.2.2.2.2.1 : Int) fun z20 => .lt (i.2.2.2.2.2.2.1 : Int) fun z21 => .lt (i.2.2.2.2.2.2.2.1 : Int) fun z22 => .lt (i.2.2.2.2.2.2.2.2.1 : Int) fun z23 => .lt (i.2.2.2.2.2.2.2.2.2.1 : Bool) fun z24 => .triv ((Qq 4 ∧ Qq 0 ∧ Qq true) ∧ Qq (0 : Int) ∧ (Qq 2 ∧ Qq 0 ∧ Qq true) ∧ (Qq 1 ∧ Qq 0 ∧ Qq true) ∧ True) tv <| .triv ((Qq (122 : TypeId) ∧ Qq z17 ∧ Qq z18 ∧ Qq z19 ∧ Qq z20 ∧ Qq z21 ∧ Qq z22 ∧ Qq z23 ∧ Qq z24 ∧ True) ∧ Qq true ∧ (Qq (36 : TypeId) ∧ Qq (#[].toList : List UInt8) ∧ Qq (#[].toList : List UInt8) ∧ True) ∧ Qq true ∧ (Qq (36 : TypeId) ∧ Qq x.1 ∧ Qq x.2.1 ∧ True) ∧ Qq true ∧ (Qq (96 : TypeId) ∧ Qq c.1.1 ∧ Qq c.1.2.1 ∧ Qq c.1.2.2.1 ∧ True) ∧ Qq true ∧ True) tv <| .ok (.inr (.inl ((z17, z18, z19, z20, z21, z22, z23, z24, ())))))
def akC (c : (Int × List Int × List (Int × Int × Int × Int × Int × Int × Unit) × Unit) × Unit) (x : List UInt8 × List UInt8 × Unit) (j : Int × Int × Int × Int × Int × Int × Int × Bool × Unit) (y2 : (List UInt8 × List UInt8 × Unit) × Int × Unit) (j1 : List UInt8 × List UInt8 × Unit) (i1 : (Int) × (List UInt8) × (List UInt8) × Unit) : TT (((Int) × (List UInt8) × (List UInt8) × Unit) ⊕ ((List UInt8 × List UInt8 × Unit) × Int × Unit)) :=
 .ite (decide (i1.1 < w64 (j.2.2.2.1 - 1)))
 (.tt <| .tt <| .call (ad8 ((i1.2.1, i1.2.2.1, ()), (j1.1, j1.2.1, ()), ())) afI fun y5 =>
 .ite (y5.2.1 != 0)
 (.ok (.inr (((#[].toList, #[].toList, ()), y5.2.1, ()))))
 (.tt <| .lt (w64 (i1.1 + 1) : Int) fun z30 => .lt (y5.1.1 : List UInt8) fun z31 => .lt (y5.1.2.1 : List UInt8) fun z32 => .triv (Qq z30 ∧ Qq (w64 (j.2.2.2.1 - 1)) ∧ (Qq (103 : FuncId) ∧ True ∧ (Qq 20 ∧ Qq 0 ∧ Qq true) ∧ (Qq 15 ∧ Qq 0 ∧ Qq true) ∧ True) ∧ (Qq 20 ∧ Qq 0 ∧ Qq true) ∧ (Qq 4 ∧ Qq 0 ∧ Qq true) ∧ (Qq 2 ∧ Qq 0 ∧ Qq true) ∧ True) tv <| .triv ((Qq (36 : TypeId) ∧ Qq z31 ∧ Qq z32 ∧ True) ∧ Qq true ∧ (Qq (36 : TypeId) ∧ Qq j1.1 ∧ Qq j1.2.1 ∧ True) ∧ Qq true ∧ (Qq (122 : TypeId) ∧ Qq j.1 ∧ Qq j.2.1 ∧ Qq j.2.2.1 ∧ Qq j.2.2.2.1 ∧ Qq j.2.2.2.2.1 ∧ Qq j.2.2.2.2.2.1 ∧ Qq j.2.2.2.2.2.2.1 ∧ Qq j.2.2.2.2.2.2.2.1 ∧ True) ∧ Qq true ∧ (Qq (36 : TypeId) ∧ Qq (#[].toList : List UInt8) ∧ Qq (#[].toList : List UInt8) ∧ True) ∧ Qq true ∧ (Qq (36 : TypeId) ∧ Qq x.1 ∧ Qq x.2.1 ∧ True) ∧ Qq true ∧ (Qq (96 : TypeId) ∧ Qq c.1.1 ∧ Qq c.1.2.1 ∧ Qq c.1.2.2.1 ∧ True) ∧ Qq true ∧ True) tv <| .ok (.inl ((z30, z31, z32, ())))))
 (.call (abY (j.2.2.2.2.2.1, 1000000, ())) aeY fun y6 =>
 .call (adO ((i1.2.1, i1.2.2.1, ()), y6.1, ())) afI fun y7 =>
 .ite (y7.2.1 != 0)
 (.ok (.inr (((#[].toList, #[].toList, ()), y7.2.1, ()))))
 (.call (acW ((y7.1.1, y7.1.2.1, ()), ())) aeY fun y8 =>
 .ok (.inr (((y8.1.1, y8.1.2.1, ()), 0, ())))))
def apR (c : (Int × List Int × List (Int × Int × Int × Int × Int × Int × Unit) × Unit) × Unit) (x : List UInt8 × List UInt8 × Unit) (j : Int × Int × Int × Int × Int × Int × Int × Bool × Unit) (y2 : (List UInt8 × List UInt8 × Unit) × Int × Unit) (j1 : (List UInt8) × (List UInt8) × Unit) : TT ((List UInt8 × List UInt8 × Unit) × Int × Unit) :=
 .loop 3 (.tt <| .lt (j1.2.1 : List UInt8) fun z29 => .triv (Qq (0 : Int) ∧ Qq (w64 (j.2.2.2.1 - 1)) ∧ (Qq (103 : FuncId) ∧ True ∧ (Qq 20 ∧ Qq 0 ∧ Qq true) ∧ (Qq 15 ∧ Qq 0 ∧ Qq true) ∧ True) ∧ (Qq 20 ∧ Qq 0 ∧ Qq true) ∧ (Qq 4 ∧ Qq 0 ∧ Qq true) ∧ (Qq 2 ∧ Qq 0 ∧ Qq true) ∧ True) tv <| .triv ((Qq (36 : TypeId) ∧ Qq j1.1 ∧ Qq z29 ∧ True) ∧ Qq true ∧ (Qq (36 : TypeId) ∧ Qq j1.1 ∧ Qq z29 ∧ True) ∧ Qq true ∧ (Qq (122 : TypeId) ∧ Qq j.1 ∧ Qq j.2.1 ∧ Qq j.2.2.1 ∧ Qq j.2.2.2.1 ∧ Qq j.2.2.2.2.1 ∧ Qq j.2.2.2.2.2.1 ∧ Qq j.2.2.2.2.2.2.1 ∧ Qq j.2.2.2.2.2.2.2.1 ∧ True) ∧ Qq true ∧ (Qq (36 : TypeId) ∧ Qq (#[].toList : List UInt8) ∧ Qq (#[].toList : List UInt8) ∧ True) ∧ Qq true ∧ (Qq (36 : TypeId) ∧ Qq x.1 ∧ Qq x.2.1 ∧ True) ∧ Qq true ∧ (Qq (96 : TypeId) ∧ Qq c.1.1 ∧ Qq c.1.2.1 ∧ Qq c.1.2.2.1 ∧ True) ∧ Qq true ∧ True) tv <| .ok ((0, j1.1, z29, ()))) (akC c x j y2 j1)
def apS (c : (Int × List Int × List (Int × Int × Int × Int × Int × Int × Unit) × Unit) × Unit) (x : List UInt8 × List UInt8 × Unit) (j : (Int) × (Int) × (Int) × (Int) × (Int) × (Int) × (Int) × (Bool) × Unit) : TT ((List UInt8 × List UInt8 × Unit) × Int × Unit) :=
 .ite (j.2.2.2.2.1 != 1)
 (.ok (((#[].toList, #[].toList, ()), 5, ())))
 (.call (ajM (((j.1, j.2.1, j.2.2.1, j.2.2.2.1, j.2.2.2.2.1, j.2.2.2.2.2.1, ()), j.2.2.2.2.2.2.1, j.2.2.2.2.2.2.2.1, ()), (x.1, x.2.1, ()), ())) afI fun y2 =>
 .ite (y2.2.1 != 0)
 (.ok (((#[].toList, #[].toList, ()), y2.2.1, ())))
 (.join 2 (ι := (List UInt8) × (List UInt8) × Unit) (.call (aqE ((y2.1.1, y2.1.2.1, ()), ())) aCf fun y3 =>
 .ite (decide (y3.1 < 0))
 (.call (aaF (0, ())) aeY fun y4 =>
 .tt <| .lt (y4.1.1 : List UInt8) fun z25 => .lt (y4.1.2.1 : List UInt8) fun z26 => .triv ((Qq 15 ∧ Qq 0 ∧ Qq true) ∧ (Qq 4 ∧ Qq 0 ∧ Qq true) ∧ Qq (0 : Int) ∧ (Qq 2 ∧ Qq 0 ∧ Qq true) ∧ True) tv <| .triv ((Qq (36 : TypeId) ∧ Qq z25 ∧ Qq z26 ∧ True) ∧ Qq true ∧ (Qq (122 : TypeId) ∧ Qq j.1 ∧ Qq j.2.1 ∧ Qq j.2.2.1 ∧ Qq j.2.2.2.1 ∧ Qq j.2.2.2.2.1 ∧ Qq j.2.2.2.2.2.1 ∧ Qq j.2.2.2.2.2.2.1 ∧ Qq j.2.2.2.2.2.2.2.1 ∧ True) ∧ Qq true ∧ (Qq (36 : TypeId) ∧ Qq (#[].toList : List UInt8) ∧ Qq (#[].toList : List UInt8) ∧ True) ∧ Qq true ∧ (Qq (36 : TypeId) ∧ Qq x.1 ∧ Qq x.2.1 ∧ True) ∧ Qq true ∧ (Qq (96 : TypeId) ∧ Qq c.1.1 ∧ Qq c.1.2.1 ∧ Qq c.1.2.2.1 ∧ True) ∧ Qq true ∧ True) tv <| .ok (.inl ((z25, z26, ()))))
 (.tt <| .lt (y2.1.1 : List UInt8) fun z27 => .lt (y2.1.2.1 : List UInt8) fun z28 => .triv ((Qq 15 ∧ Qq 0 ∧ Qq true) ∧ (Qq 4 ∧ Qq 0 ∧ Qq true) ∧ Qq (0 : Int) ∧ (Qq 2 ∧ Qq 0 ∧ Qq true) ∧ True) tv <| .triv ((Qq (36 : TypeId) ∧ Qq z27 ∧ Qq z28 ∧ True) ∧ Qq true ∧ (Qq (122 : TypeId) ∧ Qq j.1 ∧ Qq j.2.1 ∧ Qq j.2.2.1 ∧ Qq j.2.2.2.1 ∧ Qq j.2.2.2.2.1 ∧ Qq j.2.2.2.2.2.1 ∧ Qq j.2.2.2.2.2.2.1 ∧ Qq j.2.2.2.2.2.2.2.1 ∧ True) ∧ Qq true ∧ (Qq (36 : TypeId) ∧ Qq (#[].toList : List UInt8) ∧ Qq (#[].toList : List UInt8) ∧ True) ∧ Qq true ∧ (Qq (36 : TypeId) ∧ Qq x.1 ∧ Qq x.2.1 ∧ True) ∧ Qq true ∧ (Qq (96 : TypeId) ∧ Qq c.1.1 ∧ Qq c.1.2.1 ∧ Qq c.1.2.2.1 ∧ True) ∧ Qq true ∧ True) tv <| .ok (.inl ((z27, z28, ()))))) (apR c x j y2)))
def alN (c : (Int × List Int × List (Int × Int × Int × Int × Int × Int × Unit) × Unit) × Unit) (x : List UInt8 × List UInt8 × Unit) : TT ((List UInt8 × List UInt8 × Unit) × Int × Unit) :=
 .join 0 (ι := (Int) × (Int) × (Int) × (Int) × (Int) × (Int) × (Int) × (Bool) × Unit) (.tt <| .tt <| .tt <| .tt <| .loop 1 (.tt <| .triv (Qq (0 : Int) ∧ Qq (0 : Int) ∧ Qq (len c.1.2.2.1) ∧ Qq c.1.2.2.1 ∧ (Qq 11 ∧ Qq true) ∧ True) tv <| .triv ((Qq (LoopState.ready : LoopState) ∧ Qq (none : Option Code) ∧ Qq 86 ∧ Qq (#[20] : Array Tmp) ∧ Qq (akT (acL Tryz.f47) [1, 0, 1, 1, 0, 1, 0, 0]) ∧ Qq (akT (acL Tryz.f47) [1, 0, 1, 1, 0, 1, 0, 1]) ∧ (Qq (128 : FuncId) ∧ True ∧ (Qq 7 ∧ Qq 0 ∧ Qq true) ∧ True) ∧ Qq ((c.1.1, c.1.2.1, c.1.2.2.1, ()) : Int × List Int × List (Int × Int × Int × Int × Int × Int × Unit) × Unit) ∧ (Qq 0 ∧ Qq 0 ∧ Qq true) ∧ (Qq 4 ∧ Qq 0 ∧ Qq true) ∧ Qq (0 : Int) ∧ (Qq 2 ∧ Qq 0 ∧ Qq true) ∧ (Qq 1 ∧ Qq 0 ∧ Qq true) ∧ (Qq 0 ∧ Qq 0 ∧ Qq true) ∧ Qq c ∧ Qq x ∧ True) ∧ Qq true ∧ (Qq (42 : TypeId) ∧ Qq c.1.1 ∧ Qq c.1.2.1 ∧ Qq c.1.2.2.1 ∧ True) ∧ Qq true ∧ (Qq (122 : TypeId) ∧ Qq (0 : Int) ∧ Qq (0 : Int) ∧ Qq (0 : Int) ∧ Qq (0 : Int) ∧ Qq (0 : Int) ∧ Qq (0 : Int) ∧ Qq (0 : Int) ∧ Qq false ∧ True) ∧ Qq true ∧ (Qq (36 : TypeId) ∧ Qq (#[].toList : List UInt8) ∧ Qq (#[].toList : List UInt8) ∧ True) ∧ Qq true ∧ (Qq (36 : TypeId) ∧ Qq x.1 ∧ Qq x.2.1 ∧ True) ∧ Qq true ∧ (Qq (96 : TypeId) ∧ Qq c.1.1 ∧ Qq c.1.2.1 ∧ Qq c.1.2.2.1 ∧ True) ∧ Qq true ∧ True) tv <| .ok ((0, 0, 0, 0, 0, 0, 0, 0, 0, false, ()))) (apT c x)) (apS c x)
def aO1 : LTab := []
def aBY (c : Int × List Int × List (Int × Int × Int × Int × Int × Int × Unit) × Unit) (x : List UInt8 × List UInt8 × Unit) : TT ((List UInt8 × List UInt8 × Unit) × Int × Unit) :=
 .call (afG ((c.1, c.2.1, c.2.2.1, ()), ())) Dd6 fun y =>
 .ite (y.1 != 0)
 (.ok (((#[].toList, #[].toList, ()), y.1, ())))
 (.call (aqG ((x.1, x.2.1, ()), ())) Dd6 fun y1 =>
 .ite (y1.1 != 0)
 (.ok (((#[].toList, #[].toList, ()), y1.1, ())))
 (.need (inb (w64 (c.1 - 1)) (↑3 : Int)) <| .ite (w64 (c.1 - 1) == (↑2 : Int))
 (.call (acW ((x.1, x.2.1, ()), ())) aeY fun y2 =>
 .call (aiA (((c.1, c.2.1, c.2.2.1, ()), ()), y2.1, ())) afI fun y3 =>
 .ok (((y3.1.1, y3.1.2.1, ()), y3.2.1, ())))
 (.ite (w64 (c.1 - 1) == (↑1 : Int))
 (.call (acW ((x.1, x.2.1, ()), ())) aeY fun y4 =>
 .call (afZ (((c.1, c.2.1, c.2.2.1, ()), ()), y4.1, ())) afI fun y5 =>
 .ok (((y5.1.1, y5.1.2.1, ()), y5.2.1, ())))
 (.ite (w64 (c.1 - 1) == (↑0 : Int))
 (.call (acW ((x.1, x.2.1, ()), ())) aeY fun y6 =>
 .call (agW (((c.1, c.2.1, c.2.2.1, ()), ()), y6.1, ())) afI fun y7 =>
 .ok (((y7.1.1, y7.1.2.1, ()), y7.2.1, ())))
 (.bad)))))
end
theorem aPi {q : Rat} (h : adE q) : shF (fx q) := by
 obtain ⟨h1, h2⟩ := h
 unfold Fit at h1 h2
 refine ⟨?_, ?_⟩
 ·show (dec q.num).length ≤ 1000000000000
  have := apO q.num
  omega
 ·show (dec (q.den : Int)).length ≤ 1000000000000
  have := apO (q.den : Int)
  omega
theorem at2 (q : Rat) : wrF q = ax4 (acG q) := by
 unfold wrF acG
 by_cases c : adE q
 ·rw [if_pos c, if_pos c]; rfl
 ·rw [if_neg c, if_neg c]; rfl
theorem ae0 {q p : Rat} (h : acG q = some p) : adE p ∧ p = q := by
 unfold acG at h
 split at h
 ·injection h with h; subst h; exact ⟨by assumption, rfl⟩
 ·cases h
theorem aqN {p q : Rat} (h1 : adE p) (h2 : adE q) : ad8 (fx p, fx q, ()) = some (ax4 (acG (p * q))) := by
 unfold ad8 aNo; dsimp only; rw [afJ h1, afJ h2, ← at2]
theorem aCc {p q : Rat} (h1 : adE p) (h2 : adE q) : adO (fx p, fx q, ()) = some (ax4 (acG (p + q))) := by
 unfold adO aNo; dsimp only; rw [afJ h1, afJ h2, ← at2]
theorem aPa {p q : Rat} (h1 : adE p) (h2 : adE q) : afW (fx p, fx q, ()) = some (ax4 (acG (p - q))) := by
 unfold afW aNo; dsimp only; rw [afJ h1, afJ h2, ← at2]
theorem aHE {p q : Rat} (h1 : adE p) (h2 : adE q) (h3 : q ≠ 0) : afF (fx p, fx q, ()) = some (ax4 (acG (p / q))) := by
 unfold afF; dsimp only; rw [afJ h1, afJ h2]; dsimp only; rw [if_neg h3, ← at2]
theorem aG7 {n : Int} (h : n ≠ 0) : mkRat n 1 ≠ 0 := by
 rw [aeA]; intro e; exact h (Rat.intCast_eq_zero_iff.1 e)
theorem anU {n a b : Int} (h : inR n a b) (h1 : -9223372036854775808 ≤ a) (h2 : b ≤ 9223372036854775807) : aa9 n := ⟨by have := h.1; omega, by have := h.2; omega⟩
theorem aF9 (p : PcT) (x : FxT) (y) (h : ajM (p, x, ()) = some y) : (awK p x).toO = some y := by
 obtain ⟨⟨p', q⟩, ⟨hq, hn⟩, hx, rfl⟩ := aaD h
 obtain ⟨rfl, hx2⟩ := Prod.mk.inj hx; obtain ⟨rfl, -⟩ := Prod.mk.inj hx2; dsimp only
 dsimp only at hq hn
 have im := anU hn.1 (by omega) (by omega)
 have ia := anU hn.2.1 (by omega) (by omega)
 have i6 : aa9 1000000 := ⟨by omega, by omega⟩
 unfold awK
 unfold aBh
 refine uC _ (ab4 im) (uC _ (aqN (adW im) hq) ?_)
 cases h1 : acG (mkRat p.1.2.1 1 * q) with
 | none => exact uT rfl rfl
 | some u =>
  have hu := (ae0 h1).1
  refine uF rfl (uC _ (ab4 ia) (uC _ (aCc hu (adW ia)) ?_))
  simp only [Option.bind_some]
  cases h2 : acG (u + mkRat p.1.2.2.1 1) with
  | none => exact uT rfl rfl
  | some v =>
   have hv := (ae0 h2).1
   exact uF rfl (uC _ (ab4 i6) (uC _ (aHE hv (adW i6) (aG7 (by omega))) rfl))
theorem aDK : adE 0 := by have := adW (n := 0) ⟨by omega, by omega⟩; rwa [aeA] at this
theorem aRW : mkRat 0 1 = (0 : Rat) := by rw [aeA]; rfl
theorem aN1 {u : Rat} (h : adE u) : adE (azH u) := by
 unfold azH; split
 ·exact aDK
 ·exact h
theorem amN {n : Int} (h : aa9 n) : adE (mkRat n 1000000) := ad3 (by omega) (abH h) (abH ⟨by omega, by omega⟩)
theorem asL (u : Rat) : u.num.sign < 0 ↔ u < 0 := by
 have e : u < 0 ↔ u.num < 0 := by rw [← Rat.not_le, ← Rat.num_nonneg]; omega
 rw [e]
 constructor
 ·intro h
  rcases Int.lt_trichotomy u.num 0 with g | g | g
  ·exact g
  ·rw [g] at h; exact absurd h (by decide)
  ·rw [Int.sign_eq_one_of_pos g] at h; omega
 ·intro h; rw [Int.sign_eq_neg_one_of_neg h]; omega
noncomputable def aQG (off : Int) (y : Rat) : Option Rat := (acG (y + mkRat off 1000000)).map ab7
theorem anL : ∀ (l : List aeX) (last : Int), ag3 last l → last ≠ 1000000 → ∃ s ∈ l, s.1 = 1000000
 | [], _, h, hn => absurd h hn
 | s :: r, last, h, _ => by
  by_cases c : s.1 = 1000000
  ·exact ⟨s, List.mem_cons_self .., c⟩
  ·obtain ⟨t, ht, e⟩ := anL r s.1 h.2 c
   exact ⟨t, List.mem_cons_of_mem _ ht, e⟩
theorem aLB : mkRat 1000000 1000000 = (1 : Rat) := by decide
theorem aGV {x : Rat} {l : List aeX} (h : ad0 l) (hx : x ≤ 1) : ae2 x l < l.length := by
 obtain ⟨s, hs, e⟩ := anL l 0 h.2.2 (by omega)
 exact List.findIdx_lt_length_of_exists ⟨s, hs, decide_eq_true (by rw [e, aLB]; exact hx)⟩
theorem al7 : ∀ (l : List aeX) (last : Int), 0 ≤ last → ag3 last l → ∀ s ∈ l, ao2 s ∧ inR s.1 0 1000000
 | [], _, _, _, s, hs => by cases hs
 | t :: r, last, h0, h, s, hs => by
  have a := h.1.2.1
  rcases List.mem_cons.1 hs with e | e
  ·subst e; exact ⟨h.1.1, by omega, h.1.2.2⟩
  ·exact al7 r t.1 (by omega) h.2 s e
theorem ar1 (c : CvT × Unit) (x : FxT) (j : Int × Int × Int × Int × Int × Int × Int × Bool × Unit) (y2 : FxT × Int × Unit) (u : Rat) (hu : adE u) (h1 : inR j.2.2.2.1 1 36) (io : aa9 j.2.2.2.2.2.1) :
  ac1 (fun i1 => (akC c x j y2 (fx u) i1).toO) (0, dec u.num, aa2 u.den, ()) = some (ax4 ((ac7 u (j.2.2.2.1 - 1).toNat u).bind (aQG j.2.2.2.2.2.1))) := by
 obtain ⟨n, hn⟩ : ∃ n : Nat, j.2.2.2.1 - 1 = (n : Int) := Int.eq_ofNat_of_zero_le (by have := h1.1; omega)
 have hn2 : n ≤ 35 := by have := h1.2; omega
 have hw : w64 (j.2.2.2.1 - 1) = (n : Int) := by rw [aaA (by omega)]; exact hn
 rw [hn, Int.toNat_natCast]
 refine aaN (fun i : Int × List UInt8 × List UInt8 × Unit => ∃ (k : Nat) (q : Rat), k ≤ n ∧ i = ((k : Int), dec q.num, aa2 q.den, ()) ∧ adE q ∧ ac7 u n u = ac7 u (n - k) q) (fun i => ((n : Int) - i.1).toNat) (fun _ => ax4 ((ac7 u n u).bind (aQG j.2.2.2.2.2.1))) ?_ _ ⟨0, u, by omega, rfl, hu, rfl⟩
 rintro i ⟨k, q, k1, rfl, hq, k2⟩
 simp only [akC, hw]
 rcases Nat.lt_or_ge k n with hk | hk
 ·obtain ⟨m, hm⟩ : ∃ m, n - k = m + 1 := ⟨n - k - 1, by omega⟩
  rw [hm, show ac7 u (m + 1) q = (acG (q * u)).bind (ac7 u m) from rfl] at k2
  cases h2 : acG (q * u) with
  | none =>
   right
   rw [h2] at k2
   rw [k2]
   exact uT sd (uC _ (aqN hq hu) (by rw [h2]; exact uT rfl rfl))
  | some w =>
   left
   rw [h2] at k2
   refine ⟨(((k + 1 : Nat) : Int), dec w.num, aa2 w.den, ()), ?_, ⟨k + 1, w, by omega, rfl, (ae0 h2).1, ?_⟩, by dsimp only; omega, (by first | exact True.intro | rfl)⟩
   ·refine uT sd (uC _ (aqN hq hu) ?_)
    rw [h2]
    refine uF rfl ?_
    rw [aaA (x := (k : Int) + 1) (by omega)]
    rfl
   ·rw [k2, show n - (k + 1) = m by omega]; rfl
 ·right
  obtain rfl : k = n := by omega
  rw [Nat.sub_self, show ac7 u 0 q = some q from rfl] at k2
  rw [k2]
  refine uF sd (uC _ (afH (d := 1000000) io (by omega) (by omega)) (uC _ (aCc hq (amN io)) ?_))
  simp only [Option.bind_some, aQG]
  cases h3 : acG (q + mkRat j.2.2.2.2.2.1 1000000) with
  | none => exact uT rfl rfl
  | some w => exact uF rfl (uC _ (agX (ae0 h3).1) rfl)
theorem arM {l : List aeX} {k : Nat} (hk : k < l.length) : l.getD k zs = l[k] := by simp [hk]
theorem aN4 {x : Rat} {l : List aeX} {k : Nat} (hk : k < l.length) (h1 : x ≤ mkRat (l.getD k zs).1 1000000) (h2 : ∀ j, j < k → ¬ x ≤ mkRat (l.getD j zs).1 1000000) : ae2 x l = k := by
 unfold ae2
 refine (List.findIdx_eq hk).2 ⟨?_, fun j hj => ?_⟩
 ·rw [arM hk] at h1
  exact decide_eq_true h1
 ·have := h2 j hj
  rw [arM (show j < l.length by omega)] at this
  exact decide_eq_false this
theorem aN3 {x : Rat} {l : List aeX} {k : Nat} (h2 : ∀ j, j < k → ¬ x ≤ mkRat (l.getD j zs).1 1000000) (hp : ae2 x l < l.length) : k ≤ ae2 x l := by
 rcases Nat.lt_or_ge (ae2 x l) k with h | h
 ·refine absurd ?_ (h2 _ h)
  have := List.findIdx_getElem (p := fun s : aeX => decide (x ≤ mkRat s.1 1000000)) (xs := l) (w := hp)
  rw [arM hp]
  exact of_decide_eq_true this
 ·exact h
theorem aAS {l : List aeX} (h : ad0 l) {k : Nat} (hk : k < l.length) : ao2 (l.getD k zs) ∧ inR (l.getD k zs).1 0 1000000 := by
 refine al7 l 0 (by omega) h.2.2 _ ?_
 rw [arM hk]
 exact List.getElem_mem hk
theorem ax0 {p : PcT} {q : Rat} (h1 : adE q) (h2 : ao2 p.1) : ajM (p, fx q, ()) = some (ax4 (aBh p.1.2.1 p.1.2.2.1 q)) := aaI (enc := fun p : PcT × Rat => (p.1, fx p.2, ())) (p, q) ⟨h1, h2⟩ (fun b hb => by
 obtain ⟨e1, e2⟩ := Prod.mk.inj hb
 obtain ⟨e2, -⟩ := Prod.mk.inj e2
 exact Prod.ext e1 (ai1 e2))
theorem aLE {m a : Int} {x u : Rat} (hl : aBh m a x = some u) : adE u := by
 unfold aBh at hl
 cases g1 : acG (mkRat m 1 * x) with
 | none => rw [g1] at hl; cases hl
 | some w =>
  rw [g1] at hl; simp only [Option.bind_some] at hl
  cases g2 : acG (w + mkRat a 1) with
  | none => rw [g2] at hl; cases hl
  | some v => rw [g2] at hl; exact (ae0 hl).1
theorem aK0 (p q : Rat) : aoK p q ≤ 0 ↔ p ≤ q := by
 have := aBa p q
 constructor
 ·intro h; exact Rat.not_lt.1 (fun g => by have := this.2 g; omega)
 ·intro h
  rcases Int.lt_or_le 0 (aoK p q) with g | g
  ·exact absurd (this.1 g) (Rat.not_lt.2 h)
  ·exact g
theorem ayP (c : CvT × Unit) (x : FxT) (y) (h : aiA (c, x, ()) = some y) : (alN c x).toO = some y := by
 obtain ⟨⟨c', q⟩, ⟨hq, hx1, hl⟩, hx, rfl⟩ := aaD h
 obtain ⟨rfl, hx2⟩ := Prod.mk.inj hx; obtain ⟨rfl, -⟩ := Prod.mk.inj hx2; dsimp only
 dsimp only at hq hx1 hl
 have hlen := hl.2.1
 have hp := aGV hl hx1
 obtain ⟨kind, tab, l, u0⟩ := c'
 dsimp only at hl hlen hp
 unfold alN
 dsimp only
 have hsg := aAS hl hp
 refine uL ((l.getD (ae2 q l) zs).1, (l.getD (ae2 q l) zs).2.1, (l.getD (ae2 q l) zs).2.2.1, (l.getD (ae2 q l) zs).2.2.2.1, (l.getD (ae2 q l) zs).2.2.2.2.1, (l.getD (ae2 q l) zs).2.2.2.2.2.1, ab8 l (ae2 q l), (ae2 q l : Int) == 0, ()) ?_ ?_
 ·refine uO (0, 0, 0, 0, 0, 0, 0, 0, 0, false, ()) rfl ?_
  refine aaN (fun i : Int × Int × Int × Int × Int × Int × Int × Int × Int × Bool × Unit => ∃ k : Nat, k ≤ l.length ∧ i.1 = (k : Int) ∧ i.2.1 = ab8 l k ∧ ∀ j, j < k → ¬ q ≤ mkRat (l.getD j zs).1 1000000) (fun i => ((l.length : Int) - i.1).toNat) (fun _ => Sum.inl ((l.getD (ae2 q l) zs).1, (l.getD (ae2 q l) zs).2.1, (l.getD (ae2 q l) zs).2.2.1, (l.getD (ae2 q l) zs).2.2.2.1, (l.getD (ae2 q l) zs).2.2.2.2.1, (l.getD (ae2 q l) zs).2.2.2.2.2.1, ab8 l (ae2 q l), (ae2 q l : Int) == 0, ())) ?_ _ ⟨0, by omega, rfl, rfl, fun j hj => by omega⟩
  rintro ⟨i, last, r⟩ ⟨k, h3, h5, h6, h4⟩
  dsimp only at h5 h6
  subst h5
  simp only [apT, aaM]
  have hk := aN3 h4 hp
  have hk' : k < l.length := by omega
  have hi := anU (aAS hl hk').2 (by omega) (by omega)
  by_cases g : q ≤ mkRat (l.getD k zs).1 1000000
  ·right
   rw [aN4 hk' g h4, ← h6]
   exact uT sd (uN sd (uC _ (afH (d := 1000000) hi (by omega) (by omega)) (uC _ (axZ hq (amN hi)) (uT (decide_eq_true ((aK0 _ _).2 g)) rfl))))
  ·left
   refine ⟨(((k + 1 : Nat) : Int), (l.getD k zs).1, (l.getD k zs).1, (l.getD k zs).2.1, (l.getD k zs).2.2.1, (l.getD k zs).2.2.2.1, (l.getD k zs).2.2.2.2.1, (l.getD k zs).2.2.2.2.2.1, last, (k : Int) == 0, ()), ?_, ⟨k + 1, by omega, rfl, ?_, fun j hj => ?_⟩, by dsimp only; omega, (by first | exact True.intro | rfl)⟩
   ·refine uT sd (uN sd (uC _ (afH (d := 1000000) hi (by omega) (by omega)) (uC _ (axZ hq (amN hi)) (uF (decide_eq_false (fun h => g ((aK0 _ _).1 h))) ?_))))
    rw [aaA (x := (k : Int) + 1) (by omega)]; rfl
   ·unfold ab8; rw [if_neg (by omega), Nat.add_sub_cancel]
   ·rcases Nat.lt_or_ge j k with g2 | g2
    ·exact h4 j g2
    ·obtain rfl : j = k := by omega
     exact g
 ·unfold atU
  generalize l.getD (ae2 q l) zs = s at hsg ⊢
  obtain ⟨hn, hr⟩ := hsg
  have io := anU hn.2.2.1 (by omega) (by omega)
  unfold apS
  dsimp only
  by_cases hd : s.2.2.2.2.1 = 1
  ·rw [if_pos hd]
   refine uF (by rw [hd]; rfl) (uC _ (ax0 hq hn) ?_)
   dsimp only
   unfold aDC
   cases hl : aBh s.2.1 s.2.2.1 q with
   | none => exact uT rfl rfl
   | some u =>
    have hu := aLE hl
    refine uF rfl ?_
    have hp := aN1 hu
    refine uL (fx (azH u)) ?_ ?_
    ·refine uC (u.num.sign, 0, ()) (by unfold aqE; dsimp only [ax4]; rw [afJ hu]) ?_
     unfold azH
     by_cases c : u < 0
     ·rw [if_pos c]
      exact uT (decide_eq_true ((asL u).2 c)) (uC _ (ab4 ⟨by omega, by omega⟩) (by rw [aRW]; rfl))
     ·rw [if_neg c]
      exact uF (decide_eq_false (fun h => c ((asL u).1 h))) rfl
    ·simp only [Option.bind_some]
     unfold apR
     exact uO (0, dec (azH u).num, aa2 (azH u).den, ()) rfl (ar1 _ _ _ _ _ hp hn.2.2.2.1 io)
  ·rw [if_neg hd]
   exact uT (by simpa using hd) rfl
theorem aAg {q : Rat} (h : adE q) : adE (ab7 q) := by
 have e1 : mkRat 1 1 = (1 : Rat) := by rw [aeA]; rfl
 unfold ab7
 split
 ·exact aDK
 ·split
  ·rw [← e1]; exact adW ⟨by omega, by omega⟩
  ·exact h
theorem aMG (q : Rat) : ab7 q ≤ 1 := by
 unfold ab7
 split
 ·decide
 ·split
  ·exact Rat.le_refl
  ·rename_i h; exact Rat.not_lt.1 h
theorem aBT (q : Rat) : 0 ≤ ab7 q := by
 unfold ab7
 split
 ·exact Rat.le_refl
 ·split
  ·decide
  ·rename_i h _; exact Rat.not_lt.1 h
theorem aF5 {p q : CvT × Rat} (hb : ((p.1, ()), fx p.2, ()) = ((q.1, ()), fx q.2, ())) : p = q := by
 obtain ⟨e1, e2⟩ := Prod.mk.inj hb
 obtain ⟨e2, -⟩ := Prod.mk.inj e2
 exact Prod.ext (Prod.mk.inj e1).1 (ai1 e2)
theorem aEs {c : CvT} {q : Rat} (h1 : adE q) (h2 : q ≤ 1) (h3 : ad0 c.2.2.1) : aiA ((c, ()), fx q, ()) = some (atU c.2.2.1 q) := aaI (enc := fun p : CvT × Rat => ((p.1, ()), fx p.2, ())) (c, q) ⟨h1, h2, h3⟩ (fun b hb => aF5 hb)
theorem aAz {c : CvT} {q : Rat} (h1 : adE q) (h0 : 0 ≤ q) (h2 : q ≤ 1) (h3 : ad9 c.2.1) : afZ ((c, ()), fx q, ()) = some (ax4 (aNm c.2.1 q)) := aaI (enc := fun p : CvT × Rat => ((p.1, ()), fx p.2, ())) (c, q) ⟨h1, h0, h2, h3⟩ (fun b hb => aF5 hb)
theorem aCd {c : CvT} {q : Rat} (h1 : adE q) : agW ((c, ()), fx q, ()) = some (fx q, 0, ()) := aaI (enc := fun p : CvT × Rat => ((p.1, ()), fx p.2, ())) (c, q) h1 (fun b hb => aF5 hb)
theorem awV (c : CvT × Unit) (x : FxT) (y) (h : agW (c, x, ()) = some y) : (apQ c x).toO = some y := by
 obtain ⟨⟨c', q⟩, hq, hx, rfl⟩ := aaD h
 obtain ⟨rfl, hx2⟩ := Prod.mk.inj hx; obtain ⟨rfl, -⟩ := Prod.mk.inj hx2; dsimp only
 rfl
theorem aJt (c : CvT) (x : FxT) (y) (h : abZ (c, x, ()) = some y) : (aBY c x).toO = some y := by
 injection h with h
 subst h
 obtain ⟨kind, tab, l, u0⟩ := c
 unfold aBY
 dsimp only
 refine uC _ (aqO (kind, tab, l, ())) ?_
 by_cases hr : acD (kind, tab, l, ())
 case neg =>
  have hr' : ¬ acD (kind, tab, l, u0) := hr
  rw [if_neg hr', if_neg hr]
  exact uT rfl rfl
 have hr' : acD (kind, tab, l, u0) := hr
 rw [if_pos hr', if_pos hr]
 refine uF rfl (uC (if (rdF x).isSome then 0 else 20, ()) rfl ?_)
 cases hx : rdF x with
 | none => exact uT rfl rfl
 | some q =>
  obtain ⟨hq, rfl⟩ := agP hx
  refine uF rfl ?_
  have hc := aAg hq
  have hl := aMG q
  have h0 := aBT q
  unfold an5
  dsimp only
  rcases hr with ⟨k1, k2, k3⟩ | ⟨k1, k2, k3⟩ | ⟨k1, k2, k3⟩
  ·dsimp only at k1; subst k1
   refine uN ⟨by decide, by decide⟩ (uF rfl (uF rfl (uT rfl (uC _ (agX hq) (uC _ (aCd hc) ?_)))))
   rfl
  ·dsimp only at k1; subst k1
   refine uN ⟨by decide, by decide⟩ (uF rfl (uT rfl (uC _ (agX hq) (uC _ (aAz (c := (2, tab, l, ())) hc h0 hl k2) ?_))))
   rfl
  ·dsimp only at k1; subst k1
   refine uN ⟨by decide, by decide⟩ (uT rfl (uC _ (agX hq) (uC _ (aEs (c := (3, tab, l, ())) hc hl k3) ?_)))
   rfl
set_option maxRecDepth 100000
open Go Go.Vg Go.Proofs
noncomputable section
def aO0 : LTab := [(120, 58, 11264, { tag := 0, ι := (Int) × (Int) × (Int) × (Int) × Unit, vs := .dat (.s 14) (Ty.int IntKind.i64) <| .dat (.s 5) (Ty.int IntKind.i64) <| .dat (.c 5 0) (Ty.int IntKind.i64) <| .dat (.c 5 1) (Ty.int IntKind.i64) <| .nil, ks := [13, 12, 4, 2], kh := [5, 0], fresh := 0 })]
def aD7 (bands : List (Int × Int × Unit)) (i : (Int) × (Int) × (Int) × (Int) × Unit) : TT (((Int) × (Int) × (Int) × (Int) × Unit) ⊕ ((Int × Int × Unit) × Int × Unit)) :=
 .ite (decide (i.1 < len (List.take (List.length bands - Int.toNat 1) (List.drop (Int.toNat 1) bands))))
 (.need (inb i.1 (len (List.take (List.length bands - Int.toNat 1) (List.drop (Int.toNat 1) bands)))) <| .call (aqH ((i.2.2.1, i.2.2.2.1, ()), ((gi (List.take (List.length bands - Int.toNat 1) (List.drop (Int.toNat 1) bands)) i.1 (0, 0, ())).1, (gi (List.take (List.length bands - Int.toNat 1) (List.drop (Int.toNat 1) bands)) i.1 (0, 0, ())).2.1, ()), ())) atZ fun y =>
 .ite (y.2.1 != 0)
 (.ok (.inr (((0, 0, ()), y.2.1, ()))))
 (.tt <| .lt (w64 (i.1 + 1) : Int) fun z2 => .lt (y.2.1 : Int) fun z3 => .lt (y.1.1 : Int) fun z4 => .lt (y.1.2.1 : Int) fun z5 => .triv (Qq z3 ∧ Qq z2 ∧ Qq (len (List.take (List.length bands - Int.toNat 1) (List.drop (Int.toNat 1) bands)) : Int) ∧ Qq (List.take (List.length bands - Int.toNat 1) (List.drop (Int.toNat 1) bands)) ∧ (Qq 5 ∧ Qq 0 ∧ Qq true) ∧ (Qq 0 ∧ Qq 0 ∧ Qq true) ∧ True) tv <| .triv ((Qq (53 : TypeId) ∧ Qq z4 ∧ Qq z5 ∧ True) ∧ Qq true ∧ (Qq (53 : TypeId) ∧ Qq (0 : Int) ∧ Qq (0 : Int) ∧ True) ∧ Qq true ∧ True) tv <| .ok (.inl ((z2, z3, z4, z5, ())))))
 (.ok (.inr (((i.2.2.1, i.2.2.2.1, ()), 0, ()))))
def aBW (bands : List (Int × Int × Unit)) : TT ((Int × Int × Unit) × Int × Unit) :=
 .need (asT Int 0 ≤ 0 ∧ 0 < len bands) <| .need (asT Int 0 ≤ 1 ∧ 1 ≤ len bands) <| .loop 0 (.tt <| .lt ((gi bands 0 (0, 0, ())).1 : Int) fun z => .lt ((gi bands 0 (0, 0, ())).2.1 : Int) fun z1 => .triv (Qq (0 : Int) ∧ Qq (0 : Int) ∧ Qq (len (List.take (List.length bands - Int.toNat 1) (List.drop (Int.toNat 1) bands)) : Int) ∧ Qq (List.take (List.length bands - Int.toNat 1) (List.drop (Int.toNat 1) bands)) ∧ (Qq 5 ∧ Qq 0 ∧ Qq true) ∧ (Qq 0 ∧ Qq 0 ∧ Qq true) ∧ True) tv <| .triv ((Qq (53 : TypeId) ∧ Qq z ∧ Qq z1 ∧ True) ∧ Qq true ∧ (Qq (53 : TypeId) ∧ Qq (0 : Int) ∧ Qq (0 : Int) ∧ True) ∧ Qq true ∧ True) tv <| .ok ((0, 0, z, z1, ()))) (aD7 bands)
def aJs : LTab := [(118, 58, 9216, { tag := 0, ι := (Int) × (List (Int × Int × Unit)) × Unit, vs := .dat (.s 14) (Ty.int IntKind.i64) <| .row 4 (Ty.pair (Ty.int IntKind.i64) (Ty.pair (Ty.int IntKind.i64) Ty.unit)) <| .nil, ks := [13, 12, 4, 2], kh := [4, 0], fresh := 0 })]
def awZ (values : List (List UInt8 × List UInt8 × Unit)) (i : (Int) × (List (Int × Int × Unit)) × Unit) : TT (((Int) × (List (Int × Int × Unit)) × Unit) ⊕ ((Int × Int × Unit) × Int × Unit)) :=
 .ite (decide (i.1 < len values))
 (.need (inb i.1 (len values)) <| .call (af2 (((gi values i.1 ([], [], ())).1, (gi values i.1 ([], [], ())).2.1, ()), ())) atZ fun y =>
 .ite (y.2.1 != 0)
 (.ok (.inr (((0, 0, ()), y.2.1, ()))))
 (.need (inb i.1 (↑(Int.toNat (len values)) : Int)) <| .tt <| .lt (w64 (i.1 + 1) : Int) fun z1 => .lt (List.set i.2.1 (0 + Int.toNat i.1) (y.1.1, y.1.2.1, ()) : List (Int × Int × Unit)) fun z2 => .triv (Qq z1 ∧ Qq (len values) ∧ Qq values ∧ (Qq 4 ∧ Qq 0 ∧ Qq (Int.toNat (len values)) ∧ Qq true) ∧ (Qq 0 ∧ Qq 0 ∧ Qq true) ∧ True) tv <| .triv ((Qq (53 : TypeId) ∧ Qq z2) ∧ Qq true ∧ (Qq (53 : TypeId) ∧ Qq (0 : Int) ∧ Qq (0 : Int) ∧ True) ∧ Qq true ∧ True) tv <| .ok (.inl ((z1, z2, ())))))
 (.call (aiB (List.take (Int.toNat (len values)) i.2.1, ())) atZ fun y1 =>
 .ok (.inr (((y1.1.1, y1.1.2.1, ()), y1.2.1, ()))))
def ar4 (values : List (List UInt8 × List UInt8 × Unit)) : TT ((Int × Int × Unit) × Int × Unit) :=
 .need (0 ≤ len values ∧ len values ≤ len values ∧ len values * (↑16 : Int) ≤ 140737488355328) <| .loop 0 (.tt <| .lt (List.replicate (Int.toNat (len values)) (0, 0, ()) : List (Int × Int × Unit)) fun z => .triv (Qq (0 : Int) ∧ Qq (len values) ∧ Qq values ∧ (Qq 4 ∧ Qq 0 ∧ Qq (Int.toNat (len values)) ∧ Qq true) ∧ (Qq 0 ∧ Qq 0 ∧ Qq true) ∧ True) tv <| .triv ((Qq (53 : TypeId) ∧ Qq z) ∧ Qq true ∧ (Qq (53 : TypeId) ∧ Qq (0 : Int) ∧ Qq (0 : Int) ∧ True) ∧ Qq true ∧ True) tv <| .ok ((0, z, ()))) (awZ values)
def aF7 : LTab := []
def an8 (p : (Int × Int × Int × Int × Int × Int × Unit) × Int × Bool × Unit) (lo : Int) (hi : Int) : TT ((Int × Int × Unit) × Int × Unit) :=
 .call (abY (lo, 1000000000000, ())) aeY fun y =>
 .call (ajM (((p.1.1, p.1.2.1, p.1.2.2.1, p.1.2.2.2.1, p.1.2.2.2.2.1, p.1.2.2.2.2.2.1, ()), p.2.1, p.2.2.1, ()), y.1, ())) afI fun y1 =>
 .ite (y1.2.1 != 0)
 (.ok (((0, 0, ()), y1.2.1, ())))
 (.call (abY (hi, 1000000000000, ())) aeY fun y2 =>
 .call (ajM (((p.1.1, p.1.2.1, p.1.2.2.1, p.1.2.2.2.1, p.1.2.2.2.2.1, p.1.2.2.2.2.2.1, ()), p.2.1, p.2.2.1, ()), y2.1, ())) afI fun y3 =>
 .ite (y3.2.1 != 0)
 (.ok (((0, 0, ()), y3.2.1, ())))
 (.call (aeV (List.take 2 [(y1.1.1, y1.1.2.1, ()), (y3.1.1, y3.1.2.1, ())], ())) atZ fun y4 =>
 .ite (y4.2.1 != 0)
 (.ok (((0, 0, ()), y4.2.1, ())))
 (.call (axL ((if 0 > y4.1.1 then 0 else y4.1.1, if 0 > y4.1.2.1 then 0 else y4.1.2.1, ()), p.1.2.2.2.1, p.1.2.2.2.2.1, ())) atZ fun y5 =>
 .ite (y5.2.1 != 0)
 (.ok (((0, 0, ()), y5.2.1, ())))
 (.call (abY (p.1.2.2.2.2.2.1, 1000000, ())) aeY fun y6 =>
 .call (af2 (y6.1, ())) atZ fun y7 =>
 .ite (y7.2.1 != 0)
 (.ok (((0, 0, ()), y7.2.1, ())))
 (.call (aGu ((y5.1.1, y5.1.2.1, ()), (y7.1.1, y7.1.2.1, ()), ())) atZ fun y8 =>
 .ite (y8.2.1 != 0)
 (.ok (((0, 0, ()), y8.2.1, ())))
 (.call (ajN ((y8.1.1, y8.1.2.1, ()), 0, 1000000000000, ())) atZ fun y9 =>
 .ok (((y9.1.1, y9.1.2.1, ()), y9.2.1, ()))))))))
def ar0 : LTab := []
def ai4 (c : (Int × List Int × List (Int × Int × Int × Int × Int × Int × Unit) × Unit) × Unit) (x : Int × Int × Unit) : TT ((Int × Int × Unit) × Int × Unit) :=
 .ok (((x.1, x.2.1, ()), 0, ()))
end
theorem ajQ {l : List Int} (h : ad9 l) {k : Nat} (hk : k < l.length) : inR (l.getD k 0) 0 65535 := by
 refine h.2.2 _ ?_
 have : l.getD k 0 = l[k] := by simp [hk]
 rw [this]
 exact List.getElem_mem hk
theorem aN9 {a b : BdT} (h1 : okB a.1 a.2.1) (h2 : okB b.1 b.2.1) : okB (arL a b).1 (arL a b).2.1 := by
 obtain ⟨a1, a2, u⟩ := a
 obtain ⟨b1, b2, w⟩ := b
 unfold okB arL at *
 dsimp only at *
 omega
theorem aOD {a b : BdT} (h1 : okB a.1 a.2.1) (h2 : okB b.1 b.2.1) : aQd a b = (arL a b, 0, ()) := by
 unfold aQd; rw [if_pos ⟨h1, h2⟩]; rfl
theorem aNk {a b : BdT} (h1 : okB a.1 a.2.1) (h2 : okB b.1 b.2.1) : aqH (a, b, ()) = some (arL a b, 0, ()) := by
 unfold aqH; dsimp only; rw [aOD h1 h2]
theorem aJr (l : List BdT) (y) (h : aiB (l, ()) = some y) : (aBW l).toO = some y := by
 unfold aiB at h
 split at h
 case isFalse => cases h
 case isTrue hp =>
 injection h with h
 subst h
 obtain ⟨hn, hl, ho⟩ := hp
 dsimp only at hn hl ho ⊢
 cases l with
 | nil => exact absurd rfl hn
 | cons b r =>
  have hr : r.length ≤ 1000000 := by simp only [List.length_cons] at hl; omega
  unfold aBW
  refine uN ⟨by decide, by simp only [aaC, List.length_cons]; omega⟩ (uN ⟨by decide, by simp only [aaC, List.length_cons]; omega⟩ ?_)
  refine uO (0, 0, b.1, b.2.1, ()) rfl ?_
  have hb := ho b (List.mem_cons_self ..)
  have htail : List.take ((b :: r).length - Int.toNat 1) (List.drop (Int.toNat 1) (b :: r)) = r := by
   show List.take ((b :: r).length - 1) r = r
   simp
  refine aaN (fun i : Int × Int × Int × Int × Unit => ∃ (k : Nat) (w : BdT), k ≤ r.length ∧ i = ((k : Int), 0, w.1, w.2.1, ()) ∧ okB w.1 w.2.1 ∧ ayI (b :: r) = (r.drop k).foldl arL w) (fun i => ((r.length : Int) - i.1).toNat) (fun _ => (ayI (b :: r), 0, ())) ?_ _ ⟨0, b, by omega, rfl, hb, rfl⟩
  rintro i ⟨k, w, k1, rfl, hw, k2⟩
  simp only [aD7, htail, aaM]
  rcases Nat.lt_or_ge k r.length with hk | hk
  ·have e : r.getD k (0, 0, ()) = r[k] := by simp [hk]
   have ho2 := ho r[k] (List.mem_cons_of_mem _ (List.getElem_mem hk))
   left
   refine ⟨(((k + 1 : Nat) : Int), 0, (arL w r[k]).1, (arL w r[k]).2.1, ()), ?_, ⟨k + 1, arL w r[k], by omega, rfl, aN9 hw ho2, ?_⟩, by dsimp only; omega, (by first | exact True.intro | rfl)⟩
   ·refine uT sd (uN sd (uC (arL w r[k], 0, ()) (by rw [e]; exact aNk hw ho2) (uF rfl ?_)))
    rw [aaA (x := (k : Int) + 1) (by omega)]
    rfl
   ·rw [k2, List.drop_eq_getElem_cons hk]; rfl
  ·right
   obtain rfl : k = r.length := by omega
   rw [List.drop_length] at k2
   refine uF sd ?_
   rw [aaK, k2]; rfl
theorem aNI {q : Rat} (h : (agB q q).2.1 = 0) : okB (agB q q).1.1 (agB q q).1.2.1 := by
 unfold agB mkB at *
 split at h
 ·rename_i c; rw [if_pos c]; exact c
 ·exact absurd h (by decide)
theorem ax1 {q : Rat} (h : adE q) : af2 (fx q, ()) = some (agB q q) := by
 unfold af2; dsimp only; rw [afJ h]
theorem aD8 (l : List FxT) (y) (h : aeV (l, ()) = some y) : (ar4 l).toO = some y := by
 obtain ⟨r, ⟨hn, hl, ho⟩, hx, rfl⟩ := aaD h
 obtain ⟨rfl, -⟩ := Prod.mk.inj hx
 have hlen : len (r.map (fun q => fx q)) = (r.length : Int) := by rw [aaC, List.length_map]
 unfold ar4
 simp only [hlen, Int.toNat_natCast]
 refine uN ⟨by omega, by omega, by omega⟩ (uO (0, List.replicate r.length (0, 0, ()), ()) rfl ?_)
 refine aaN (fun i : Int × List BdT × Unit => ∃ k : Nat, k ≤ r.length ∧ i.1 = (k : Int) ∧ i.2.1.length = r.length ∧ i.2.1.take k = (r.take k).map (fun q => (agB q q).1)) (fun i => ((r.length : Int) - i.1).toNat) (fun _ => (ayI (r.map fun q => (agB q q).1), 0, ())) ?_ _ ⟨0, by omega, rfl, by simp, by simp⟩
 rintro ⟨i, bs, u⟩ ⟨k, k1, k2, k3, k4⟩
 dsimp only at k2 k3 k4
 subst k2
 simp only [awZ, hlen, aaM, Int.toNat_natCast]
 rcases Nat.lt_or_ge k r.length with hk | hk
 ·have e : (r.map (fun q => fx q)).getD k ([], [], ()) = fx r[k] := by simp [hk]
  obtain ⟨f1, f2⟩ := ho r[k] (List.getElem_mem hk)
  left
  refine ⟨(((k + 1 : Nat) : Int), bs.set k (agB r[k] r[k]).1, ()), ?_, ⟨k + 1, by omega, rfl, by simp [k3], ?_⟩, by dsimp only; omega, (by first | exact True.intro | rfl)⟩
  ·refine uT sd (uN ⟨by omega, by omega⟩ (uC (agB r[k] r[k]) (by rw [e]; exact ax1 f1) (uF (by rw [f2]; rfl) (uN ⟨by omega, by omega⟩ ?_))))
   rw [aaA (x := (k : Int) + 1) (by omega), Nat.zero_add]
   rfl
  ·rw [List.take_succ_eq_append_getElem hk, List.map_append, ← k4]
   rw [List.take_succ_eq_append_getElem (by rw [List.length_set]; omega), List.take_set_of_le (Nat.le_refl k)]
   simp
 ·right
  obtain rfl : k = r.length := by omega
  rw [List.take_length] at k4
  refine uF sd (uC (ayI (r.map fun q => (agB q q).1), 0, ()) ?_ rfl)
  rw [k4]
  unfold aiB
  refine if_pos ⟨by simpa using hn, by simpa using hl, fun b hb => ?_⟩
  obtain ⟨q, hq, rfl⟩ := List.mem_map.1 hb
  exact aNI (ho q hq).2
theorem afK {z : Int} (h1 : -1000000000000000000000000 ≤ z) (h2 : z ≤ 1000000000000000000000000) : Fit z := by
 unfold Fit
 refine Nat.le_trans ((abD (k := 30) (by omega)).2 ?_) (by omega)
 omega
theorem at9 {m a n : Int} (hm : inR m (-100000000) 100000000) (ha : inR a (-100000000) 100000000) (hn : inU n) : -200000000000000000000 ≤ aeM m a n ∧ aeM m a n ≤ 200000000000000000000 := by
 obtain ⟨m1, m2⟩ := hm
 obtain ⟨a1, a2⟩ := ha
 obtain ⟨n1, n2⟩ := hn
 unfold aeM
 have c1 : (m + 100000000) * n ≥ 0 := Int.mul_nonneg (by omega) n1
 have c2 : (100000000 - m) * n ≥ 0 := Int.mul_nonneg (by omega) n1
 rw [Int.add_mul] at c1
 rw [Int.sub_mul] at c2
 constructor <;> omega
theorem aG0 : akU = mkRat 1000000000000 1 := by rw [aeA]; rfl
theorem aAI (N : Int) {d : Nat} (hd : d ≠ 0) : agB (mkRat N d) (mkRat N d) = mkB 6 (N * 1000000000000 / d) (-(-(N * 1000000000000) / d)) := by
 unfold agB
 rw [aG0, Rat.mkRat_mul_mkRat, Nat.mul_one, Rat.neg_mkRat, apG _ hd, apG _ hd]
theorem ag9 {m a n : Int} (hm : inR m (-100000000) 100000000) (ha : inR a (-100000000) 100000000) (hn : inU n) :
  aBh m a (mkRat n 1000000000000) = some (mkRat (aeM m a n) 1000000000000000000) ∧ adE (mkRat (aeM m a n) 1000000000000000000) := by
 obtain ⟨b1, b2⟩ := at9 hm ha hn
 have c := at9 hm (a := 0) ⟨by omega, by omega⟩ hn
 obtain ⟨c1, c2⟩ := c
 have e : aeM m 0 n = m * n := by unfold aeM; omega
 rw [e] at c1 c2
 have f1 : adE (mkRat (m * n) 1000000000000) := ad3 (by omega) (afK (by omega) (by omega)) (afK (by omega) (by omega))
 have f2 : adE (mkRat (aeM m a n) 1000000000000) := ad3 (by omega) (afK (by omega) (by omega)) (afK (by omega) (by omega))
 have f3 : adE (mkRat (aeM m a n) 1000000000000000000) := ad3 (by omega) (afK (by omega) (by omega)) (afK (by omega) (by omega))
 refine ⟨?_, f3⟩
 unfold aBh
 rw [Rat.mkRat_mul_mkRat, Nat.one_mul]
 unfold acG
 rw [if_pos f1]
 simp only [Option.bind_some]
 have g2 : mkRat (m * n) 1000000000000 + mkRat a 1 = mkRat (aeM m a n) 1000000000000 := by
  rw [Rat.mkRat_add_mkRat _ _ (by omega) (by omega)]
  unfold aeM
  rw [Nat.mul_one]; simp
 rw [g2, if_pos f2]
 simp only [Option.bind_some]
 have g3 : mkRat (aeM m a n) 1000000000000 / mkRat 1000000 1 = mkRat (aeM m a n) 1000000000000000000 := by
  have hm : mkRat (aeM m a n) 1000000000000 = mkRat (aeM m a n) 1000000000000000000 * mkRat 1000000 1 := by
   rw [Rat.mkRat_mul_mkRat, Rat.mkRat_eq_iff (by omega) (by omega)]; omega
  rw [hm, Rat.div_def, Rat.mul_assoc, Rat.mul_inv_cancel _ (aG7 (by omega)), Rat.mul_one]
 rw [g3, if_pos f3]
theorem ay2 {N : Int} (h1 : -200000000000000000000 ≤ N) (h2 : N ≤ 200000000000000000000) : agB (mkRat N 1000000000000000000) (mkRat N 1000000000000000000) = ((N / 1000000, -(-N / 1000000), ()), 0, ()) := by
 rw [aAI _ (by omega)]
 have e1 : N * 1000000000000 / ((1000000000000000000 : Nat) : Int) = N / 1000000 := by omega
 have e2 : -(N * 1000000000000) / ((1000000000000000000 : Nat) : Int) = -N / 1000000 := by omega
 rw [e1, e2]
 unfold mkB
 rw [if_pos ⟨by omega, by omega, by omega⟩]
theorem aKf {n : Int} (h : inR n (-100000000) 100000000) : agB (mkRat n 1000000) (mkRat n 1000000) = ((n * 1000000, n * 1000000, ()), 0, ()) := by
 obtain ⟨h1, h2⟩ := h
 rw [aAI _ (by omega)]
 have e1 : n * 1000000000000 / ((1000000 : Nat) : Int) = n * 1000000 := by omega
 have e2 : -(-(n * 1000000000000) / ((1000000 : Nat) : Int)) = n * 1000000 := by omega
 rw [e1, e2]
 unfold mkB
 rw [if_pos ⟨by omega, by omega, by omega⟩]
theorem avU {n : Int} (h : inU n) : aa9 n := ⟨by have := h.1; omega, by have := h.2; omega⟩
theorem apH {n : Int} (h : inU n) : adE (mkRat n 1000000000000) := ad3 (by omega) (abH (avU h)) (abH ⟨by omega, by omega⟩)
theorem aHc (a : Int) : (if 0 > a then 0 else a) = max a 0 := by split <;> omega
theorem aHt {a b : BdT} (h : (aM6 a b).2.1 = 0) : okB (aM6 a b).1.1 (aM6 a b).1.2.1 := by
 unfold aM6 mkB at *
 split
 ·rename_i c
  rw [if_pos c] at h
  split
  ·assumption
  ·rename_i d; rw [if_neg d] at h; exact absurd h (by decide)
 ·rename_i c; rw [if_neg c] at h; exact absurd h (by decide)
theorem awO {b : BdT} (h : okB b.1 b.2.1) : aAh b 0 1000000000000 = (aqS b, 0, ()) := by
 unfold aAh
 rw [if_pos h, if_pos ⟨by omega, by omega, by omega⟩]; rfl
theorem aBN (p : PcT) (lo hi : Int) (y) (h : adP (p, lo, hi, ()) = some y) : (an8 p lo hi).toO = some y := by
 unfold adP at h
 split at h
 case isFalse => cases h
 case isTrue hp =>
 obtain ⟨hn, hlo, hhi⟩ := hp
 dsimp only at hn hlo hhi h
 injection h with h
 subst h
 obtain ⟨l1, f1⟩ := ag9 hn.1 hn.2.1 hlo
 obtain ⟨l2, f2⟩ := ag9 hn.1 hn.2.1 hhi
 obtain ⟨b1, b2⟩ := at9 hn.1 hn.2.1 hlo
 obtain ⟨b3, b4⟩ := at9 hn.1 hn.2.1 hhi
 have io := anU hn.2.2.1 (by omega) (by omega)
 unfold an8
 refine uC _ (afH (d := 1000000000000) (avU hlo) (by omega) (by omega)) ?_
 refine uC _ (ax0 (p := p) (apH hlo) hn) ?_
 rw [l1]
 refine uF rfl ?_
 refine uC _ (afH (d := 1000000000000) (avU hhi) (by omega) (by omega)) ?_
 refine uC _ (ax0 (p := p) (apH hhi) hn) ?_
 rw [l2]
 refine uF rfl ?_
 have t1 := ay2 b1 b2
 have t2 := ay2 b3 b4
 have ha : aeV ([fx (mkRat (aeM p.1.2.1 p.1.2.2.1 lo) 1000000000000000000), fx (mkRat (aeM p.1.2.1 p.1.2.2.1 hi) 1000000000000000000)], ()) = some (arL (agB (mkRat (aeM p.1.2.1 p.1.2.2.1 lo) 1000000000000000000) (mkRat (aeM p.1.2.1 p.1.2.2.1 lo) 1000000000000000000)).1 (agB (mkRat (aeM p.1.2.1 p.1.2.2.1 hi) 1000000000000000000) (mkRat (aeM p.1.2.1 p.1.2.2.1 hi) 1000000000000000000)).1, 0, ()) := by
  refine aaI (enc := fun l : List Rat => (l.map (fun q => fx q), ())) [mkRat (aeM p.1.2.1 p.1.2.2.1 lo) 1000000000000000000, mkRat (aeM p.1.2.1 p.1.2.2.1 hi) 1000000000000000000] ⟨by simp, by simp, fun q hq => ?_⟩ (fun b hb => ?_)
  ·rcases List.mem_cons.1 hq with e | e
   ·subst e; exact ⟨f1, by rw [t1]⟩
   ·rw [List.mem_singleton.1 e]; exact ⟨f2, by rw [t2]⟩
  ·have := (Prod.mk.inj hb).1
   exact List.map_inj_right (fun a b hab => ai1 hab) |>.1 this
 refine uC _ ha (uF rfl ?_)
 rw [t1, t2]
 simp only [arL]
 refine uC (aJW (ayB p.1 lo hi) p.1.2.2.2.1 p.1.2.2.2.2.1) (by unfold ayB; rw [← aHc, ← aHc]; rfl) ?_
 unfold ayC
 generalize aJW (ayB p.1 lo hi) p.1.2.2.2.1 p.1.2.2.2.2.1 = w
 by_cases c1 : w.2.1 = 0
 case neg => rw [if_pos c1]; exact uT (by simpa using c1) rfl
 rw [if_neg (fun h => h c1)]
 refine uF (by simpa using c1) (uC _ (afH (d := 1000000) io (by omega) (by omega)) (uC _ (ax1 (amN io)) ?_))
 rw [aKf hn.2.2.1]
 refine uF rfl (uC (aM6 w.1 (p.1.2.2.2.2.2.1 * 1000000, p.1.2.2.2.2.2.1 * 1000000, ())) rfl ?_)
 have hok := @aHt w.1 (p.1.2.2.2.2.2.1 * 1000000, p.1.2.2.2.2.2.1 * 1000000, ())
 generalize aM6 w.1 (p.1.2.2.2.2.2.1 * 1000000, p.1.2.2.2.2.2.1 * 1000000, ()) = z at hok
 by_cases c2 : z.2.1 = 0
 case neg => rw [if_pos c2]; exact uT (by simpa using c2) rfl
 rw [if_neg (fun h => h c2)]
 refine uF (by simpa using c2) (uC (aAh z.1 0 1000000000000) rfl ?_)
 rw [awO (hok c2)]; rfl
set_option maxRecDepth 100000
open Go Go.Vg Go.Proofs
noncomputable section
def atX : LTab := [(128, 14, 17409, { tag := 0, ι := (Int) × (Int) × Bool × (List (Int × Int × Unit)) × Unit, vs := .dat (.s 9) (Ty.int IntKind.i64) <| .dat (.s 3) (Ty.int IntKind.i64) <| .appN (.c 4 0) 17 53 (Ty.pair (Ty.int IntKind.i64) (Ty.pair (Ty.int IntKind.i64) Ty.unit)) <| .nil, ks := [8, 7, 0], kh := [11, 7, 4, 3, 2, 1, 0], fresh := 1 })]
def ad7 (x : Int × Int × Unit) (c : (Int × List Int × List (Int × Int × Int × Int × Int × Int × Unit) × Unit) × Unit) (i : (Int) × (Int) × Bool × (List (Int × Int × Unit)) × Unit) : TT (((Int) × (Int) × Bool × (List (Int × Int × Unit)) × Unit) ⊕ ((Int × Int × Unit) × Int × Unit)) :=
 .ite (decide (x.1 > w64 ((gi c.1.2.2.1 i.1 (0, 0, 0, 0, 0, 0, ())).1 * 1000000)))
 (.tt <| .lt (w64 (i.1 + 1) : Int) fun z15 => .lt ((gi c.1.2.2.1 i.1 (0, 0, 0, 0, 0, 0, ())).1 : Int) fun z16 => .lt (i.2.2.2.1 : List (Int × Int × Unit)) fun z17 => .triv (Qq z16 ∧ Qq z15 ∧ Qq (len c.1.2.2.1) ∧ Qq c.1.2.2.1 ∧ (Qq 11 ∧ Qq true) ∧ True) tv <| .triv ((Qq (53 : TypeId) ∧ Qq z17) ∧ Qq true ∧ (Qq (LoopState.ready : LoopState) ∧ Qq (none : Option Code) ∧ Qq 64 ∧ Qq (#[13] : Array Tmp) ∧ Qq (akT (acL Tryz.f58) [1, 1, 0, 1, 0, 0]) ∧ Qq (akT (acL Tryz.f58) [1, 1, 0, 1, 0, 1]) ∧ (Qq (128 : FuncId) ∧ True ∧ (Qq 7 ∧ Qq 0 ∧ Qq true) ∧ True) ∧ Qq ((c.1.1, c.1.2.1, c.1.2.2.1, ()) : Int × List Int × List (Int × Int × Int × Int × Int × Int × Unit) × Unit) ∧ (Qq 0 ∧ Qq 0 ∧ Qq true) ∧ (Qq 4 ∧ Qq 0 ∧ Qq true) ∧ (Qq 3 ∧ Qq 0 ∧ Qq true) ∧ (Qq 2 ∧ Qq 0 ∧ Qq true) ∧ (Qq 1 ∧ Qq 0 ∧ Qq true) ∧ (Qq 0 ∧ Qq 0 ∧ Qq true) ∧ Qq c ∧ Qq x ∧ True) ∧ Qq true ∧ (Qq (42 : TypeId) ∧ Qq c.1.1 ∧ Qq c.1.2.1 ∧ Qq c.1.2.2.1 ∧ True) ∧ Qq true ∧ (Qq (169 : TypeId) ∧ (Qq 17 ∧ Qq 0 ∧ Qq (List.length z17) ∧ Qq true) ∧ True) ∧ Qq true ∧ (Qq (48 : TypeId) ∧ Qq (0 : Int) ∧ True) ∧ Qq true ∧ (Qq (53 : TypeId) ∧ Qq (0 : Int) ∧ Qq (0 : Int) ∧ True) ∧ Qq true ∧ (Qq (53 : TypeId) ∧ Qq x.1 ∧ Qq x.2.1 ∧ True) ∧ Qq true ∧ (Qq (96 : TypeId) ∧ Qq c.1.1 ∧ Qq c.1.2.1 ∧ Qq c.1.2.2.1 ∧ True) ∧ Qq true ∧ True) tv <| .ok (.inl ((z15, z16, false, z17, ()))))
 (.call (adP ((((gi c.1.2.2.1 i.1 (0, 0, 0, 0, 0, 0, ())).1, (gi c.1.2.2.1 i.1 (0, 0, 0, 0, 0, 0, ())).2.1, (gi c.1.2.2.1 i.1 (0, 0, 0, 0, 0, 0, ())).2.2.1, (gi c.1.2.2.1 i.1 (0, 0, 0, 0, 0, 0, ())).2.2.2.1, (gi c.1.2.2.1 i.1 (0, 0, 0, 0, 0, 0, ())).2.2.2.2.1, (gi c.1.2.2.1 i.1 (0, 0, 0, 0, 0, 0, ())).2.2.2.2.2.1, ()), i.2.1, i.1 == 0, ()), if w64 (i.2.1 * 1000000) > x.1 then w64 (i.2.1 * 1000000) else x.1, if w64 ((gi c.1.2.2.1 i.1 (0, 0, 0, 0, 0, 0, ())).1 * 1000000) < x.2.1 then w64 ((gi c.1.2.2.1 i.1 (0, 0, 0, 0, 0, 0, ())).1 * 1000000) else x.2.1, ())) atZ fun y3 =>
 .ite (y3.2.1 != 0)
 (.ok (.inr (((0, 0, ()), y3.2.1, ()))))
 (.need ((List.length i.2.2.2.1 + 1) * 16 ≤ 140737488355328) <| .tt <| .lt (w64 (i.1 + 1) : Int) fun z18 => .lt ((gi c.1.2.2.1 i.1 (0, 0, 0, 0, 0, 0, ())).1 : Int) fun z19 => .lt (List.take (List.length i.2.2.2.1) i.2.2.2.1 ++ [(y3.1.1, y3.1.2.1, ())] : List (Int × Int × Unit)) fun z20 => .triv (Qq z19 ∧ Qq z18 ∧ Qq (len c.1.2.2.1) ∧ Qq c.1.2.2.1 ∧ (Qq 11 ∧ Qq true) ∧ True) tv <| .need ((((53 : TypeId) = 53) ∧ ((z20 : List (Int × Int × Unit)) = z20)) ∧ (true = true) ∧ (((LoopState.ready : LoopState) = LoopState.ready) ∧ (((none : Option Code) = none) ∧ (((64) = (64)) ∧ (((#[13] : Array Tmp) = #[13]) ∧ (((akT (acL Tryz.f58) [1, 1, 0, 1, 0, 0]) = (akT (acL Tryz.f58) [1, 1, 0, 1, 0, 0])) ∧ (((akT (acL Tryz.f58) [1, 1, 0, 1, 0, 1]) = (akT (acL Tryz.f58) [1, 1, 0, 1, 0, 1])) ∧ ((((128 : FuncId) = 128) ∧ (True ∧ ((((7) = (7)) ∧ (((0) = (0)) ∧ ((true) = (true)))) ∧ True))) ∧ ((((c.1.1, c.1.2.1, c.1.2.2.1, ()) : Int × List Int × List (Int × Int × Int × Int × Int × Int × Unit) × Unit) = (c.1.1, c.1.2.1, c.1.2.2.1, ())) ∧ ((((0) = (0)) ∧ (((0) = (0)) ∧ ((true) = (true)))) ∧ ((((4) = (4)) ∧ (((0) = (0)) ∧ ((true) = (true)))) ∧ ((((3) = (3)) ∧ (((0) = (0)) ∧ ((true) = (true)))) ∧ ((((2) = (2)) ∧ (((0) = (0)) ∧ ((true) = (true)))) ∧ ((((1) = (1)) ∧ (((0) = (0)) ∧ ((true) = (true)))) ∧ ((((0) = (0)) ∧ (((0) = (0)) ∧ ((true) = (true)))) ∧ (((c) = (c)) ∧ (((x) = (x)) ∧ True)))))))))))))))) ∧ (true = true) ∧ (((42 : TypeId) = 42) ∧ (((c.1.1 : Int) = c.1.1) ∧ (((c.1.2.1 : List Int) = c.1.2.1) ∧ (((c.1.2.2.1 : List (Int × Int × Int × Int × Int × Int × Unit)) = c.1.2.2.1) ∧ True)))) ∧ (true = true) ∧ (((169 : TypeId) = 169) ∧ ((((17) = (17)) ∧ (((0) = (0)) ∧ ((List.length i.2.2.2.1 + 1 = List.length z20) ∧ ((true) = (true))))) ∧ True)) ∧ (true = true) ∧ (((48 : TypeId) = 48) ∧ (((0 : Int) = 0) ∧ True)) ∧ (true = true) ∧ (((53 : TypeId) = 53) ∧ (((0 : Int) = 0) ∧ (((0 : Int) = 0) ∧ True))) ∧ (true = true) ∧ (((53 : TypeId) = 53) ∧ (((x.1 : Int) = x.1) ∧ (((x.2.1 : Int) = x.2.1) ∧ True))) ∧ (true = true) ∧ (((96 : TypeId) = 96) ∧ (((c.1.1 : Int) = c.1.1) ∧ (((c.1.2.1 : List Int) = c.1.2.1) ∧ (((c.1.2.2.1 : List (Int × Int × Int × Int × Int × Int × Unit)) = c.1.2.2.1) ∧ True)))) ∧ (true = true) ∧ True) <| .ok (.inl ((z18, z19, false, z20, ())))))
def ad6 (x : Int × Int × Unit) (c : (Int × List Int × List (Int × Int × Int × Int × Int × Int × Unit) × Unit) × Unit) (i : (Int) × (Int) × Bool × (List (Int × Int × Unit)) × Unit) : TT (((Int) × (Int) × Bool × (List (Int × Int × Unit)) × Unit) ⊕ ((Int × Int × Unit) × Int × Unit)) :=
 .ite (decide (x.1 > w64 ((gi c.1.2.2.1 i.1 (0, 0, 0, 0, 0, 0, ())).1 * 1000000)))
 (.tt <| .lt (w64 (i.1 + 1) : Int) fun z2 => .lt ((gi c.1.2.2.1 i.1 (0, 0, 0, 0, 0, 0, ())).1 : Int) fun z3 => .triv (Qq z3 ∧ Qq z2 ∧ Qq (len c.1.2.2.1) ∧ Qq c.1.2.2.1 ∧ (Qq 11 ∧ Qq true) ∧ True) tv <| .triv ((Qq (LoopState.ready : LoopState) ∧ Qq (none : Option Code) ∧ Qq 64 ∧ Qq (#[13] : Array Tmp) ∧ Qq (akT (acL Tryz.f58) [1, 1, 0, 1, 0, 0]) ∧ Qq (akT (acL Tryz.f58) [1, 1, 0, 1, 0, 1]) ∧ (Qq (128 : FuncId) ∧ True ∧ (Qq 7 ∧ Qq 0 ∧ Qq true) ∧ True) ∧ Qq ((c.1.1, c.1.2.1, c.1.2.2.1, ()) : Int × List Int × List (Int × Int × Int × Int × Int × Int × Unit) × Unit) ∧ (Qq 0 ∧ Qq 0 ∧ Qq true) ∧ (Qq 4 ∧ Qq 0 ∧ Qq true) ∧ (Qq 3 ∧ Qq 0 ∧ Qq true) ∧ (Qq 2 ∧ Qq 0 ∧ Qq true) ∧ (Qq 1 ∧ Qq 0 ∧ Qq true) ∧ (Qq 0 ∧ Qq 0 ∧ Qq true) ∧ Qq c ∧ Qq x ∧ True) ∧ Qq true ∧ (Qq (42 : TypeId) ∧ Qq c.1.1 ∧ Qq c.1.2.1 ∧ Qq c.1.2.2.1 ∧ True) ∧ Qq true ∧ (Qq (169 : TypeId) ∧ True ∧ True) ∧ Qq true ∧ (Qq (48 : TypeId) ∧ Qq (0 : Int) ∧ True) ∧ Qq true ∧ (Qq (53 : TypeId) ∧ Qq (0 : Int) ∧ Qq (0 : Int) ∧ True) ∧ Qq true ∧ (Qq (53 : TypeId) ∧ Qq x.1 ∧ Qq x.2.1 ∧ True) ∧ Qq true ∧ (Qq (96 : TypeId) ∧ Qq c.1.1 ∧ Qq c.1.2.1 ∧ Qq c.1.2.2.1 ∧ True) ∧ Qq true ∧ True) tv <| .ok (.inl ((z2, z3, true, [], ()))))
 (.call (adP ((((gi c.1.2.2.1 i.1 (0, 0, 0, 0, 0, 0, ())).1, (gi c.1.2.2.1 i.1 (0, 0, 0, 0, 0, 0, ())).2.1, (gi c.1.2.2.1 i.1 (0, 0, 0, 0, 0, 0, ())).2.2.1, (gi c.1.2.2.1 i.1 (0, 0, 0, 0, 0, 0, ())).2.2.2.1, (gi c.1.2.2.1 i.1 (0, 0, 0, 0, 0, 0, ())).2.2.2.2.1, (gi c.1.2.2.1 i.1 (0, 0, 0, 0, 0, 0, ())).2.2.2.2.2.1, ()), i.2.1, i.1 == 0, ()), if w64 (i.2.1 * 1000000) > x.1 then w64 (i.2.1 * 1000000) else x.1, if w64 ((gi c.1.2.2.1 i.1 (0, 0, 0, 0, 0, 0, ())).1 * 1000000) < x.2.1 then w64 ((gi c.1.2.2.1 i.1 (0, 0, 0, 0, 0, 0, ())).1 * 1000000) else x.2.1, ())) atZ fun y =>
 .ite (y.2.1 != 0)
 (.ok (.inr (((0, 0, ()), y.2.1, ()))))
 (.need (1 * 16 ≤ 140737488355328) <| .tt <| .lt (w64 (i.1 + 1) : Int) fun z4 => .lt ((gi c.1.2.2.1 i.1 (0, 0, 0, 0, 0, 0, ())).1 : Int) fun z5 => .lt ([(y.1.1, y.1.2.1, ())] : List (Int × Int × Unit)) fun z6 => .triv (Qq z5 ∧ Qq z4 ∧ Qq (len c.1.2.2.1) ∧ Qq c.1.2.2.1 ∧ (Qq 11 ∧ Qq true) ∧ True) tv <| .triv ((Qq (53 : TypeId) ∧ Qq z6) ∧ Qq true ∧ (Qq (LoopState.ready : LoopState) ∧ Qq (none : Option Code) ∧ Qq 64 ∧ Qq (#[13] : Array Tmp) ∧ Qq (akT (acL Tryz.f58) [1, 1, 0, 1, 0, 0]) ∧ Qq (akT (acL Tryz.f58) [1, 1, 0, 1, 0, 1]) ∧ (Qq (128 : FuncId) ∧ True ∧ (Qq 7 ∧ Qq 0 ∧ Qq true) ∧ True) ∧ Qq ((c.1.1, c.1.2.1, c.1.2.2.1, ()) : Int × List Int × List (Int × Int × Int × Int × Int × Int × Unit) × Unit) ∧ (Qq 0 ∧ Qq 0 ∧ Qq true) ∧ (Qq 4 ∧ Qq 0 ∧ Qq true) ∧ (Qq 3 ∧ Qq 0 ∧ Qq true) ∧ (Qq 2 ∧ Qq 0 ∧ Qq true) ∧ (Qq 1 ∧ Qq 0 ∧ Qq true) ∧ (Qq 0 ∧ Qq 0 ∧ Qq true) ∧ Qq c ∧ Qq x ∧ True) ∧ Qq true ∧ (Qq (42 : TypeId) ∧ Qq c.1.1 ∧ Qq c.1.2.1 ∧ Qq c.1.2.2.1 ∧ True) ∧ Qq true ∧ (Qq (169 : TypeId) ∧ (Qq 17 ∧ Qq 0 ∧ Qq 1 ∧ Qq true) ∧ True) ∧ Qq true ∧ (Qq (48 : TypeId) ∧ Qq (0 : Int) ∧ True) ∧ Qq true ∧ (Qq (53 : TypeId) ∧ Qq (0 : Int) ∧ Qq (0 : Int) ∧ True) ∧ Qq true ∧ (Qq (53 : TypeId) ∧ Qq x.1 ∧ Qq x.2.1 ∧ True) ∧ Qq true ∧ (Qq (96 : TypeId) ∧ Qq c.1.1 ∧ Qq c.1.2.1 ∧ Qq c.1.2.2.1 ∧ True) ∧ Qq true ∧ True) tv <| .ok (.inl ((z4, z5, false, z6, ())))))
def ai5 (c : (Int × List Int × List (Int × Int × Int × Int × Int × Int × Unit) × Unit) × Unit) (x : Int × Int × Unit) (i : (Int) × (Int) × Bool × (List (Int × Int × Unit)) × Unit) : TT (((Int) × (Int) × Bool × (List (Int × Int × Unit)) × Unit) ⊕ ((Int × Int × Unit) × Int × Unit)) :=
 .ite (i.2.2.1)
 (.ite (decide (i.1 < len c.1.2.2.1))
  (.need (inb i.1 (len c.1.2.2.1)) <| .ite (!i.1 == 0)
   (.ite (decide (x.2.1 ≤ w64 (i.2.1 * 1000000)))
    (.tt <| .lt (w64 (i.1 + 1) : Int) fun z => .lt ((gi c.1.2.2.1 i.1 (0, 0, 0, 0, 0, 0, ())).1 : Int) fun z1 => .triv (Qq z1 ∧ Qq z ∧ Qq (len c.1.2.2.1) ∧ Qq c.1.2.2.1 ∧ (Qq 11 ∧ Qq true) ∧ True) tv <| .triv ((Qq (LoopState.ready : LoopState) ∧ Qq (none : Option Code) ∧ Qq 64 ∧ Qq (#[13] : Array Tmp) ∧ Qq (akT (acL Tryz.f58) [1, 1, 0, 1, 0, 0]) ∧ Qq (akT (acL Tryz.f58) [1, 1, 0, 1, 0, 1]) ∧ (Qq (128 : FuncId) ∧ True ∧ (Qq 7 ∧ Qq 0 ∧ Qq true) ∧ True) ∧ Qq ((c.1.1, c.1.2.1, c.1.2.2.1, ()) : Int × List Int × List (Int × Int × Int × Int × Int × Int × Unit) × Unit) ∧ (Qq 0 ∧ Qq 0 ∧ Qq true) ∧ (Qq 4 ∧ Qq 0 ∧ Qq true) ∧ (Qq 3 ∧ Qq 0 ∧ Qq true) ∧ (Qq 2 ∧ Qq 0 ∧ Qq true) ∧ (Qq 1 ∧ Qq 0 ∧ Qq true) ∧ (Qq 0 ∧ Qq 0 ∧ Qq true) ∧ Qq c ∧ Qq x ∧ True) ∧ Qq true ∧ (Qq (42 : TypeId) ∧ Qq c.1.1 ∧ Qq c.1.2.1 ∧ Qq c.1.2.2.1 ∧ True) ∧ Qq true ∧ (Qq (169 : TypeId) ∧ True ∧ True) ∧ Qq true ∧ (Qq (48 : TypeId) ∧ Qq (0 : Int) ∧ True) ∧ Qq true ∧ (Qq (53 : TypeId) ∧ Qq (0 : Int) ∧ Qq (0 : Int) ∧ True) ∧ Qq true ∧ (Qq (53 : TypeId) ∧ Qq x.1 ∧ Qq x.2.1 ∧ True) ∧ Qq true ∧ (Qq (96 : TypeId) ∧ Qq c.1.1 ∧ Qq c.1.2.1 ∧ Qq c.1.2.2.1 ∧ True) ∧ Qq true ∧ True) tv <| .ok (.inl ((z, z1, true, [], ()))))
    (ad6 x c i))
   (ad6 x c i))
  (.call (aiB ([], ())) atZ fun y2 =>
   .ok (.inr (((y2.1.1, y2.1.2.1, ()), y2.2.1, ())))))
 (.ite (decide (i.1 < len c.1.2.2.1))
  (.need (inb i.1 (len c.1.2.2.1)) <| .ite (!i.1 == 0)
   (.ite (decide (x.2.1 ≤ w64 (i.2.1 * 1000000)))
    (.tt <| .lt (w64 (i.1 + 1) : Int) fun z12 => .lt ((gi c.1.2.2.1 i.1 (0, 0, 0, 0, 0, 0, ())).1 : Int) fun z13 => .lt (i.2.2.2.1 : List (Int × Int × Unit)) fun z14 => .triv (Qq z13 ∧ Qq z12 ∧ Qq (len c.1.2.2.1) ∧ Qq c.1.2.2.1 ∧ (Qq 11 ∧ Qq true) ∧ True) tv <| .triv ((Qq (53 : TypeId) ∧ Qq z14) ∧ Qq true ∧ (Qq (LoopState.ready : LoopState) ∧ Qq (none : Option Code) ∧ Qq 64 ∧ Qq (#[13] : Array Tmp) ∧ Qq (akT (acL Tryz.f58) [1, 1, 0, 1, 0, 0]) ∧ Qq (akT (acL Tryz.f58) [1, 1, 0, 1, 0, 1]) ∧ (Qq (128 : FuncId) ∧ True ∧ (Qq 7 ∧ Qq 0 ∧ Qq true) ∧ True) ∧ Qq ((c.1.1, c.1.2.1, c.1.2.2.1, ()) : Int × List Int × List (Int × Int × Int × Int × Int × Int × Unit) × Unit) ∧ (Qq 0 ∧ Qq 0 ∧ Qq true) ∧ (Qq 4 ∧ Qq 0 ∧ Qq true) ∧ (Qq 3 ∧ Qq 0 ∧ Qq true) ∧ (Qq 2 ∧ Qq 0 ∧ Qq true) ∧ (Qq 1 ∧ Qq 0 ∧ Qq true) ∧ (Qq 0 ∧ Qq 0 ∧ Qq true) ∧ Qq c ∧ Qq x ∧ True) ∧ Qq true ∧ (Qq (42 : TypeId) ∧ Qq c.1.1 ∧ Qq c.1.2.1 ∧ Qq c.1.2.2.1 ∧ True) ∧ Qq true ∧ (Qq (169 : TypeId) ∧ (Qq 17 ∧ Qq 0 ∧ Qq (List.length z14) ∧ Qq true) ∧ True) ∧ Qq true ∧ (Qq (48 : TypeId) ∧ Qq (0 : Int) ∧ True) ∧ Qq true ∧ (Qq (53 : TypeId) ∧ Qq (0 : Int) ∧ Qq (0 : Int) ∧ True) ∧ Qq true ∧ (Qq (53 : TypeId) ∧ Qq x.1 ∧ Qq x.2.1 ∧ True) ∧ Qq true ∧ (Qq (96 : TypeId) ∧ Qq c.1.1 ∧ Qq c.1.2.1 ∧ Qq c.1.2.2.1 ∧ True) ∧ Qq true ∧ True) tv <| .ok (.inl ((z12, z13, false, z14, ()))))
    (ad7 x c i))
   (ad7 x c i))
  (.call (aiB (List.take (List.length i.2.2.2.1) i.2.2.2.1, ())) atZ fun y5 =>
   .ok (.inr (((y5.1.1, y5.1.2.1, ()), y5.2.1, ())))))
def agN (c : (Int × List Int × List (Int × Int × Int × Int × Int × Int × Unit) × Unit) × Unit) (x : Int × Int × Unit) : TT ((Int × Int × Unit) × Int × Unit) :=
 .tt <| .tt <| .tt <| .tt <| .loop 0 (.tt <| .triv (Qq (0 : Int) ∧ Qq (0 : Int) ∧ Qq (len c.1.2.2.1) ∧ Qq c.1.2.2.1 ∧ (Qq 11 ∧ Qq true) ∧ True) tv <| .triv ((Qq (LoopState.ready : LoopState) ∧ Qq (none : Option Code) ∧ Qq 64 ∧ Qq (#[13] : Array Tmp) ∧ Qq (akT (acL Tryz.f58) [1, 1, 0, 1, 0, 0]) ∧ Qq (akT (acL Tryz.f58) [1, 1, 0, 1, 0, 1]) ∧ (Qq (128 : FuncId) ∧ True ∧ (Qq 7 ∧ Qq 0 ∧ Qq true) ∧ True) ∧ Qq ((c.1.1, c.1.2.1, c.1.2.2.1, ()) : Int × List Int × List (Int × Int × Int × Int × Int × Int × Unit) × Unit) ∧ (Qq 0 ∧ Qq 0 ∧ Qq true) ∧ (Qq 4 ∧ Qq 0 ∧ Qq true) ∧ (Qq 3 ∧ Qq 0 ∧ Qq true) ∧ (Qq 2 ∧ Qq 0 ∧ Qq true) ∧ (Qq 1 ∧ Qq 0 ∧ Qq true) ∧ (Qq 0 ∧ Qq 0 ∧ Qq true) ∧ Qq c ∧ Qq x ∧ True) ∧ Qq true ∧ (Qq (42 : TypeId) ∧ Qq c.1.1 ∧ Qq c.1.2.1 ∧ Qq c.1.2.2.1 ∧ True) ∧ Qq true ∧ (Qq (169 : TypeId) ∧ True ∧ True) ∧ Qq true ∧ (Qq (48 : TypeId) ∧ Qq (0 : Int) ∧ True) ∧ Qq true ∧ (Qq (53 : TypeId) ∧ Qq (0 : Int) ∧ Qq (0 : Int) ∧ True) ∧ Qq true ∧ (Qq (53 : TypeId) ∧ Qq x.1 ∧ Qq x.2.1 ∧ True) ∧ Qq true ∧ (Qq (96 : TypeId) ∧ Qq c.1.1 ∧ Qq c.1.2.1 ∧ Qq c.1.2.2.1 ∧ True) ∧ Qq true ∧ True) tv <| .ok ((0, 0, true, [], ()))) (ai5 c x)
end
end Go.Vs
