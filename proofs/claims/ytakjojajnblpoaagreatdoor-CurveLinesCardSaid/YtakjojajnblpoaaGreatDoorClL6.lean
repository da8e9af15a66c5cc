/-
  Trees of what the functions compute, and their laws. Own work; no condition.
-/
import Derived.Test.YtakjojajnblpoaaGreatDoorClL5
import Derived.Test.YtakjojajnblpoaaGreatDoorProg
set_option linter.unusedVariables false
set_option linter.unusedSimpArgs false
namespace Go.Vs
open Go Go.Vg
theorem arA {N : Nat} {s : List Int} (h : s.length ≤ N) : over (List.replicate N 0) 0 s = s ++ List.replicate (N - s.length) 0 := by
 unfold over
 simp
theorem aQY {N : Nat} {s : List Int} (h : s.length ≤ N) : V 1000000000 (over (List.replicate N 0) 0 s) = V 1000000000 s := by
 rw [arA h, ad1, ar9]; omega
theorem aLH (m o : List Int) (y : Int × Unit) (y4 : List Int × Unit) (v ql u : List Int) (j n : Nat) (U Q : Int) (hv : Dg 1000000000 v) (hn : v.length = n + 2) (hN : u.length ≤ 1000000000000) (hjn : j + n + 2 < u.length) (hu : Dg 1000000000 u) (hz : V 1000000000 (u.drop (j + n + 2 + 1)) = 0) (hU : U = V 1000000000 (u.drop j)) (hUB : U < V 1000000000 v * 1000000000) (hQ1 : Q * V 1000000000 v ≤ U) (hQ2 : U < (Q + 1) * V 1000000000 v) (hQ0 : 0 ≤ Q) (htop : 1 ≤ v.getD (n + 1) 0) :
  ∃ q, (q = Q ∨ q = Q + 1) ∧ 0 ≤ q ∧ q < 1000000000 ∧ acX (fun i1 => (agJ m o y (v, ()) y4 ((j : Int), ql, u, ()) i1).toO) ((u.getD (j + n + 2) 0 * 1000000000 + u.getD (j + n + 1) 0) % v.getD (n + 1) 0, (u.getD (j + n + 2) 0 * 1000000000 + u.getD (j + n + 1) 0) / v.getD (n + 1) 0, ()) = some (.inl (q, ())) := by
 have wb1 : w64 (len v - 1) = ((n + 1 : Nat) : Int) := by rw [aaC, hn, aaA zc]; omega
 have wb2 : w64 (len v - 2) = ((n : Nat) : Int) := by rw [aaC, hn, aaA zc]; omega
 have wa : w64 (w64 ((j : Int) + len v) + 1) = ((j + n + 2 + 1 : Nat) : Int) := by rw [aaC, hn, aaA (x := (j : Int) + ((n + 2 : Nat) : Int)) zc, aaA zc]; omega
 have wb : ((((j + n + 2 + 1 : Nat) : Int).toNat - (j : Int).toNat : Nat) : Int) = ((n + 3 : Nat) : Int) := zc
 have dv1 := aa3 zc hv (n + 1)
 have dv2 := aa3 zc hv n
 have du0 := aa3 zc hu (j + n + 2)
 have du1 := aa3 zc hu (j + n + 1)
 have du2 := aa3 zc hu (j + n)
 -- the divisor
 have hP : (0 : Int) < 1000000000 ^ n := yI zc
 have hP1 : (0 : Int) < 1000000000 ^ (n + 1) := yI zc
 have s1 := ab6 1000000000 v n
 have s2 := aaU 1000000000 v n
 have s3 := aaU 1000000000 v (n + 1)
 rw [acT (k := n + 1 + 1) _ zc, wy, vI] at s3
 rw [s3] at s2
 have s4 := ac5 zc hv n
 have s5 := aaT zc (ab5 hv n)
 have s6 := ab6 1000000000 v (n + 1)
 rw [s3] at s6
 have s7 := aaT zc (ab5 hv (n + 1))
 -- the window
 have t1 := ab6 1000000000 (u.drop j) n
 have t2 : V 1000000000 ((u.drop j).drop n) = (u.getD (j + n + 2) 0 * 1000000000 + u.getD (j + n + 1) 0) * 1000000000 + u.getD (j + n) 0 := by
  rw [yb]
  have a1 := aaU 1000000000 u (j + n)
  have a2 := aaU 1000000000 u (j + n + 1)
  have a3 := aaU 1000000000 u (j + n + 1 + 1)
  rw [show j + n + 1 + 1 + 1 = j + n + 2 + 1 by omega, hz] at a3
  rw [a1, a2, a3]
  show _ + 1000000000 * (_ + 1000000000 * (u.getD (j + n + 2) 0 + 1000000000 * 0)) = _
  omega
 have t3 := ac5 zc (acI hu j) n
 have t4 := aaT zc (ab5 (acI hu j) n)
 rw [← hU, t2] at t1
 generalize hH : u.getD (j + n + 2) 0 * 1000000000 + u.getD (j + n + 1) 0 = H at *
 have hH0 : 0 ≤ H ∧ H < 1000000000000000000 := zc
 generalize hv1 : v.getD (n + 1) 0 = v1 at *
 generalize hv2 : v.getD n 0 = v2 at *
 generalize hu2 : u.getD (j + n) 0 = u2 at *
 generalize V 1000000000 (v.take n) = V3 at *
 generalize V 1000000000 ((u.drop j).take n) = U3 at *
 generalize V 1000000000 (v.take (n + 1)) = V4 at *
 have hVe : V 1000000000 v = (v1 * 1000000000 + v2) * 1000000000 ^ n + V3 := by rw [s1, s2]; grind
 have hVv : v1 * 1000000000 ^ (n + 1) ≤ V 1000000000 v := by
  have : (1000000000 : Int) ^ (n + 1) * v1 = v1 * 1000000000 ^ (n + 1) := yB _ _
  omega
 have hVB : 1000000000 * 1000000000 ^ n ≤ V 1000000000 v := by
  have a1 : 1 * 1000000000 ^ (n + 1) ≤ v1 * 1000000000 ^ (n + 1) := zC htop zc
  have a2 : (1000000000 : Int) ^ (n + 1) = 1000000000 * 1000000000 ^ n := by rw [zY, yB]
  omega
 have hUlo : (H * 1000000000 + u2) * 1000000000 ^ n ≤ U := by
  have : (1000000000 : Int) ^ n * (H * 1000000000 + u2) = (H * 1000000000 + u2) * 1000000000 ^ n := yB _ _
  omega
 have hUhi : U < (H * 1000000000 + u2 + 1) * 1000000000 ^ n := by
  have : (H * 1000000000 + u2 + 1) * 1000000000 ^ n = 1000000000 ^ n * (H * 1000000000 + u2) + 1000000000 ^ n := by grind
  omega
 have hUhi1 : U < (H + 1) * 1000000000 ^ (n + 1) := by
  have a1 : (H * 1000000000 + u2 + 1) * 1000000000 ^ n ≤ ((H + 1) * 1000000000) * 1000000000 ^ n := zC zc zc
  have a2 : ((H + 1) * 1000000000) * 1000000000 ^ n = (H + 1) * 1000000000 ^ (n + 1) := by rw [zY]; grind
  omega
 have hVpos : 0 < V 1000000000 v := by have := vq (show (0 : Int) < 1000000000 by omega) hP; omega
 have hQB : Q < 1000000000 := by
  have : Q * V 1000000000 v < 1000000000 * V 1000000000 v := zc
  exact yh this zc
 have hstart := aLY hP1 zc hVv hUhi1 hQ1 hQ0
 have hdm := yl H v1
 have hr0 := yE H (show v1 ≠ 0 by omega)
 have hr1 := yr H (show 0 < v1 by omega)
 refine Exists.elim (adL (R := fun i1 => (agJ m o y (v, ()) y4 ((j : Int), ql, u, ()) i1).toO) (fun i : Int × Int × Unit => 0 ≤ i.1 ∧ i.1 < 1000000000 ∧ Q ≤ i.2.1 ∧ i.2.1 * v1 + i.1 = H) (fun i => i.2.1.toNat) (fun r => ∃ q, (q = Q ∨ q = Q + 1) ∧ 0 ≤ q ∧ q < 1000000000 ∧ r = Sum.inl (q, ())) ?step (H % v1, H / v1, ()) ⟨hr0, by dsimp only; omega, hstart, by dsimp only; rw [yB]; omega⟩) ?fin
 case fin =>
  rintro a ⟨h1, q, h2, h3, h4, rfl⟩
  exact ⟨q, h2, h3, h4, h1⟩
 rintro ⟨r, q, u5⟩ ⟨g1, g2, g3, g4⟩
 dsimp only at g1 g2 g3 g4
 have hqH : q ≤ H := by
  have : q * 1 ≤ q * v1 := zy htop zc
  omega
 have down : Q ≤ q - 1 → ((r + v1 ≥ 1000000000 → ∃ q', (q' = Q ∨ q' = Q + 1) ∧ 0 ≤ q' ∧ q' < 1000000000 ∧ q' = q - 1)) := by
  intro hdn hr
  have hqB : q - 1 < 1000000000 := by
   have a1 : (q - 1) * v1 = H - (r + v1) := by rw [vu]; omega
   have a2 : H < (v1 + 1) * 1000000000 := by
    have b1 : H * 1000000000 ^ (n + 1) ≤ U := by
     have a2 : (H * 1000000000) * 1000000000 ^ n = H * 1000000000 ^ (n + 1) := by rw [zY]; grind
     have a3 : (H * 1000000000) * 1000000000 ^ n ≤ (H * 1000000000 + u2) * 1000000000 ^ n := zC zc zc
     omega
    have b2 : V 1000000000 v < (v1 + 1) * 1000000000 ^ (n + 1) := by
     have a2 : (v1 + 1) * 1000000000 ^ (n + 1) = (v1 * 1000000000 + 1000000000) * 1000000000 ^ n := by rw [zY]; grind
     have a3 : (v1 * 1000000000 + v2 + 1) * 1000000000 ^ n ≤ (v1 * 1000000000 + 1000000000) * 1000000000 ^ n := zC zc zc
     have a4 : (v1 * 1000000000 + v2 + 1) * 1000000000 ^ n = (v1 * 1000000000 + v2) * 1000000000 ^ n + 1000000000 ^ n := by grind
     omega
    have b3 : H * 1000000000 ^ (n + 1) < ((v1 + 1) * 1000000000) * 1000000000 ^ (n + 1) := by
     have : ((v1 + 1) * 1000000000) * 1000000000 ^ (n + 1) = ((v1 + 1) * 1000000000 ^ (n + 1)) * 1000000000 := by grind
     omega
    exact yh b3 zc
   have a3 : (q - 1) * v1 < 1000000000 * v1 := by
    have : (v1 + 1) * 1000000000 = 1000000000 * v1 + 1000000000 := by grind
    omega
   exact yh a3 zc
  have hm := arE (a := q - 1) (b := v2) (B := 1000000000) ⟨by omega, hqB⟩ dv2
  have hmB : 1000000000 * 1000000000 ≤ (r + v1) * 1000000000 := zc
  have := aG4 (q := q - 1) (r := r + v1) hP (by rw [vu]; omega) hVe s4 s5 hUlo zc hqB hVB hQ2 zc
  exact ⟨q - 1, by omega, by omega, hqB, rfl⟩
 have wv1 : abP v1 = v1 := aaO zc
 have wr : abP (r + v1) = r + v1 := aaO zc
 have hgi1 : gi v ((n + 1 : Nat) : Int) 0 = v1 := by rw [aaM, hv1]
 have hgi2 : gi v ((n : Nat) : Int) 0 = v2 := by rw [aaM, hv2]
 simp only [agJ, ahG, wb1, wb2, hgi1, hgi2, wv1, wr, wa, wb, zp, zu, hu2]
 have stepdn : Q ≤ q - 1 → 1 ≤ q → ((r + v1 ≥ 1000000000 → ∃ q', ((q' = Q ∨ q' = Q + 1) ∧ 0 ≤ q' ∧ q' < 1000000000) ∧ abP (q - 1) = q') ∧ (¬ r + v1 ≥ 1000000000 → (0 ≤ r + v1 ∧ r + v1 < 1000000000 ∧ Q ≤ q - 1 ∧ (q - 1) * v1 + (r + v1) = H) ∧ abP (q - 1) = q - 1)) := by
  intro h1 h2
  have wq : abP (q - 1) = q - 1 := aaO zc
  refine ⟨fun h => ?_, fun h => ⟨⟨by omega, by omega, h1, by rw [vu]; omega⟩, wq⟩⟩
  obtain ⟨q', e1, e2, e3, e4⟩ := down h1 h
  exact ⟨q', ⟨e1, e2, e3⟩, by rw [wq, e4]⟩
 by_cases c1 : q ≥ 1000000000
 ·obtain ⟨d1, d2⟩ := stepdn zc zc
  by_cases c2 : r + v1 ≥ 1000000000
  ·right
   obtain ⟨q', e1, e2⟩ := d1 c2
   refine ⟨.inl (q', ()), ?_, q', e1.1, e1.2.1, e1.2.2, rfl⟩
   refine uT (zo c1) (uT (zo c2) ?_)
   repeat refine za ?_
   rw [aaK, e2]
  ·left
   obtain ⟨e1, e2⟩ := d2 c2
   refine ⟨(r + v1, q - 1, ()), ?_, e1, by dsimp only; omega⟩
   refine uT (zo c1) (uF (zn c2) ?_)
   repeat refine za ?_
   rw [aaK, e2]
 ·have hm := arE (a := q) (b := v2) (B := 1000000000) ⟨by omega, by omega⟩ dv2
  have wm : abP (q * abP v2) = q * v2 := by rw [aaO (x := v2) zc, aaO zc]
  have wn : abP (abP (r * 1000000000) + abP u2) = r * 1000000000 + u2 := by rw [aaO (x := r * 1000000000) zc, aaO (x := u2) zc, aaO zc]
  simp only [wm, wn]
  by_cases c3 : q * v2 > r * 1000000000 + u2
  ·have hdn := aOy (q := q) (r := r) (xm hVpos) hP g4 zc hUhi hQ1 zc c3
   obtain ⟨d1, d2⟩ := stepdn hdn zc
   by_cases c2 : r + v1 ≥ 1000000000
   ·right
    obtain ⟨q', e1, e2⟩ := d1 c2
    refine ⟨.inl (q', ()), ?_, q', e1.1, e1.2.1, e1.2.2, rfl⟩
    refine uF (zn c1) (uN ⟨by omega, by rw [aaC, hn]; omega⟩ (uN ⟨by omega, by omega⟩ (uT (zo c3) (uT (zo c2) ?_))))
    repeat refine za ?_
    rw [aaK, e2]
   ·left
    obtain ⟨e1, e2⟩ := d2 c2
    refine ⟨(r + v1, q - 1, ()), ?_, e1, by dsimp only; omega⟩
    refine uF (zn c1) (uN ⟨by omega, by rw [aaC, hn]; omega⟩ (uN ⟨by omega, by omega⟩ (uT (zo c3) (uF (zn c2) ?_))))
    repeat refine za ?_
    rw [aaK, e2]
  ·right
   have hdone := aG4 (q := q) (r := r) hP g4 hVe s4 s5 hUlo zc zc hVB hQ2 zc
   refine ⟨.inl (q, ()), ?_, q, by omega, by omega, by omega, rfl⟩
   refine uF (zn c1) (uN ⟨by omega, by rw [aaC, hn]; omega⟩ (uN ⟨by omega, by omega⟩ (uF (zn c3) ?_)))
   repeat refine za ?_
   rfl
theorem aJ9 {b s t L : Nat} (hs : s * (t + 1) ≤ 1000000000) (hs1 : 1 ≤ s) (h1 : 1000000000 ^ L * t ≤ b) (h2 : b < 1000000000 ^ L * (t + 1)) (ht : 1 ≤ t) : (mag (b * s)).length = L + 1 := by
 have a1 : b * s < 1000000000 ^ (L + 1) := by
  have c1 : b * s < (1000000000 ^ L * (t + 1)) * s := Nat.mul_lt_mul_of_pos_right h2 zc
  have c2 : (1000000000 ^ L * (t + 1)) * s = 1000000000 ^ L * (s * (t + 1)) := by rw [wz, yL (t + 1)]
  have c3 : 1000000000 ^ L * (s * (t + 1)) ≤ 1000000000 ^ L * 1000000000 := yy _ hs
  rw [yC]; omega
 have a2 := mag_length_le_iff.2 a1
 have a3 : 1000000000 ^ L ≤ b * s := by
  have c1 : 1000000000 ^ L * 1 ≤ 1000000000 ^ L * t := yy _ ht
  have c2 : b * 1 ≤ b * s := yy _ hs1
  omega
 rcases zr L (mag (b * s)).length with h | h
 ·omega
 ·have := mag_length_le_iff.1 h; omega
theorem aLI (m o : List Int) (y : Int × Unit) (y4 : List Int × Unit) (v q u : List Int) (j n : Nat) (qq : Int) (X : (Int × List Int × List Int × Unit) ⊕ (List Int × List Int × Unit)) (hvd : Dg 1000000000 v) (g7 : Dg 1000000000 u) (lv : v.length = n + 2) (g6 : u.length = m.length + 1) (hN : m.length ≤ 1000000000000) (hj : j + n + 2 < u.length) (hvtop : 1 ≤ v.getD (n + 1) 0)
  (p4 : acX (fun i1 => (agJ m o y (v, ()) y4 ((j : Int), q, u, ()) i1).toO) ((u.getD (j + n + 2) 0 * 1000000000 + u.getD (j + n + 1) 0) % v.getD (n + 1) 0, (u.getD (j + n + 2) 0 * 1000000000 + u.getD (j + n + 1) 0) / v.getD (n + 1) 0, ()) = some (.inl (qq, ())))
  (r1 : acX (fun i1 => (agI m o y (v, ()) y4 ((j : Int), q, u, ()) (qq, ()) i1).toO) (0, 0, 0, u, ()) = some X) : (ah2 m o y (v, ()) y4 ((j : Int), q, u, ())).toO = some X := by
 have wlv : len v = ((n + 2 : Nat) : Int) := by rw [aaC, lv]
 have wa : w64 (w64 ((j : Int) + len v) + 1) = ((j + n + 2 + 1 : Nat) : Int) := by rw [wlv, aaA (x := (j : Int) + ((n + 2 : Nat) : Int)) zc, aaA zc]; omega
 have wb : ((((j + n + 2 + 1 : Nat) : Int).toNat - (j : Int).toNat : Nat) : Int) = ((n + 3 : Nat) : Int) := zc
 have wb1 : w64 (len v - 1) = ((n + 1 : Nat) : Int) := by rw [wlv, aaA zc]; omega
 have w2 : w64 (len m + 1) = ((m.length + 1 : Nat) : Int) := by rw [aaC, aaA zc]; omega
 have dv1 := aa3 zc hvd (n + 1)
 have du0 := aa3 zc g7 (j + n + 2)
 have du1 := aa3 zc g7 (j + n + 1)
 have hgi1 : abP (gi v ((n + 1 : Nat) : Int) 0) = v.getD (n + 1) 0 := by rw [aaM, aaO zc]
 have wH : abP (abP (abP (u.getD (j + (n + 2)) 0) * 1000000000) + abP (u.getD (j + (n + 1)) 0)) = u.getD (j + n + 2) 0 * 1000000000 + u.getD (j + n + 1) 0 := by
  rw [show j + (n + 2) = j + n + 2 by omega, show j + (n + 1) = j + n + 1 by omega, aaO (x := u.getD (j + n + 2) 0) zc, aaO (x := u.getD (j + n + 2) 0 * 1000000000) zc, aaO (x := u.getD (j + n + 1) 0) zc, aaO zc]
 have hH0 : 0 ≤ u.getD (j + n + 2) 0 * 1000000000 + u.getD (j + n + 1) 0 := zc
 have tm := zE (b := v.getD (n + 1) 0) hH0
 have td := zH (b := v.getD (n + 1) 0) hH0
 have hdle : (u.getD (j + n + 2) 0 * 1000000000 + u.getD (j + n + 1) 0) / v.getD (n + 1) 0 ≤ u.getD (j + n + 2) 0 * 1000000000 + u.getD (j + n + 1) 0 := Int.ediv_le_self _ hH0
 have hdge : 0 ≤ (u.getD (j + n + 2) 0 * 1000000000 + u.getD (j + n + 1) 0) / v.getD (n + 1) 0 := xD hH0 zc
 have wq : abP ((u.getD (j + n + 2) 0 * 1000000000 + u.getD (j + n + 1) 0) / v.getD (n + 1) 0) = (u.getD (j + n + 2) 0 * 1000000000 + u.getD (j + n + 1) 0) / v.getD (n + 1) 0 := aaO zc
 simp only [ah2, wa, wb, wb1, hgi1, w2, zp, zu]
 have wlt : (len v).toNat = n + 2 := by rw [wlv]; omega
 simp only [wlt, wH, tm, td, wq]
 refine uT sd (uN ⟨by omega, by omega⟩ (uN ⟨by omega, by omega⟩ (uN ⟨by omega, by omega⟩ (uN ⟨by omega, by omega⟩ (uN ⟨by omega, by omega⟩ (uN zc (uN zc ?_)))))))
 refine uL (qq, ()) ?_ ?_
 ·refine uO ((u.getD (j + n + 2) 0 * 1000000000 + u.getD (j + n + 1) 0) % v.getD (n + 1) 0, (u.getD (j + n + 2) 0 * 1000000000 + u.getD (j + n + 1) 0) / v.getD (n + 1) 0, ()) ?_ p4
  repeat refine za ?_
  rfl
 ·unfold as8
  refine uO (0, 0, 0, u, ()) (by repeat refine za ?_; rfl) ?_
  exact r1
set_option maxHeartbeats 1000000 in
theorem apH (m o : List Int) (y) (h : abC (m, o, ()) = some y) : (aj1 m o).toO = some y := by
 obtain ⟨⟨a, b⟩, hp, hx, rfl⟩ := aaE h
 obtain ⟨rfl, hx2⟩ := Prod.mk.inj hx; obtain ⟨rfl, -⟩ := Prod.mk.inj hx2; dsimp only
 obtain ⟨la, lb, hb0⟩ := hp
 simp only at la lb hb0
 clear h hx hx2
 unfold aj1
 have hcmp : adO (mag a, mag b, ()) = some (atE a b, ()) := aaI (enc := fun p : Nat × Nat => (mag p.1, mag p.2, ())) (a, b) ⟨by dsimp only; omega, by dsimp only; omega⟩ (fun b hb => adB hb)
 refine uC _ hcmp ?_
 by_cases hab : a < b
 ·refine uT (zo (by unfold atE; rw [if_pos zc]; show (-1 : Int) < 0; omega)) ?_
  rw [xa hab, yG hab, mag_zero]; rfl
 refine uF (zn (by unfold atE; rw [if_neg zc]; split <;> decide)) ?_
 have hbl : 1 ≤ (mag b).length := by
  rcases zF (mag b).length with h5 | h5
  ·exact absurd (mag_nil_iff.1 (zU.1 h5)) hb0
  ·exact h5
 have hshort : ∀ x d : Nat, (mag x).length ≤ 1000000000000 → 0 < d → d < 4294967296 → ajG (mag x, (d : Int), ()) = some (mag (x / d), ((x % d : Nat) : Int), ()) := by
  intro x d h1 h2 h3
  refine aaI (enc := fun p : Nat × Nat => (mag p.1, (p.2 : Int), ())) (x, d) ⟨h1, h2, h3⟩ (fun b hb => ?_)
  obtain ⟨e1, e2⟩ := Prod.mk.inj hb
  obtain ⟨e2, -⟩ := Prod.mk.inj e2
  exact Prod.ext (adK e1) (Int.ofNat.inj e2)
 by_cases h1 : (mag b).length = 1
 ·refine uT sd (uN ⟨by simp [asT], by exact sn⟩ ?_)
  have hb1 : b < 1000000000 := by have := mag_length_le_iff.1 (vG h1); simpa using this
  have hg : gi (mag b) 0 0 = (b : Int) := by rw [apB hb0 hb1]; rfl
  rw [hg]
  refine uC _ (hshort a b zc zc zc) ?_
  have hm := yU a (show 0 < b by omega)
  generalize a % b = r at hm ⊢
  refine uC (mag r, ()) ?_ rfl
  dsimp only
  rw [aaO (x := (r : Int)) zc]
  unfold abN
  rw [if_pos zl]
  simp
 refine uF sd ?_
 obtain ⟨n, hnl⟩ : ∃ n, (mag b).length = n + 2 := ⟨(mag b).length - 2, by omega⟩
 have hml : n + 2 ≤ (mag a).length := by rw [← hnl]; exact abR zc
 obtain ⟨t, ht, t1, t2, t3, t4⟩ := aFm hb0
 have w1 : w64 (len (mag b) - 1) = ((n + 1 : Nat) : Int) := by rw [aaC, hnl, aaA zc]; omega
 rw [hnl, show n + 2 - 1 = n + 1 by omega] at ht t3 t4
 have hg : gi (mag b) ((n + 1 : Nat) : Int) 0 = (t : Int) := by rw [aaM, ht]
 have wt : adV ((t : Int) + 1) = ((t + 1 : Nat) : Int) := by rw [aa0 zc]; omega
 obtain ⟨s, hs⟩ : ∃ s, s = 1000000000 / (t + 1) := ⟨_, rfl⟩
 have hs1 : 1 ≤ s := by rw [hs]; exact (wO zc).2 zc
 have hs2 : s * (t + 1) ≤ 1000000000 := by rw [hs]; exact Nat.div_mul_le_self _ _
 have hs3 : s < 1000000000 := by
  have : s * 2 ≤ s * (t + 1) := yy _ zc
  omega
 have ws : adV (Int.tdiv 1000000000 ((t + 1 : Nat) : Int)) = (s : Int) := by
  have : Int.tdiv 1000000000 ((t + 1 : Nat) : Int) = (s : Int) := by
   rw [zH zc, hs]; rfl
  rw [this, aa0 zc]
 simp only [w1, hg, wt, ws]
 refine uN sd (uN zc ?_)
 have hms : mag s = [(s : Int)] := apB zc hs3
 have lv : (mag (b * s)).length = n + 2 := aJ9 hs2 hs1 t3 t4 t1
 have htimes : ∀ x : Nat, (mag x).length ≤ 1000000000000 → acB (mag x, [(s : Int)], ()) = some (mag (x * s), ()) := by
  intro x hx
  rw [← hms]
  exact aaI (enc := fun p : Nat × Nat => (mag p.1, mag p.2, ())) (x, s) ⟨hx, by rw [hms]; simp⟩ (fun b hb => adB hb)
 refine uC _ (htimes b zc) ?_
 have w2 : w64 (len (mag a) + 1) = (((mag a).length + 1 : Nat) : Int) := by rw [aaC, aaA zc]; omega
 obtain ⟨K, hK⟩ : ∃ K, (mag a).length = K + n + 2 := ⟨(mag a).length - (n + 2), by omega⟩
 have w3 : w64 (len (mag a) - len (mag (b * s))) = (K : Int) := by rw [aaC, aaC, lv, hK, aaA zc]; omega
 have w4 : w64 ((K : Int) + 1) = ((K + 1 : Nat) : Int) := by rw [aaA zc]; omega
 simp only [w2, w3, w4]
 refine uN zc ?_
 refine uC _ (htimes a zc) ?_
 refine uN zc ?_
 have las : (mag (a * s)).length ≤ (mag a).length + 1 := by
  have := af6 a s
  rw [hms] at this; simpa using this
 have htk : List.take (mag a).length.succ (mag (a * s)) = mag (a * s) := zz las
 -- the start
 have hu0d : Dg 1000000000 (over (List.replicate ((mag a).length + 1) 0) 0 (mag (a * s))) := by
  rw [arA las]; exact aeG (agQ _) (agA zc _)
 have hu0V : V 1000000000 (over (List.replicate ((mag a).length + 1) 0) 0 (mag (a * s))) = ((a * s : Nat) : Int) := by rw [aQY las, alQ]
 have hu0l : (over (List.replicate ((mag a).length + 1) 0) 0 (mag (a * s))).length = (mag a).length + 1 := by rw [arA las]; simp; omega
 refine uO ((K : Int), List.replicate (K + 1) 0, over (List.replicate ((mag a).length + 1) 0) 0 (mag (a * s)), ()) ?_ ?_
 ·repeat refine za ?_
  simp only [zp, w4]
  rw [show List.take ((mag a).length + 1) (mag (a * s)) = mag (a * s) from htk]
  rfl
 generalize hu0 : over (List.replicate ((mag a).length + 1) 0) 0 (mag (a * s)) = u0 at *
 have hvd := agQ (b * s)
 have hvV := alQ (b * s)
 have hvpos : 0 < b * s := Nat.mul_pos zc zc
 have hvtop : 1 ≤ (mag (b * s)).getD (n + 1) 0 := by
  obtain ⟨t', e1, e2, -⟩ := aFm (n := b * s) zc
  rw [lv, show n + 2 - 1 = n + 1 by omega] at e1
  omega
 generalize hv : mag (b * s) = v at *
 have hdrop0 : V 1000000000 (u0.drop (K + 1)) < V 1000000000 v := by
  have e1 := ab6 1000000000 u0 (K + 1)
  have e2 := aaT zc (ab5 hu0d (K + 1))
  have e3 := aaT zc (acI hu0d (K + 1))
  rw [hu0V] at e1
  have a1 : a < 1000000000 ^ (K + 1) * b := by
   have c1 := mag_length_le_iff.1 (vG hK)
   have c2 : 1000000000 ^ (n + 1) ≤ b := by
    have : 1000000000 ^ (n + 1) * 1 ≤ 1000000000 ^ (n + 1) * t := yy _ t1
    omega
   have c3 : 1000000000 ^ (K + 1) * 1000000000 ^ (n + 1) ≤ 1000000000 ^ (K + 1) * b := yy _ c2
   rw [← xz, show K + 1 + (n + 1) = K + n + 2 by omega] at c3
   omega
  have a2 : a * s < (1000000000 ^ (K + 1) * b) * s := Nat.mul_lt_mul_of_pos_right a1 zc
  have a3 : ((a * s : Nat) : Int) < (((1000000000 ^ (K + 1) * b) * s : Nat) : Int) := Int.ofNat_lt.2 a2
  have a4 : ((((1000000000 ^ (K + 1) * b) * s : Nat)) : Int) = 1000000000 ^ (K + 1) * V 1000000000 v := by
   rw [hvV, wz, yi, wD]; rfl
  rw [a4] at a3
  have a5 : 1000000000 ^ (K + 1) * V 1000000000 (u0.drop (K + 1)) < 1000000000 ^ (K + 1) * V 1000000000 v := zc
  exact yR a5 (xm (yI zc))
 refine aaN (fun i : Int × List Int × List Int × Unit => ∃ k : Nat, k ≤ K + 1 ∧ i.1 = (k : Int) - 1 ∧ i.2.1.length = K + 1 ∧ Dg 1000000000 i.2.1 ∧ (∀ p, p < k → i.2.1.getD p 0 = 0) ∧ i.2.2.1.length = (mag a).length + 1 ∧ Dg 1000000000 i.2.2.1 ∧ V 1000000000 (i.2.2.1.drop k) < V 1000000000 v ∧ ((a * s : Nat) : Int) = V 1000000000 i.2.1 * V 1000000000 v + V 1000000000 i.2.2.1) (fun i => (i.1 + 1).toNat) (fun _ => (mag (a / b), mag (a % b), ())) ?_ _ ⟨K + 1, zq _, by dsimp only; omega, by simp, agA zc _, fun p _ => by simp [yg, List.getElem?_replicate]; split <;> rfl, hu0l, hu0d, hdrop0, by rw [ar9, hu0V]; omega⟩
 rintro ⟨i, q, u, u6⟩ ⟨k, g1, g2, g3, g4, g5, g6, g7, g8, g9⟩
 dsimp only at g2 g3 g4 g5 g6 g7 g8 g9
 subst g2
 cases k with
 | zero =>
  right
  rw [yP] at g8
  obtain ⟨x, hx⟩ := zv (aaT zc g4)
  obtain ⟨r, hr⟩ := zv (aaT zc g7)
  rw [hx, hr, hvV] at g9
  rw [hr, hvV] at g8
  have h8 : a * s = x * (b * s) + r := by
   have : ((a * s : Nat) : Int) = ((x * (b * s) + r : Nat) : Int) := by rw [g9]; simp
   exact Int.ofNat.inj this
  have h9 : x = a / b := by
   have : a * s / (b * s) = x := by rw [h8, xb, wN _ _ hvpos, xa zc, zu]
   rw [← this, Nat.mul_div_mul_right _ _ zc]
  have h10 : r = (a % b) * s := by
   have : a * s % (b * s) = r := by rw [h8, xb, xX, yG zc]
   rw [← this, Nat.mul_mod_mul_right]
  have hrl : (mag r).length ≤ n + 2 := by rw [← lv, ← hv]; exact abR zc
  have hVtake : V 1000000000 (u.take (n + 2)) = r := by
   have e1 := ab6 1000000000 u (n + 2)
   have e2 := aaT zc (ab5 g7 (n + 2))
   have e3 := aaT zc (acI g7 (n + 2))
   have e4 : V 1000000000 u < 1000000000 ^ (n + 2) := by
    have := aJq zc hvd
    rw [lv] at this
    omega
   have e5 : V 1000000000 (u.drop (n + 2)) < 1 := by
    have : 1000000000 ^ (n + 2) * V 1000000000 (u.drop (n + 2)) < 1000000000 ^ (n + 2) * 1 := zc
    exact yR this (xm (yI zc))
   have e6 : V 1000000000 (u.drop (n + 2)) = 0 := zc
   rw [e6, wy] at e1
   omega
  have wlv : len v = ((n + 2 : Nat) : Int) := by rw [aaC, lv]
  simp only [ah2, w1, hg, wt, ws, w2, w3, w4, wlv, zp]
  have wkk : w64 (w64 (len (mag a) - ((n + 2 : Nat) : Int)) + 1) = ((K + 1 : Nat) : Int) := by rw [← wlv, w3, w4]
  simp only [wkk, zp]
  refine uF sd (uN ⟨by omega, by omega⟩ ?_)
  have htr : ∀ (l : List Int) (z : Nat), Dg 1000000000 l → l.length ≤ 2000000000000 → V 1000000000 l = z → acE (l, ()) = some (mag z, ()) := by
   intro l z h1 h2 h3
   unfold acE
   rw [if_pos ⟨h1, h2⟩]
   simp only [h3, zp]
  refine uC _ (htr _ r (ab5 g7 _) (by rw [yo]; omega) hVtake) ?_
  refine uC _ (hshort r s zc zc zc) ?_
  have htq : List.take (K + 1) q = q := zz zc
  rw [htq]
  refine uC _ (htr q x g4 zc hx) ?_
  rw [aaK, h9, h10, wE _ zc]
 | succ j =>
  left
  have e6 : ((j + 1 : Nat) : Int) - 1 = (j : Int) := zc
  rw [e6]
  have wlv : len v = ((n + 2 : Nat) : Int) := by rw [aaC, lv]
  have wa : w64 (w64 ((j : Int) + len v) + 1) = ((j + n + 2 + 1 : Nat) : Int) := by rw [wlv, aaA (x := (j : Int) + ((n + 2 : Nat) : Int)) zc, aaA zc]; omega
  have wb : ((((j + n + 2 + 1 : Nat) : Int).toNat - (j : Int).toNat : Nat) : Int) = ((n + 3 : Nat) : Int) := zc
  have wb1 : w64 (len v - 1) = ((n + 1 : Nat) : Int) := by rw [wlv, aaA zc]; omega
  have hvpos' : 0 < V 1000000000 v := by rw [hvV]; omega
  have du := aa3 zc g7 j
  have eU := aaU 1000000000 u j
  have hU0 := aaT zc (acI g7 j)
  have hUB : V 1000000000 (u.drop j) < V 1000000000 v * 1000000000 := zc
  have hvlt : V 1000000000 v < 1000000000 ^ (n + 2) := by have := aJq zc hvd; rwa [lv] at this
  have hz : V 1000000000 (u.drop (j + n + 2 + 1)) = 0 := by
   have e1 := ab6 1000000000 (u.drop (j + 1)) (n + 2)
   rw [yb, show j + 1 + (n + 2) = j + n + 2 + 1 by omega] at e1
   have e2 := aaT zc (ab5 (acI g7 (j + 1)) (n + 2))
   have e3 := aaT zc (acI g7 (j + n + 2 + 1))
   have e5 : V 1000000000 (u.drop (j + n + 2 + 1)) < 1 := by
    have : 1000000000 ^ (n + 2) * V 1000000000 (u.drop (j + n + 2 + 1)) < 1000000000 ^ (n + 2) * 1 := zc
    exact yR this (xm (yI zc))
   omega
  obtain ⟨Q, hQ⟩ : ∃ Q, Q = V 1000000000 (u.drop j) / V 1000000000 v := ⟨_, rfl⟩
  have hdm := yl (V 1000000000 (u.drop j)) (V 1000000000 v)
  have hr0 := yE (V 1000000000 (u.drop j)) (show V 1000000000 v ≠ 0 by omega)
  have hr1 := yr (V 1000000000 (u.drop j)) hvpos'
  have hQ0 : 0 ≤ Q := by rw [hQ]; exact xD hU0 zc
  rw [← hQ, yB] at hdm
  have hQB : Q < 1000000000 := by
   have : Q * V 1000000000 v < 1000000000 * V 1000000000 v := zc
   exact yh this zc
  obtain ⟨qq, p1, p2, p3, p4⟩ := aLH (mag a) (mag b) (atE a b, ()) (mag (a * s), ()) v q u j n (V 1000000000 (u.drop j)) Q hvd lv zc zc g7 hz rfl hUB zc (by rw [wF]; omega) hQ0 hvtop
  obtain ⟨u', r1, r2, r3, r4, r5⟩ := aLG (mag a) (mag b) (atE a b, ()) (mag (a * s), ()) v q u j (n + 2) qq Q hvd lv zc zc g7 ⟨p2, p3⟩ (by rw [w3, w4]; exact ⟨by omega, by omega⟩) hz p1 zc zc hQ0
  have k1 : j ≤ K + 1 := Nat.le_of_succ_le g1
  have k3 : (q.set j Q).length = K + 1 := by rw [xi]; exact g3
  have k4 := aiH g4 ⟨hQ0, hQB⟩ j
  have k6 : u'.length = (mag a).length + 1 := by rw [r2]; exact g6
  have k8 : V 1000000000 (u'.drop j) < V 1000000000 v := by rw [r5]; omega
  have k9 : ((j : Int) - 1 + 1).toNat < ((j : Int) + 1).toNat := zc
  refine ⟨((j : Int) - 1, q.set j Q, u', ()), ?_, ⟨j, k1, rfl, k3, k4, ?_, k6, r3, k8, ?_⟩, k9, ze⟩
  ·exact aLI (mag a) (mag b) (atE a b, ()) (mag (a * s), ()) v q u j n qq _ hvd g7 lv g6 zc zc hvtop p4 r1
  ·intro p hp
   dsimp only
   rw [an3 _ zc]
   exact g5 p zc
  ·dsimp only
   rw [axD _ zc, g5 j zc, r4, g9]
   grind
theorem aHu (n o : SgT) (y) (h : axE (n, o, ()) = some y) : (akV n o).toO = some y := by
 obtain ⟨⟨a, b⟩, hp, hx, rfl⟩ := aaE h
 obtain ⟨rfl, hx2⟩ := Prod.mk.inj hx; obtain ⟨rfl, -⟩ := Prod.mk.inj hx2; dsimp only
 obtain ⟨l1, l2⟩ := hp
 simp only at l1 l2
 unfold akV
 dsimp only
 refine uC _ (aB0 (aaH l2 zc)) ?_
 refine uC (sg (a + -b), ()) (aOP l1 (by rw [xH]; exact l2)) ?_
 rw [← Int.sub_eq_add_neg]; rfl
theorem aPp {a b : Int} : a * b = 0 ∨ (!(decide (a < 0) == decide (b < 0))) = decide (a * b < 0) := by
 rcases xF a 0 with ha | ha | ha
 ·rcases xF b 0 with hb | hb | hb
  ·right
   have := wg ha hb
   rw [zo ha, zo hb, zn zc]; rfl
  ·left; rw [hb, wy]
  ·right
   have := xY ha hb
   rw [zo ha, zn zc, zo this]; rfl
 ·left; rw [ha, Int.zero_mul]
 ·rcases xF b 0 with hb | hb | hb
  ·right
   have := xZ ha hb
   rw [zn zc, zo hb, zo this]; rfl
  ·left; rw [hb, wy]
  ·right
   have := vq ha hb
   rw [zn zc, zn zc, zn zc]; rfl
theorem ax2 (n o : SgT) (y) (h : ah8 (n, o, ()) = some y) : (akU n o).toO = some y := by
 obtain ⟨⟨a, b⟩, hp, hx, rfl⟩ := aaE h
 obtain ⟨rfl, hx2⟩ := Prod.mk.inj hx; obtain ⟨rfl, -⟩ := Prod.mk.inj hx2; dsimp only
 obtain ⟨l1, l2⟩ := hp
 simp only at l1 l2
 unfold akU
 dsimp only
 refine uC _ (asG (aaH l1 zc) (aaH l2 zc)) ?_
 exact uC (sg (a * b), ()) (aAn (by rw [yF]) aPp) rfl
def av9 (l : List Int) (j : Nat) : Bool := (List.range j).any (fun i => decide (l.getD (i + 1) 0 < l.getD i 0))
def aqW (l : List Int) (j : Nat) : Bool := (List.range j).any (fun i => decide (l.getD (i + 1) 0 > l.getD i 0))
theorem aDC (l : List Int) (j : Nat) : av9 l (j + 1) = (av9 l j || decide (l.getD (j + 1) 0 < l.getD j 0)) := by
 unfold av9; rw [vO, List.any_append]; simp
theorem aCu (l : List Int) (j : Nat) : aqW l (j + 1) = (aqW l j || decide (l.getD (j + 1) 0 > l.getD j 0)) := by
 unfold aqW; rw [vO, List.any_append]; simp
theorem ay5 {c : CvT} (h : acJ c) : c.2.1.length ≤ 17 ∧ (c.1 = 3 → 1 ≤ c.2.2.1.length ∧ c.2.2.1.length ≤ 4) := by
 rcases h with ⟨h1, h2, h3⟩ | ⟨h1, h2, h3⟩ | ⟨h1, h2, h3⟩
 ·rw [h2]; exact ⟨by simp, fun h => by omega⟩
 ·exact ⟨h2.2.1, fun h => by omega⟩
 ·rw [h2]; exact ⟨by simp, fun _ => ⟨h3.1, h3.2.1⟩⟩
theorem aF5 (c : CvT) (y) (h : alW (c, ()) = some y) : (awZ c).toO = some y := by
 injection h with h
 subst h
 obtain ⟨kind, tab, l, u0⟩ := c
 unfold awZ
 dsimp only
 refine uC _ (axW (kind, tab, l, ())) ?_
 by_cases hr : acJ (kind, tab, l, ())
 case neg =>
  have hr' : ¬ acJ (kind, tab, l, u0) := hr
  rw [if_neg hr']
  rw [if_neg hr]
  exact uT rfl rfl
 have hr' : acJ (kind, tab, l, u0) := hr
 rw [if_pos hr']
 rw [if_pos hr]
 obtain ⟨hl1, hl2⟩ := ay5 hr
 dsimp only at hl1 hl2
 refine uF rfl (uO (1, false, false, ()) rfl ?_)
 refine aaN (fun i : Int × Bool × Bool × Unit => ∃ j : Nat, j ≤ tab.length - 1 ∧ i.1 = (j : Int) + 1 ∧ i.2.1 = av9 tab j ∧ i.2.2.1 = aqW tab j) (fun i => ((tab.length : Int) - i.1).toNat) (fun _ => (aJU (kind, tab, l, u0), 0, ())) ?_ _ ⟨0, by omega, rfl, rfl, rfl⟩
 rintro ⟨i, dn, up, u⟩ ⟨j, h1, h2, h3, h4⟩
 dsimp only at h2 h3 h4
 subst h2
 simp only [aAg]
 have hw1 : w64 ((j : Int) + 1 + 1) = (((j + 1 : Nat) : Int)) + 1 := by rw [aaA zc]; omega
 have hw2 : w64 ((j : Int) + 1 - 1) = (j : Int) := by rw [aaA zc]; omega
 have hj1 : (j : Int) + 1 = ((j + 1 : Nat) : Int) := rfl
 rcases zr (j + 1) tab.length with hk | hk
 ·left
  refine ⟨((((j + 1 : Nat) : Int)) + 1, av9 tab (j + 1), aqW tab (j + 1), ()), ?_, ⟨j + 1, by omega, rfl, rfl, rfl⟩, by dsimp only; omega, ze⟩
  refine uT sd ?_
  rw [hw1, hw2, hj1, aDC, aCu, ← h3, ← h4]
  simp only [aaM]
  cases up
  ·refine uF rfl (uN ⟨by exact sn, by exact sn⟩ (uN ⟨by exact sn, by exact sn⟩ ?_))
   cases dn
   ·exact uF rfl (uN ⟨by exact sn, by exact sn⟩ (uN ⟨by exact sn, by exact sn⟩ rfl))
   ·exact uT rfl rfl
  ·refine uT rfl ?_
   cases dn
   ·exact uF rfl (uN ⟨by exact sn, by exact sn⟩ (uN ⟨by exact sn, by exact sn⟩ rfl))
   ·exact uT rfl rfl
 ·right
  refine uF sd ?_
  have hj : j = tab.length - 1 := zc
  subst hj
  have h3' : dn = aPZ tab := h3
  have h4' : up = aqW tab (tab.length - 1) := h4
  unfold aJU
  dsimp only
  by_cases k3 : kind = 3
  ·obtain ⟨g1, g2⟩ := hl2 k3
   rw [if_pos k3]
   subst k3
   refine uT rfl (uN ⟨by exact sn, by exact sn⟩ ?_)
   have hg : gi l 0 zs = l.getD 0 zs := aaM l 0 zs
   rw [hg]
   by_cases g3 : l.length > 1
   ·have e1 : (!decide (len l > 1)) = false := by rw [zo (by rw [aaC]; omega)]; rfl
    rw [if_pos g3, e1]
    by_cases g4 : (l.getD 0 zs).2.1 < 0
    ·exact uT (zo g4) (uF rfl rfl)
    ·exact uF (zn g4) (uF rfl (uF rfl rfl))
   ·have e1 : (!decide (len l > 1)) = true := by rw [zn (by rw [aaC]; omega)]; rfl
    rw [if_neg g3, e1]
    by_cases g4 : (l.getD 0 zs).2.1 < 0
    ·rw [if_pos g4]; exact uT (zo g4) (uT rfl rfl)
    ·rw [if_neg g4]; exact uF (zn g4) (uT rfl rfl)
  ·rw [if_neg k3]
   have h5 : up = aPr tab := h4'
   refine uF (beq_eq_false_iff_ne.2 k3) ?_
   rw [h3', h5]
   cases aPZ tab
   ·exact uT rfl rfl
   ·refine uF rfl ?_
    cases aPr tab
    ·exact uT rfl rfl
    ·exact uF rfl rfl
set_option maxRecDepth 100000
open Go Go.Vg Go.Proofs
noncomputable section
def aEO : LTab := [(126, 26, 2048, ⟨0, (Int) × Unit, .dat (.s 5) ui <| .nil, [0, 1], [], 0⟩)]
def asO (a : Int) (b : Int) (i : (Int) × Unit) : TT sa :=
 .ite (decide (i.1 ≤ a))
 (.ite (decide (i.1 ≤ b))
 (.need (i.1 ≠ 0) <| .ite (Int.tmod a i.1 == 0)
 (.need (i.1 ≠ 0) <| .ite (Int.tmod b i.1 == 0)
 (.ok (.inr ((true, ()))))
 (.tt <| .lt (w64 (i.1 + 1) : Int) fun z => .vQ (vT z a b) <| .tr <| .ok (.inl ((z, ())))))
 (.tt <| .lt (w64 (i.1 + 1) : Int) fun z1 => .vQ (vT z1 a b) <| .tr <| .ok (.inl ((z1, ())))))
 (.ok (.inr ((false, ())))))
 (.ok (.inr ((false, ()))))
def anR (a : Int) (b : Int) : TT uG :=
 .loop 0 (.tt <| .vQ (vT (2 : Int) a b) <| .tr <| .ok ((2, ()))) (asO a b)
end
theorem aAS (a b : Int) (y) (h : abL (a, b, ()) = some y) : (anR a b).toO = some y := by
 unfold abL at h
 split at h
 case isFalse => cases h
 case isTrue hp =>
 injection h with h
 subst h
 obtain ⟨⟨a1, a2⟩, b1, b2⟩ := hp
 dsimp only at a1 a2 b1 b2 ⊢
 obtain ⟨m, rfl⟩ := zv (show 0 ≤ a by omega)
 obtain ⟨n, rfl⟩ := zv (show 0 ≤ b by omega)
 unfold anR
 refine uO (2, ()) rfl ?_
 refine aaN (fun i : Int × Unit => ∃ k : Nat, 2 ≤ k ∧ k ≤ 50 ∧ i.1 = (k : Int) ∧ ∀ j, 2 ≤ j → j < k → ¬ (j ∣ m ∧ j ∣ n)) (fun i => ((60 : Int) - i.1).toNat) (fun _ => (!decide (Nat.gcd (m : Int).natAbs (n : Int).natAbs = 1), ())) ?_ _ ⟨2, by omega, by omega, rfl, fun j h1 h2 => by omega⟩
 rintro ⟨i, u⟩ ⟨k, h1, h1', h2, h3⟩
 dsimp only at h2
 subst h2
 simp only [asO, zN]
 have hstop : ¬ (k ≤ m ∧ k ≤ n) → (!decide (Nat.gcd m n = 1)) = false := by
  intro hk
  refine (fun hg : Nat.gcd m n = 1 => by rw [zo hg]; rfl) ?_
  have g1 : 0 < Nat.gcd m n := Nat.gcd_pos_of_pos_left _ zc
  have g2 := xI m n
  have g3 := xE m n
  have g4 := Nat.le_of_dvd zc g2
  have g5 := Nat.le_of_dvd zc g3
  rcases zr 1 (Nat.gcd m n) with g6 | g6
  ·exact absurd ⟨g2, g3⟩ (h3 _ zc zc)
  ·omega
 have hdiv : ∀ z : Nat, ((Int.tmod (z : Int) (k : Int)) == 0) = decide (k ∣ z) := by
  intro z
  rw [← Int.ofNat_tmod]
  by_cases c : k ∣ z
  ·rw [zo c, Nat.mod_eq_zero_of_dvd c]; rfl
  ·rw [zn c, beq_eq_false_iff_ne]
   intro h
   exact c (Nat.dvd_of_mod_eq_zero zc)
 by_cases c1 : k ≤ m
 ·by_cases c2 : k ≤ n
  ·by_cases d1 : k ∣ m
   ·by_cases d2 : k ∣ n
    ·right
     rw [zn (fun h : Nat.gcd m n = 1 => by have := Nat.dvd_gcd d1 d2; rw [h] at this; have := Nat.le_of_dvd zc this; omega)]
     exact uT sd (uT sd (uN zc (uT (by rw [hdiv]; exact zo d1) (uN zc (uT (by rw [hdiv]; exact zo d2) rfl)))))
    ·left
     refine ⟨(((k + 1 : Nat) : Int), ()), ?_, ⟨k + 1, by omega, by omega, rfl, fun j j1 j2 => ?_⟩, by dsimp only; omega, ze⟩
     ·refine uT sd (uT sd (uN zc (uT (by rw [hdiv]; exact zo d1) (uN zc (uF (by rw [hdiv]; exact zn d2) ?_)))))
      rw [aaA (x := (k : Int) + 1) zc]; rfl
     ·rcases zr j k with hj | hj
      ·exact h3 j j1 hj
      ·obtain rfl : j = k := zc
       exact fun h => d2 h.2
   ·left
    refine ⟨(((k + 1 : Nat) : Int), ()), ?_, ⟨k + 1, by omega, by omega, rfl, fun j j1 j2 => ?_⟩, by dsimp only; omega, ze⟩
    ·refine uT sd (uT sd (uN zc (uF (by rw [hdiv]; exact zn d1) ?_)))
     rw [aaA (x := (k : Int) + 1) zc]; rfl
    ·rcases zr j k with hj | hj
     ·exact h3 j j1 hj
     ·obtain rfl : j = k := zc
      exact fun h => d1 h.1
  ·right
   rw [hstop (fun h => c2 h.2)]
   exact uT sd (uF sd rfl)
 ·right
  rw [hstop (fun h => c1 h.1)]
  exact uF sd rfl
theorem aQk {n : Int} {d : Nat} (hn : abD n) (hd : d ≠ 0) (h2 : d ≤ 9223372036854775807) : aQj (n, (d : Int), ()) = some (fx (mkRat n d), ()) := afH hn hd h2
set_option maxRecDepth 100000
open Go Go.Vg Go.Proofs
noncomputable section
def aMe : LTab := []
def awJ (p : uh × Int × Bool × Unit) (x : List UInt8 × List UInt8 × Unit) : TT uD :=
 .call (aaF (p.1.2.1, ())) adU fun y =>
 .call (ac9 (y.1, (x.1, x.2.1, ()), ())) aeQ fun y1 =>
 .ite (y1.2.1 != 0)
 (.ok (((#[].toList, #[].toList, ()), y1.2.1, ())))
 (.call (aaF (p.1.2.2.1, ())) adU fun y2 =>
 .call (adQ ((y1.1.1, y1.1.2.1, ()), y2.1, ())) aeQ fun y3 =>
 .ite (y3.2.1 != 0)
 (.ok (((#[].toList, #[].toList, ()), y3.2.1, ())))
 (.call (aaF (1000000, ())) adU fun y4 =>
 .call (afG ((y3.1.1, y3.1.2.1, ()), y4.1, ())) aeQ fun y5 =>
 .ok (((y5.1.1, y5.1.2.1, ()), y5.2.1, ()))))
def aBN : LTab := []
def apS (c : uk × Unit) (x : List UInt8 × List UInt8 × Unit) : TT uD :=
 .ok (((x.1, x.2.1, ()), 0, ()))
def aDW : LTab := [(47, 27, 5120, ⟨0, (Int) × (Int) × (Int) × (Int) × (Int) × (Int) × (Int) × (Bool) × Unit, .dat (.c 4 0) ui <| .dat (.c 4 1) ui <| .dat (.c 4 2) ui <| .dat (.c 4 3) ui <| .dat (.c 4 4) ui <| .dat (.c 4 5) ui <| .dat (.c 4 6) ui <| .dat (.c 4 7) tQ <| .nil, [6, 5, 4, 3], [4, 2, 1, 0], 0⟩), (128, 14, 17408, ⟨1, (Int) × (Int) × (Int) × (Int) × (Int) × (Int) × (Int) × (Int) × (Int) × (Bool) × Unit, .dat (.s 9) ui <| .dat (.s 3) ui <| .dat (.c 4 0) ui <| .dat (.c 4 1) ui <| .dat (.c 4 2) ui <| .dat (.c 4 3) ui <| .dat (.c 4 4) ui <| .dat (.c 4 5) ui <| .dat (.c 4 6) ui <| .dat (.c 4 7) tQ <| .nil, [8, 7, 0], [11, 7, 4, 2, 1, 0], 0⟩), (47, 447, 19456, ⟨2, (List UInt8) × (List UInt8) × Unit, .dat (.c 15 0) (Ty.str) <| .dat (.c 15 1) (Ty.str) <| .nil, [10, 6, 5, 4], [15, 4, 2, 1, 0], 0⟩), (47, 28666, 28672, ⟨3, (Int) × (List UInt8) × (List UInt8) × Unit, .dat (.s 62) ui <| .dat (.c 20 0) (Ty.str) <| .dat (.c 20 1) (Ty.str) <| .nil, [61, 15, 14, 6, 4], [20, 15, 4, 2, 1, 0], 0⟩)]
def apV (c : uk × Unit) (x : List UInt8 × List UInt8 × Unit) (i : (Int) × (Int) × (Int) × (Int) × (Int) × (Int) × (Int) × (Int) × (Int) × (Bool) × Unit) : TT (((Int) × (Int) × (Int) × (Int) × (Int) × (Int) × (Int) × (Int) × (Int) × (Bool) × Unit) ⊕ (((Int) × (Int) × (Int) × (Int) × (Int) × (Int) × (Int) × (Bool) × Unit) ⊕ uD)) :=
 .ite (decide (i.1 < len c.1.2.2.1))
 (.need (inb i.1 (len c.1.2.2.1)) <| .call (abZ ((gi c.1.2.2.1 i.1 (0, 0, 0, 0, 0, 0, ())).1, 1000000, ())) adU fun y =>
 .call (ahS ((x.1, x.2.1, ()), y.1, ())) aEl fun y1 =>
 .ite (decide (y1.1 ≤ 0))
 (.tt <| .lt ((gi c.1.2.2.1 i.1 (0, 0, 0, 0, 0, 0, ())).1 : Int) fun z => .lt ((gi c.1.2.2.1 i.1 (0, 0, 0, 0, 0, 0, ())).2.1 : Int) fun z1 => .lt ((gi c.1.2.2.1 i.1 (0, 0, 0, 0, 0, 0, ())).2.2.1 : Int) fun z2 => .lt ((gi c.1.2.2.1 i.1 (0, 0, 0, 0, 0, 0, ())).2.2.2.1 : Int) fun z3 => .lt ((gi c.1.2.2.1 i.1 (0, 0, 0, 0, 0, 0, ())).2.2.2.2.1 : Int) fun z4 => .lt ((gi c.1.2.2.1 i.1 (0, 0, 0, 0, 0, 0, ())).2.2.2.2.2.1 : Int) fun z5 => .lt (i.2.1 : Int) fun z6 => .lt (i.1 == 0 : Bool) fun z7 => .vQ (uY ∧ (vR (0 : Int) <| uM ∧ uw ∧ True)) <| .vQ (vP (ua 122 z z1 z2 z3 z4 z5 z6 <| vZ z7) <| vP (vT 36 (#[].toList : List UInt8) (#[].toList : List UInt8)) <| vP (vT 36 x.1 x.2.1) <| vP (vS 96 c.1.1 c.1.2.1 c.1.2.2.1) True) <| .ok (.inr (.inl ((z, z1, z2, z3, z4, z5, z6, z7, ())))))
 (.tt <| .lt (w64 (i.1 + 1) : Int) fun z8 => .lt ((gi c.1.2.2.1 i.1 (0, 0, 0, 0, 0, 0, ())).1 : Int) fun z9 => .lt ((gi c.1.2.2.1 i.1 (0, 0, 0, 0, 0, 0, ())).2.1 : Int) fun z10 => .lt ((gi c.1.2.2.1 i.1 (0, 0, 0, 0, 0, 0, ())).2.2.1 : Int) fun z11 => .lt ((gi c.1.2.2.1 i.1 (0, 0, 0, 0, 0, 0, ())).2.2.2.1 : Int) fun z12 => .lt ((gi c.1.2.2.1 i.1 (0, 0, 0, 0, 0, 0, ())).2.2.2.2.1 : Int) fun z13 => .lt ((gi c.1.2.2.1 i.1 (0, 0, 0, 0, 0, 0, ())).2.2.2.2.2.1 : Int) fun z14 => .lt (i.2.1 : Int) fun z15 => .lt (i.1 == 0 : Bool) fun z16 => .vQ (vY z9 z8 (len c.1.2.2.1) c.1.2.2.1 <| tA ∧ True) <| .vQ (vP (uf (LoopState.ready : LoopState) (none : Option Code) 86 (#[20] : Array Tmp) (am8 (adF Tryz.f47) [1, 0, 1, 1, 0, 1, 0, 0]) (am8 (adF Tryz.f47) [1, 0, 1, 1, 0, 1, 0, 1]) <| (vR (128 : FuncId) <| True ∧ tE ∧ True) ∧ (vR ((c.1.1, c.1.2.1, c.1.2.2.1, ()) : Int × List Int × List uh × Unit) <| un ∧ (uY ∧ (vR (0 : Int) <| uM ∧ uw ∧ un ∧ uc c x)))) <| vP (vS 42 c.1.1 c.1.2.1 c.1.2.2.1) <| vP (ua 122 z9 z10 z11 z12 z13 z14 z15 <| vZ z16) <| vP (vT 36 (#[].toList : List UInt8) (#[].toList : List UInt8)) <| vP (vT 36 x.1 x.2.1) <| vP (vS 96 c.1.1 c.1.2.1 c.1.2.2.1) True) <| .ok (.inl ((z8, z9, z9, z10, z11, z12, z13, z14, z15, z16, ())))))
 (.tt <| .lt (i.2.2.1 : Int) fun z17 => .lt (i.2.2.2.1 : Int) fun z18 => .lt (i.2.2.2.2.1 : Int) fun z19 => .lt (i.2.2.2.2.2.1 : Int) fun z20 => .lt (i.2.2.2.2.2.2.1 : Int) fun z21 => .lt (i.2.2.2.2.2.2.2.1 : Int) fun z22 => .lt (i.2.2.2.2.2.2.2.2.1 : Int) fun z23 => .lt (i.2.2.2.2.2.2.2.2.2.1 : Bool) fun z24 => .vQ (uY ∧ (vR (0 : Int) <| uM ∧ uw ∧ True)) <| .vQ (vP (ua 122 z17 z18 z19 z20 z21 z22 z23 <| vZ z24) <| vP (vT 36 (#[].toList : List UInt8) (#[].toList : List UInt8)) <| vP (vT 36 x.1 x.2.1) <| vP (vS 96 c.1.1 c.1.2.1 c.1.2.2.1) True) <| .ok (.inr (.inl ((z17, z18, z19, z20, z21, z22, z23, z24, ())))))
def akB (c : uk × Unit) (x : List UInt8 × List UInt8 × Unit) (j : Int × Int × Int × Int × Int × Int × Int × Bool × Unit) (y2 : uj × Int × Unit) (j1 : List UInt8 × List UInt8 × Unit) (i1 : (Int) × (List UInt8) × (List UInt8) × Unit) : TT (((Int) × (List UInt8) × (List UInt8) × Unit) ⊕ uD) :=
 .ite (decide (i1.1 < w64 (j.2.2.2.1 - 1)))
 (.tt <| .tt <| .call (ac9 ((i1.2.1, i1.2.2.1, ()), (j1.1, j1.2.1, ()), ())) aeQ fun y5 =>
 .ite (y5.2.1 != 0)
 (.ok (.inr (((#[].toList, #[].toList, ()), y5.2.1, ()))))
 (.tt <| .lt (w64 (i1.1 + 1) : Int) fun z30 => .lt (y5.1.1 : List UInt8) fun z31 => .lt (y5.1.2.1 : List UInt8) fun z32 => .vQ (vX z30 (w64 (j.2.2.2.1 - 1)) <| (vR (103 : FuncId) <| True ∧ (ue 20 0 true) ∧ (ue 15 0 true) ∧ True) ∧ (ue 20 0 true) ∧ uY ∧ uM ∧ True) <| .vQ (vP (vT 36 z31 z32) <| vP (vT 36 j1.1 j1.2.1) <| vP (ua 122 j.1 j.2.1 j.2.2.1 j.2.2.2.1 j.2.2.2.2.1 j.2.2.2.2.2.1 j.2.2.2.2.2.2.1 <| vZ j.2.2.2.2.2.2.2.1) <| vP (vT 36 (#[].toList : List UInt8) (#[].toList : List UInt8)) <| vP (vT 36 x.1 x.2.1) <| vP (vS 96 c.1.1 c.1.2.1 c.1.2.2.1) True) <| .ok (.inl ((z30, z31, z32, ())))))
 (.call (abZ (j.2.2.2.2.2.1, 1000000, ())) adU fun y6 =>
 .call (adQ ((i1.2.1, i1.2.2.1, ()), y6.1, ())) aeQ fun y7 =>
 .ite (y7.2.1 != 0)
 (.ok (.inr (((#[].toList, #[].toList, ()), y7.2.1, ()))))
 (.call (acY ((y7.1.1, y7.1.2.1, ()), ())) adU fun y8 =>
 .ok (.inr (((y8.1.1, y8.1.2.1, ()), 0, ())))))
def apT (c : uk × Unit) (x : List UInt8 × List UInt8 × Unit) (j : Int × Int × Int × Int × Int × Int × Int × Bool × Unit) (y2 : uj × Int × Unit) (j1 : (List UInt8) × (List UInt8) × Unit) : TT uD :=
 .loop 3 (.tt <| .lt (j1.2.1 : List UInt8) fun z29 => .vQ (vX (0 : Int) (w64 (j.2.2.2.1 - 1)) <| (vR (103 : FuncId) <| True ∧ (ue 20 0 true) ∧ (ue 15 0 true) ∧ True) ∧ (ue 20 0 true) ∧ uY ∧ uM ∧ True) <| .vQ (vP (vT 36 j1.1 z29) <| vP (vT 36 j1.1 z29) <| vP (ua 122 j.1 j.2.1 j.2.2.1 j.2.2.2.1 j.2.2.2.2.1 j.2.2.2.2.2.1 j.2.2.2.2.2.2.1 <| vZ j.2.2.2.2.2.2.2.1) <| vP (vT 36 (#[].toList : List UInt8) (#[].toList : List UInt8)) <| vP (vT 36 x.1 x.2.1) <| vP (vS 96 c.1.1 c.1.2.1 c.1.2.2.1) True) <| .ok ((0, j1.1, z29, ()))) (akB c x j y2 j1)
def apU (c : uk × Unit) (x : List UInt8 × List UInt8 × Unit) (j : (Int) × (Int) × (Int) × (Int) × (Int) × (Int) × (Int) × (Bool) × Unit) : TT uD :=
 .ite (j.2.2.2.2.1 != 1)
 (.ok (((#[].toList, #[].toList, ()), 5, ())))
 (.call (ajM (((j.1, j.2.1, j.2.2.1, j.2.2.2.1, j.2.2.2.2.1, j.2.2.2.2.2.1, ()), j.2.2.2.2.2.2.1, j.2.2.2.2.2.2.2.1, ()), (x.1, x.2.1, ()), ())) aeQ fun y2 =>
 .ite (y2.2.1 != 0)
 (.ok (((#[].toList, #[].toList, ()), y2.2.1, ())))
 (.join 2 (ι := (List UInt8) × (List UInt8) × Unit) (.call (aqG ((y2.1.1, y2.1.2.1, ()), ())) aEl fun y3 =>
 .ite (decide (y3.1 < 0))
 (.call (aaF (0, ())) adU fun y4 =>
 .tt <| .lt (y4.1.1 : List UInt8) fun z25 => .lt (y4.1.2.1 : List UInt8) fun z26 => .vQ tO <| .vQ (vP (vT 36 z25 z26) <| vP (ua 122 j.1 j.2.1 j.2.2.1 j.2.2.2.1 j.2.2.2.2.1 j.2.2.2.2.2.1 j.2.2.2.2.2.2.1 <| vZ j.2.2.2.2.2.2.2.1) <| vP (vT 36 (#[].toList : List UInt8) (#[].toList : List UInt8)) <| vP (vT 36 x.1 x.2.1) <| vP (vS 96 c.1.1 c.1.2.1 c.1.2.2.1) True) <| .ok (.inl ((z25, z26, ()))))
 (.tt <| .lt (y2.1.1 : List UInt8) fun z27 => .lt (y2.1.2.1 : List UInt8) fun z28 => .vQ tO <| .vQ (vP (vT 36 z27 z28) <| vP (ua 122 j.1 j.2.1 j.2.2.1 j.2.2.2.1 j.2.2.2.2.1 j.2.2.2.2.2.1 j.2.2.2.2.2.2.1 <| vZ j.2.2.2.2.2.2.2.1) <| vP (vT 36 (#[].toList : List UInt8) (#[].toList : List UInt8)) <| vP (vT 36 x.1 x.2.1) <| vP (vS 96 c.1.1 c.1.2.1 c.1.2.2.1) True) <| .ok (.inl ((z27, z28, ()))))) (apT c x j y2)))
def alJ (c : uk × Unit) (x : List UInt8 × List UInt8 × Unit) : TT uD :=
 .join 0 (ι := (Int) × (Int) × (Int) × (Int) × (Int) × (Int) × (Int) × (Bool) × Unit) (.tt <| .tt <| .tt <| .tt <| .loop 1 (.tt <| .vQ (vY (0 : Int) (0 : Int) (len c.1.2.2.1) c.1.2.2.1 <| tA ∧ True) <| .vQ (vP (uf (LoopState.ready : LoopState) (none : Option Code) 86 (#[20] : Array Tmp) (am8 (adF Tryz.f47) [1, 0, 1, 1, 0, 1, 0, 0]) (am8 (adF Tryz.f47) [1, 0, 1, 1, 0, 1, 0, 1]) <| (vR (128 : FuncId) <| True ∧ tE ∧ True) ∧ (vR ((c.1.1, c.1.2.1, c.1.2.2.1, ()) : Int × List Int × List uh × Unit) <| un ∧ (uY ∧ (vR (0 : Int) <| uM ∧ uw ∧ un ∧ uc c x)))) <| vP (vS 42 c.1.1 c.1.2.1 c.1.2.2.1) <| vP (ua 122 (0 : Int) (0 : Int) (0 : Int) (0 : Int) (0 : Int) (0 : Int) (0 : Int) <| vZ false) <| vP (vT 36 (#[].toList : List UInt8) (#[].toList : List UInt8)) <| vP (vT 36 x.1 x.2.1) <| vP (vS 96 c.1.1 c.1.2.1 c.1.2.2.1) True) <| .ok ((0, 0, 0, 0, 0, 0, 0, 0, 0, false, ()))) (apV c x)) (apU c x)
def aOJ : LTab := []
def aBR (c : Int × List Int × List uh × Unit) (x : List UInt8 × List UInt8 × Unit) : TT uD :=
 .call (agM ((c.1, c.2.1, c.2.2.1, ()), ())) Dd6 fun y =>
 .ite (y.1 != 0)
 (.ok (((#[].toList, #[].toList, ()), y.1, ())))
 (.call (aqI ((x.1, x.2.1, ()), ())) Dd6 fun y1 =>
 .ite (y1.1 != 0)
 (.ok (((#[].toList, #[].toList, ()), y1.1, ())))
 (.need (inb (w64 (c.1 - 1)) (↑3 : Int)) <| .ite (w64 (c.1 - 1) == (↑2 : Int))
 (.call (acY ((x.1, x.2.1, ()), ())) adU fun y2 =>
 .call (aiD (((c.1, c.2.1, c.2.2.1, ()), ()), y2.1, ())) aeQ fun y3 =>
 .ok (((y3.1.1, y3.1.2.1, ()), y3.2.1, ())))
 (.ite (w64 (c.1 - 1) == (↑1 : Int))
 (.call (acY ((x.1, x.2.1, ()), ())) adU fun y4 =>
 .call (af0 (((c.1, c.2.1, c.2.2.1, ()), ()), y4.1, ())) aeQ fun y5 =>
 .ok (((y5.1.1, y5.1.2.1, ()), y5.2.1, ())))
 (.ite (w64 (c.1 - 1) == (↑0 : Int))
 (.call (acY ((x.1, x.2.1, ()), ())) adU fun y6 =>
 .call (agY (((c.1, c.2.1, c.2.2.1, ()), ()), y6.1, ())) aeQ fun y7 =>
 .ok (((y7.1.1, y7.1.2.1, ()), y7.2.1, ())))
 (.bad)))))
end
theorem aGy {q : Rat} (h : ac1 q) : shF (fx q) := by
 obtain ⟨h1, h2⟩ := h
 unfold Fit at h1 h2
 refine ⟨?_, ?_⟩
 ·show (dec q.num).length ≤ 1000000000000
  have := apQ q.num
  omega
 ·show (dec (q.den : Int)).length ≤ 1000000000000
  have := apQ (q.den : Int)
  omega
theorem atY (q : Rat) : wrF q = at1 (ab7 q) := by
 unfold wrF ab7
 by_cases c : ac1 q
 ·rw [if_pos c, if_pos c]; rfl
 ·rw [if_neg c, if_neg c]; rfl
theorem ae0 {q p : Rat} (h : ab7 q = some p) : ac1 p ∧ p = q := by
 unfold ab7 at h
 split at h
 ·injection h with h; subst h; exact ⟨by assumption, rfl⟩
 ·cases h
theorem am7 {p q : Rat} (h1 : ac1 p) (h2 : ac1 q) : ac9 (fx p, fx q, ()) = some (at1 (ab7 (p * q))) := by
 unfold ac9 aKK; dsimp only; rw [afI h1, afI h2, ← atY]
theorem auF {p q : Rat} (h1 : ac1 p) (h2 : ac1 q) : adQ (fx p, fx q, ()) = some (at1 (ab7 (p + q))) := by
 unfold adQ aKK; dsimp only; rw [afI h1, afI h2, ← atY]
theorem aOS {p q : Rat} (h1 : ac1 p) (h2 : ac1 q) : afY (fx p, fx q, ()) = some (at1 (ab7 (p - q))) := by
 unfold afY aKK; dsimp only; rw [afI h1, afI h2, ← atY]
theorem aHp {p q : Rat} (h1 : ac1 p) (h2 : ac1 q) (h3 : q ≠ 0) : afG (fx p, fx q, ()) = some (at1 (ab7 (p / q))) := by
 unfold afG; dsimp only; rw [afI h1, afI h2]; dsimp only; rw [if_neg h3, ← atY]
theorem aMU {p q : Rat} (h1 : ac1 p) (h2 : ac1 q) : aiA (fx p, fx q, ()) = some (at1 (ab7 (p * q))) := by
 unfold aiA; rw [if_pos ⟨aGy h1, aGy h2⟩]; exact am7 h1 h2
theorem aMV {p q : Rat} (h1 : ac1 p) (h2 : ac1 q) : akL (fx p, fx q, ()) = some (at1 (ab7 (p + q))) := by
 unfold akL; rw [if_pos ⟨aGy h1, aGy h2⟩]; exact auF h1 h2
theorem aDb {n : Int} (h : n ≠ 0) : mkRat n 1 ≠ 0 := by
 rw [aeB]; intro e; exact h (Rat.intCast_eq_zero_iff.1 e)
theorem an1 {n a b : Int} (h : inR n a b) (h1 : -9223372036854775808 ≤ a) (h2 : b ≤ 9223372036854775807) : abD n := ⟨by have := h.1; omega, by have := h.2; omega⟩
theorem aFY (p : PcT) (x : FxT) (y) (h : ajM (p, x, ()) = some y) : (awJ p x).toO = some y := by
 obtain ⟨⟨p', q⟩, ⟨hq, hn⟩, hx, rfl⟩ := aaE h
 obtain ⟨rfl, hx2⟩ := Prod.mk.inj hx; obtain ⟨rfl, -⟩ := Prod.mk.inj hx2; dsimp only
 dsimp only at hq hn
 have im := an1 hn.1 zc zc
 have ia := an1 hn.2.1 zc zc
 have i6 : abD 1000000 := ⟨by omega, by omega⟩
 unfold awJ
 unfold aBb
 refine uC _ (ab4 im) (uC _ (am7 (ad0 im) hq) ?_)
 cases h1 : ab7 (mkRat p.1.2.1 1 * q) with
 | none => exact uT rfl rfl
 | some u =>
  have hu := (ae0 h1).1
  refine uF rfl (uC _ (ab4 ia) (uC _ (auF hu (ad0 ia)) ?_))
  simp only [zT]
  cases h2 : ab7 (u + mkRat p.1.2.2.1 1) with
  | none => exact uT rfl rfl
  | some v =>
   have hv := (ae0 h2).1
   exact uF rfl (uC _ (ab4 i6) (uC _ (aHp hv (ad0 i6) (aDb zc)) rfl))
theorem aDA : ac1 0 := by have := ad0 (n := 0) ⟨by omega, by omega⟩; rwa [aeB] at this
theorem aRB : mkRat 0 1 = (0 : Rat) := by rw [aeB]; rfl
theorem aNF {u : Rat} (h : ac1 u) : ac1 (aJE u) := by
 unfold aJE; split
 ·exact aDA
 ·exact h
theorem amP {n : Int} (h : abD n) : ac1 (mkRat n 1000000) := aeN zc (abI h) (abI ⟨by omega, by omega⟩)
theorem asN (u : Rat) : u.num.sign < 0 ↔ u < 0 := by
 have e : u < 0 ↔ u.num < 0 := by rw [← Rat.not_le, ← Rat.num_nonneg]; omega
 rw [e]
 constructor
 ·intro h
  rcases xF u.num 0 with g | g | g
  ·exact g
  ·rw [g] at h; exact absurd h zf
  ·rw [xN g] at h; omega
 ·intro h; rw [xq h]; omega
noncomputable def aQn (off : Int) (y : Rat) : Option Rat := (ab7 (y + mkRat off 1000000)).map acK
theorem anQ : ∀ (l : List afS) (last : Int), ag6 last l → last ≠ 1000000 → ∃ s ∈ l, s.1 = 1000000
 | [], _, h, hn => absurd h hn
 | s :: r, last, h, _ => by
  by_cases c : s.1 = 1000000
  ·exact ⟨s, yc .., c⟩
  ·obtain ⟨t, ht, e⟩ := anQ r s.1 h.2 c
   exact ⟨t, zL _ ht, e⟩
theorem aLg : mkRat 1000000 1000000 = (1 : Rat) := zf
theorem aNH {x : Rat} {l : List afS} (h : aeA l) (hx : x ≤ 1) : afL x l < l.length := by
 obtain ⟨s, hs, e⟩ := anQ l 0 h.2.2 zc
 exact List.findIdx_lt_length_of_exists ⟨s, hs, zo (by rw [e, aLg]; exact hx)⟩
theorem ay2 : ∀ (l : List afS) (last : Int), 0 ≤ last → ag6 last l → ∀ s ∈ l, asX s ∧ inR s.1 0 1000000
 | [], _, _, _, s, hs => by cases hs
 | t :: r, last, h0, h, s, hs => by
  have a := h.1.2.1
  rcases zx.1 hs with e | e
  ·subst e; exact ⟨h.1.1, by omega, h.1.2.2⟩
  ·exact ay2 r t.1 zc h.2 s e
theorem ar3 (c : CvT × Unit) (x : FxT) (j : Int × Int × Int × Int × Int × Int × Int × Bool × Unit) (y2 : FxT × Int × Unit) (u : Rat) (hu : ac1 u) (h1 : inR j.2.2.2.1 1 36) (io : abD j.2.2.2.2.2.1) :
  acX (fun i1 => (akB c x j y2 (fx u) i1).toO) (0, dec u.num, aa2 u.den, ()) = some (at1 ((ae2 u (j.2.2.2.1 - 1).toNat u).bind (aQn j.2.2.2.2.2.1))) := by
 obtain ⟨n, hn⟩ : ∃ n : Nat, j.2.2.2.1 - 1 = (n : Int) := zv (by have := h1.1; omega)
 have hn2 : n ≤ 35 := by have := h1.2; omega
 have hw : w64 (j.2.2.2.1 - 1) = (n : Int) := by rw [aaA zc]; exact hn
 rw [hn, zp]
 refine aaN (fun i : Int × List UInt8 × List UInt8 × Unit => ∃ (k : Nat) (q : Rat), k ≤ n ∧ i = ((k : Int), dec q.num, aa2 q.den, ()) ∧ ac1 q ∧ ae2 u n u = ae2 u (n - k) q) (fun i => ((n : Int) - i.1).toNat) (fun _ => at1 ((ae2 u n u).bind (aQn j.2.2.2.2.2.1))) ?_ _ ⟨0, u, by omega, rfl, hu, rfl⟩
 rintro i ⟨k, q, k1, rfl, hq, k2⟩
 simp only [akB, hw]
 rcases zr k n with hk | hk
 ·obtain ⟨m, hm⟩ : ∃ m, n - k = m + 1 := ⟨n - k - 1, by omega⟩
  rw [hm, show ae2 u (m + 1) q = (ab7 (q * u)).bind (ae2 u m) from rfl] at k2
  cases h2 : ab7 (q * u) with
  | none =>
   right
   rw [h2] at k2
   rw [k2]
   exact uT sd (uC _ (am7 hq hu) (by rw [h2]; exact uT rfl rfl))
  | some w =>
   left
   rw [h2] at k2
   refine ⟨(((k + 1 : Nat) : Int), dec w.num, aa2 w.den, ()), ?_, ⟨k + 1, w, by omega, rfl, (ae0 h2).1, ?_⟩, by dsimp only; omega, ze⟩
   ·refine uT sd (uC _ (am7 hq hu) ?_)
    rw [h2]
    refine uF rfl ?_
    rw [aaA (x := (k : Int) + 1) zc]
    rfl
   ·rw [k2, show n - (k + 1) = m by omega]; rfl
 ·right
  obtain rfl : k = n := zc
  rw [Nat.sub_self, show ae2 u 0 q = some q from rfl] at k2
  rw [k2]
  refine uF sd (uC _ (afH (d := 1000000) io zc zc) (uC _ (auF hq (amP io)) ?_))
  simp only [zT, aQn]
  cases h3 : ab7 (q + mkRat j.2.2.2.2.2.1 1000000) with
  | none => exact uT rfl rfl
  | some w => exact uF rfl (uC _ (agZ (ae0 h3).1) rfl)
theorem arM {l : List afS} {k : Nat} (hk : k < l.length) : l.getD k zs = l[k] := by simp [hk]
theorem aNJ {x : Rat} {l : List afS} {k : Nat} (hk : k < l.length) (h1 : x ≤ mkRat (l.getD k zs).1 1000000) (h2 : ∀ j, j < k → ¬ x ≤ mkRat (l.getD j zs).1 1000000) : afL x l = k := by
 unfold afL
 refine (List.findIdx_eq hk).2 ⟨?_, fun j hj => ?_⟩
 ·rw [arM hk] at h1
  exact zo h1
 ·have := h2 j hj
  rw [arM (show j < l.length by omega)] at this
  exact zn this
theorem aNI {x : Rat} {l : List afS} {k : Nat} (h2 : ∀ j, j < k → ¬ x ≤ mkRat (l.getD j zs).1 1000000) (hp : afL x l < l.length) : k ≤ afL x l := by
 rcases zr (afL x l) k with h | h
 ·refine absurd ?_ (h2 _ h)
  have := List.findIdx_getElem (p := fun s : afS => decide (x ≤ mkRat s.1 1000000)) (xs := l) (w := hp)
  rw [arM hp]
  exact of_decide_eq_true this
 ·exact h
theorem aAM {l : List afS} (h : aeA l) {k : Nat} (hk : k < l.length) : asX (l.getD k zs) ∧ inR (l.getD k zs).1 0 1000000 := by
 refine ay2 l 0 zc h.2.2 _ ?_
 rw [arM hk]
 exact yp hk
theorem axV {p : PcT} {q : Rat} (h1 : ac1 q) (h2 : asX p.1) : ajM (p, fx q, ()) = some (at1 (aBb p.1.2.1 p.1.2.2.1 q)) := aaI (enc := fun p : PcT × Rat => (p.1, fx p.2, ())) (p, q) ⟨h1, h2⟩ (fun b hb => by
 obtain ⟨e1, e2⟩ := Prod.mk.inj hb
 obtain ⟨e2, -⟩ := Prod.mk.inj e2
 exact Prod.ext e1 (avU e2))
theorem aLk {m a : Int} {x u : Rat} (hl : aBb m a x = some u) : ac1 u := by
 unfold aBb at hl
 cases g1 : ab7 (mkRat m 1 * x) with
 | none => rw [g1] at hl; cases hl
 | some w =>
  rw [g1] at hl; simp only [zT] at hl
  cases g2 : ab7 (w + mkRat a 1) with
  | none => rw [g2] at hl; cases hl
  | some v => rw [g2] at hl; exact (ae0 hl).1
theorem aKG (p q : Rat) : axZ p q ≤ 0 ↔ p ≤ q := by
 have := aA3 p q
 constructor
 ·intro h; exact wh.1 (fun g => by have := this.2 g; omega)
 ·intro h
  rcases zQ 0 (axZ p q) with g | g
  ·exact absurd (this.1 g) (wh.2 h)
  ·exact g
theorem ayL (c : CvT × Unit) (x : FxT) (y) (h : aiD (c, x, ()) = some y) : (alJ c x).toO = some y := by
 obtain ⟨⟨c', q⟩, ⟨hq, hx1, hl⟩, hx, rfl⟩ := aaE h
 obtain ⟨rfl, hx2⟩ := Prod.mk.inj hx; obtain ⟨rfl, -⟩ := Prod.mk.inj hx2; dsimp only
 dsimp only at hq hx1 hl
 have hlen := hl.2.1
 have hp := aNH hl hx1
 obtain ⟨kind, tab, l, u0⟩ := c'
 dsimp only at hl hlen hp
 unfold alJ
 dsimp only
 have hsg := aAM hl hp
 refine uL ((l.getD (afL q l) zs).1, (l.getD (afL q l) zs).2.1, (l.getD (afL q l) zs).2.2.1, (l.getD (afL q l) zs).2.2.2.1, (l.getD (afL q l) zs).2.2.2.2.1, (l.getD (afL q l) zs).2.2.2.2.2.1, ab8 l (afL q l), (afL q l : Int) == 0, ()) ?_ ?_
 ·refine uO (0, 0, 0, 0, 0, 0, 0, 0, 0, false, ()) rfl ?_
  refine aaN (fun i : Int × Int × Int × Int × Int × Int × Int × Int × Int × Bool × Unit => ∃ k : Nat, k ≤ l.length ∧ i.1 = (k : Int) ∧ i.2.1 = ab8 l k ∧ ∀ j, j < k → ¬ q ≤ mkRat (l.getD j zs).1 1000000) (fun i => ((l.length : Int) - i.1).toNat) (fun _ => Sum.inl ((l.getD (afL q l) zs).1, (l.getD (afL q l) zs).2.1, (l.getD (afL q l) zs).2.2.1, (l.getD (afL q l) zs).2.2.2.1, (l.getD (afL q l) zs).2.2.2.2.1, (l.getD (afL q l) zs).2.2.2.2.2.1, ab8 l (afL q l), (afL q l : Int) == 0, ())) ?_ _ ⟨0, by omega, rfl, rfl, fun j hj => by omega⟩
  rintro ⟨i, last, r⟩ ⟨k, h3, h5, h6, h4⟩
  dsimp only at h5 h6
  subst h5
  simp only [apV, aaM]
  have hk := aNI h4 hp
  have hk' : k < l.length := zc
  have hi := an1 (aAM hl hk').2 zc zc
  by_cases g : q ≤ mkRat (l.getD k zs).1 1000000
  ·right
   rw [aNJ hk' g h4, ← h6]
   exact uT sd (uN sd (uC _ (afH (d := 1000000) hi zc zc) (uC _ (aB7 hq (amP hi)) (uT (zo ((aKG _ _).2 g)) rfl))))
  ·left
   refine ⟨(((k + 1 : Nat) : Int), (l.getD k zs).1, (l.getD k zs).1, (l.getD k zs).2.1, (l.getD k zs).2.2.1, (l.getD k zs).2.2.2.1, (l.getD k zs).2.2.2.2.1, (l.getD k zs).2.2.2.2.2.1, last, (k : Int) == 0, ()), ?_, ⟨k + 1, by omega, rfl, ?_, fun j hj => ?_⟩, by dsimp only; omega, ze⟩
   ·refine uT sd (uN sd (uC _ (afH (d := 1000000) hi zc zc) (uC _ (aB7 hq (amP hi)) (uF (zn (fun h => g ((aKG _ _).1 h))) ?_))))
    rw [aaA (x := (k : Int) + 1) zc]; rfl
   ·unfold ab8; rw [if_neg zc, xv]
   ·rcases zr j k with g2 | g2
    ·exact h4 j g2
    ·obtain rfl : j = k := zc
     exact g
 ·unfold ayH
  generalize l.getD (afL q l) zs = s at hsg ⊢
  obtain ⟨hn, hr⟩ := hsg
  have io := an1 hn.2.2.1 zc zc
  unfold apU
  dsimp only
  by_cases hd : s.2.2.2.2.1 = 1
  ·rw [if_pos hd]
   refine uF (by rw [hd]; rfl) (uC _ (axV hq hn) ?_)
   dsimp only
   unfold aID
   cases hl : aBb s.2.1 s.2.2.1 q with
   | none => exact uT rfl rfl
   | some u =>
    have hu := aLk hl
    refine uF rfl ?_
    have hp := aNF hu
    refine uL (fx (aJE u)) ?_ ?_
    ·refine uC (u.num.sign, 0, ()) (by unfold aqG; dsimp only [at1]; rw [afI hu]) ?_
     unfold aJE
     by_cases c : u < 0
     ·rw [if_pos c]
      exact uT (zo ((asN u).2 c)) (uC _ (ab4 ⟨by omega, by omega⟩) (by rw [aRB]; rfl))
     ·rw [if_neg c]
      exact uF (zn (fun h => c ((asN u).1 h))) rfl
    ·simp only [zT]
     unfold apT
     exact uO (0, dec (aJE u).num, aa2 (aJE u).den, ()) rfl (ar3 _ _ _ _ _ hp hn.2.2.2.1 io)
  ·rw [if_neg hd]
   exact uT (by simpa using hd) rfl
theorem aI0 {q : Rat} (h : ac1 q) : ac1 (acK q) := by
 have e1 : mkRat 1 1 = (1 : Rat) := by rw [aeB]; rfl
 unfold acK
 split
 ·exact aDA
 ·split
  ·rw [← e1]; exact ad0 ⟨by omega, by omega⟩
  ·exact h
theorem aMn (q : Rat) : acK q ≤ 1 := by
 unfold acK
 split
 ·decide
 ·split
  ·exact Rat.le_refl
  ·rename_i h; exact wh.1 h
theorem aBM (q : Rat) : 0 ≤ acK q := by
 unfold acK
 split
 ·exact Rat.le_refl
 ·split
  ·decide
  ·rename_i h _; exact wh.1 h
theorem aFU {p q : CvT × Rat} (hb : ((p.1, ()), fx p.2, ()) = ((q.1, ()), fx q.2, ())) : p = q := by
 obtain ⟨e1, e2⟩ := Prod.mk.inj hb
 obtain ⟨e2, -⟩ := Prod.mk.inj e2
 exact Prod.ext (Prod.mk.inj e1).1 (avU e2)
theorem aEj {c : CvT} {q : Rat} (h1 : ac1 q) (h2 : q ≤ 1) (h3 : aeA c.2.2.1) : aiD ((c, ()), fx q, ()) = some (ayH c.2.2.1 q) := aaI (enc := fun p : CvT × Rat => ((p.1, ()), fx p.2, ())) (c, q) ⟨h1, h2, h3⟩ (fun b hb => aFU hb)
theorem aAt {c : CvT} {q : Rat} (h1 : ac1 q) (h0 : 0 ≤ q) (h2 : q ≤ 1) (h3 : adX c.2.1) : af0 ((c, ()), fx q, ()) = some (at1 (aJC c.2.1 q)) := aaI (enc := fun p : CvT × Rat => ((p.1, ()), fx p.2, ())) (c, q) ⟨h1, h0, h2, h3⟩ (fun b hb => aFU hb)
theorem aB8 {c : CvT} {q : Rat} (h1 : ac1 q) : agY ((c, ()), fx q, ()) = some (fx q, 0, ()) := aaI (enc := fun p : CvT × Rat => ((p.1, ()), fx p.2, ())) (c, q) h1 (fun b hb => aFU hb)
theorem awU (c : CvT × Unit) (x : FxT) (y) (h : agY (c, x, ()) = some y) : (apS c x).toO = some y := by
 obtain ⟨⟨c', q⟩, hq, hx, rfl⟩ := aaE h
 obtain ⟨rfl, hx2⟩ := Prod.mk.inj hx; obtain ⟨rfl, -⟩ := Prod.mk.inj hx2; dsimp only
 rfl
theorem aI9 (c : CvT) (x : FxT) (y) (h : abG (c, x, ()) = some y) : (aBR c x).toO = some y := by
 injection h with h
 subst h
 obtain ⟨kind, tab, l, u0⟩ := c
 unfold aBR
 dsimp only
 refine uC _ (axW (kind, tab, l, ())) ?_
 by_cases hr : acJ (kind, tab, l, ())
 case neg =>
  have hr' : ¬ acJ (kind, tab, l, u0) := hr
  rw [if_neg hr', if_neg hr]
  exact uT rfl rfl
 have hr' : acJ (kind, tab, l, u0) := hr
 rw [if_pos hr', if_pos hr]
 refine uF rfl (uC (if (rdF x).isSome then 0 else 20, ()) rfl ?_)
 cases hx : rdF x with
 | none => exact uT rfl rfl
 | some q =>
  obtain ⟨hq, rfl⟩ := agR hx
  refine uF rfl ?_
  have hc := aI0 hq
  have hl := aMn q
  have h0 := aBM q
  unfold arW
  dsimp only
  rcases hr with ⟨k1, k2, k3⟩ | ⟨k1, k2, k3⟩ | ⟨k1, k2, k3⟩
  ·dsimp only at k1; subst k1
   refine uN ⟨by decide, by decide⟩ (uF rfl (uF rfl (uT rfl (uC _ (agZ hq) (uC _ (aB8 hc) ?_)))))
   rfl
  ·dsimp only at k1; subst k1
   refine uN ⟨by decide, by decide⟩ (uF rfl (uT rfl (uC _ (agZ hq) (uC _ (aAt (c := (2, tab, l, ())) hc h0 hl k2) ?_))))
   rfl
  ·dsimp only at k1; subst k1
   refine uN ⟨by decide, by decide⟩ (uT rfl (uC _ (agZ hq) (uC _ (aEj (c := (3, tab, l, ())) hc hl k3) ?_)))
   rfl
set_option maxRecDepth 100000
open Go Go.Vg Go.Proofs
noncomputable section
def aOI : LTab := [(120, 58, 11264, ⟨0, (Int) × (Int) × (Int) × (Int) × Unit, .dat (.s 14) ui <| .dat (.s 5) ui <| .dat (.c 5 0) ui <| .dat (.c 5 1) ui <| .nil, [13, 12, 4, 2], [5, 0], 0⟩)]
def aDY (bands : List um) (i : (Int) × (Int) × (Int) × (Int) × Unit) : TT (((Int) × (Int) × (Int) × (Int) × Unit) ⊕ uy) :=
 .ite (decide (i.1 < len (List.take (List.length bands - Int.toNat 1) (List.drop (Int.toNat 1) bands))))
 (.need (inb i.1 (len (List.take (List.length bands - Int.toNat 1) (List.drop (Int.toNat 1) bands)))) <| .call (aqJ ((i.2.2.1, i.2.2.2.1, ()), ((gi (List.take (List.length bands - Int.toNat 1) (List.drop (Int.toNat 1) bands)) i.1 (0, 0, ())).1, (gi (List.take (List.length bands - Int.toNat 1) (List.drop (Int.toNat 1) bands)) i.1 (0, 0, ())).2.1, ()), ())) atW fun y =>
 .ite (y.2.1 != 0)
 (.ok (.inr (((0, 0, ()), y.2.1, ()))))
 (.tt <| .lt (w64 (i.1 + 1) : Int) fun z2 => .lt (y.2.1 : Int) fun z3 => .lt (y.1.1 : Int) fun z4 => .lt (y.1.2.1 : Int) fun z5 => .vQ (vY z3 z2 (len (List.take (List.length bands - Int.toNat 1) (List.drop (Int.toNat 1) bands)) : Int) (List.take (List.length bands - Int.toNat 1) (List.drop (Int.toNat 1) bands)) <| (ue 5 0 true) ∧ un ∧ True) <| .vQ (vP (vT 53 z4 z5) <| vP uo True) <| .ok (.inl ((z2, z3, z4, z5, ())))))
 (.ok (.inr (((i.2.2.1, i.2.2.2.1, ()), 0, ()))))
def aBP (bands : List um) : TT uy :=
 .need (asT Int 0 ≤ 0 ∧ 0 < len bands) <| .need (asT Int 0 ≤ 1 ∧ 1 ≤ len bands) <| .loop 0 (.tt <| .lt ((gi bands 0 (0, 0, ())).1 : Int) fun z => .lt ((gi bands 0 (0, 0, ())).2.1 : Int) fun z1 => .vQ (vY (0 : Int) (0 : Int) (len (List.take (List.length bands - Int.toNat 1) (List.drop (Int.toNat 1) bands)) : Int) (List.take (List.length bands - Int.toNat 1) (List.drop (Int.toNat 1) bands)) <| (ue 5 0 true) ∧ un ∧ True) <| .vQ (vP (vT 53 z z1) <| vP uo True) <| .ok ((0, 0, z, z1, ()))) (aDY bands)
def aI8 : LTab := [(118, 58, 9216, ⟨0, (Int) × (List um) × Unit, .dat (.s 14) ui <| .row 4 tD <| .nil, [13, 12, 4, 2], [4, 0], 0⟩)]
def awY (values : List uj) (i : (Int) × (List um) × Unit) : TT (((Int) × (List um) × Unit) ⊕ uy) :=
 .ite (decide (i.1 < len values))
 (.need (inb i.1 (len values)) <| .call (af3 (((gi values i.1 ([], [], ())).1, (gi values i.1 ([], [], ())).2.1, ()), ())) atW fun y =>
 .ite (y.2.1 != 0)
 (.ok (.inr (((0, 0, ()), y.2.1, ()))))
 (.need (inb i.1 (↑(Int.toNat (len values)) : Int)) <| .tt <| .lt (w64 (i.1 + 1) : Int) fun z1 => .lt (List.set i.2.1 (0 + Int.toNat i.1) (y.1.1, y.1.2.1, ()) : List um) fun z2 => .vQ (ub z1 (len values) values <| (vV 4 0 (Int.toNat (len values)) true) ∧ un ∧ True) <| .vQ (vP (vU 53 z2) <| vP uo True) <| .ok (.inl ((z1, z2, ())))))
 (.call (aiE (List.take (Int.toNat (len values)) i.2.1, ())) atW fun y1 =>
 .ok (.inr (((y1.1.1, y1.1.2.1, ()), y1.2.1, ()))))
def ar6 (values : List uj) : TT uy :=
 .need (0 ≤ len values ∧ len values ≤ len values ∧ len values * (↑16 : Int) ≤ 140737488355328) <| .loop 0 (.tt <| .lt (List.replicate (Int.toNat (len values)) (0, 0, ()) : List um) fun z => .vQ (ub (0 : Int) (len values) values <| (vV 4 0 (Int.toNat (len values)) true) ∧ un ∧ True) <| .vQ (vP (vU 53 z) <| vP uo True) <| .ok ((0, z, ()))) (awY values)
def aFW : LTab := []
def aoC (p : uh × Int × Bool × Unit) (lo : Int) (hi : Int) : TT uy :=
 .call (abZ (lo, 1000000000000, ())) adU fun y =>
 .call (ajM (((p.1.1, p.1.2.1, p.1.2.2.1, p.1.2.2.2.1, p.1.2.2.2.2.1, p.1.2.2.2.2.2.1, ()), p.2.1, p.2.2.1, ()), y.1, ())) aeQ fun y1 =>
 .ite (y1.2.1 != 0)
 (.ok (((0, 0, ()), y1.2.1, ())))
 (.call (abZ (hi, 1000000000000, ())) adU fun y2 =>
 .call (ajM (((p.1.1, p.1.2.1, p.1.2.2.1, p.1.2.2.2.1, p.1.2.2.2.2.1, p.1.2.2.2.2.2.1, ()), p.2.1, p.2.2.1, ()), y2.1, ())) aeQ fun y3 =>
 .ite (y3.2.1 != 0)
 (.ok (((0, 0, ()), y3.2.1, ())))
 (.call (aeX (List.take 2 [(y1.1.1, y1.1.2.1, ()), (y3.1.1, y3.1.2.1, ())], ())) atW fun y4 =>
 .ite (y4.2.1 != 0)
 (.ok (((0, 0, ()), y4.2.1, ())))
 (.call (axI ((if 0 > y4.1.1 then 0 else y4.1.1, if 0 > y4.1.2.1 then 0 else y4.1.2.1, ()), p.1.2.2.2.1, p.1.2.2.2.2.1, ())) atW fun y5 =>
 .ite (y5.2.1 != 0)
 (.ok (((0, 0, ()), y5.2.1, ())))
 (.call (abZ (p.1.2.2.2.2.2.1, 1000000, ())) adU fun y6 =>
 .call (af3 (y6.1, ())) atW fun y7 =>
 .ite (y7.2.1 != 0)
 (.ok (((0, 0, ()), y7.2.1, ())))
 (.call (aGj ((y5.1.1, y5.1.2.1, ()), (y7.1.1, y7.1.2.1, ()), ())) atW fun y8 =>
 .ite (y8.2.1 != 0)
 (.ok (((0, 0, ()), y8.2.1, ())))
 (.call (ajN ((y8.1.1, y8.1.2.1, ()), 0, 1000000000000, ())) atW fun y9 =>
 .ok (((y9.1.1, y9.1.2.1, ()), y9.2.1, ()))))))))
def ar2 : LTab := []
def ai5 (c : uk × Unit) (x : Int × Int × Unit) : TT uy :=
 .ok (((x.1, x.2.1, ()), 0, ()))
end
theorem agO {l : List Int} (h : adX l) {k : Nat} (hk : k < l.length) : inR (l.getD k 0) 0 65535 := by
 refine h.2.2 _ ?_
 have : l.getD k 0 = l[k] := by simp [hk]
 rw [this]
 exact yp hk
theorem aNO {a b : BdT} (h1 : okB a.1 a.2.1) (h2 : okB b.1 b.2.1) : okB (arL a b).1 (arL a b).2.1 := by
 obtain ⟨a1, a2, u⟩ := a
 obtain ⟨b1, b2, w⟩ := b
 unfold okB arL at *
 dsimp only at *
 omega
theorem aOl {a b : BdT} (h1 : okB a.1 a.2.1) (h2 : okB b.1 b.2.1) : aPU a b = (arL a b, 0, ()) := by
 unfold aPU; rw [if_pos ⟨h1, h2⟩]; rfl
theorem aMZ {a b : BdT} (h1 : okB a.1 a.2.1) (h2 : okB b.1 b.2.1) : aqJ (a, b, ()) = some (arL a b, 0, ()) := by
 unfold aqJ; dsimp only; rw [aOl h1 h2]
theorem aI7 (l : List BdT) (y) (h : aiE (l, ()) = some y) : (aBP l).toO = some y := by
 unfold aiE at h
 split at h
 case isFalse => cases h
 case isTrue hp =>
 injection h with h
 subst h
 obtain ⟨hn, hl, ho⟩ := hp
 dsimp only at hn hl ho ⊢
 cases l with
 | nil => exact absurd rfl hn
 | cons b r =>
  have hr : r.length ≤ 1000000 := by simp only [zI] at hl; omega
  unfold aBP
  refine uN ⟨by decide, by simp only [aaC, zI]; omega⟩ (uN ⟨by decide, by simp only [aaC, zI]; omega⟩ ?_)
  refine uO (0, 0, b.1, b.2.1, ()) rfl ?_
  have hb := ho b (yc ..)
  have htail : List.take ((b :: r).length - Int.toNat 1) (List.drop (Int.toNat 1) (b :: r)) = r := by
   show List.take ((b :: r).length - 1) r = r
   simp
  refine aaN (fun i : Int × Int × Int × Int × Unit => ∃ (k : Nat) (w : BdT), k ≤ r.length ∧ i = ((k : Int), 0, w.1, w.2.1, ()) ∧ okB w.1 w.2.1 ∧ ayD (b :: r) = (r.drop k).foldl arL w) (fun i => ((r.length : Int) - i.1).toNat) (fun _ => (ayD (b :: r), 0, ())) ?_ _ ⟨0, b, by omega, rfl, hb, rfl⟩
  rintro i ⟨k, w, k1, rfl, hw, k2⟩
  simp only [aDY, htail, aaM]
  rcases zr k r.length with hk | hk
  ·have e : r.getD k (0, 0, ()) = r[k] := by simp [hk]
   have ho2 := ho r[k] (zL _ (yp hk))
   left
   refine ⟨(((k + 1 : Nat) : Int), 0, (arL w r[k]).1, (arL w r[k]).2.1, ()), ?_, ⟨k + 1, arL w r[k], by omega, rfl, aNO hw ho2, ?_⟩, by dsimp only; omega, ze⟩
   ·refine uT sd (uN sd (uC (arL w r[k], 0, ()) (by rw [e]; exact aMZ hw ho2) (uF rfl ?_)))
    rw [aaA (x := (k : Int) + 1) zc]
    rfl
   ·rw [k2, yz hk]; rfl
  ·right
   obtain rfl : k = r.length := zc
   rw [List.drop_length] at k2
   refine uF sd ?_
   rw [aaK, k2]; rfl
theorem aNl {q : Rat} (h : (agC q q).2.1 = 0) : okB (agC q q).1.1 (agC q q).1.2.1 := by
 unfold agC mkB at *
 split at h
 ·rename_i c; rw [if_pos c]; exact c
 ·exact absurd h zf
theorem axX {q : Rat} (h : ac1 q) : af3 (fx q, ()) = some (agC q q) := by
 unfold af3; dsimp only; rw [afI h]
theorem aDZ (l : List FxT) (y) (h : aeX (l, ()) = some y) : (ar6 l).toO = some y := by
 obtain ⟨r, ⟨hn, hl, ho⟩, hx, rfl⟩ := aaE h
 obtain ⟨rfl, -⟩ := Prod.mk.inj hx
 have hlen : len (r.map (fun q => fx q)) = (r.length : Int) := by rw [aaC, vE]
 unfold ar6
 simp only [hlen, zp]
 refine uN ⟨by omega, by omega, by omega⟩ (uO (0, List.replicate r.length (0, 0, ()), ()) rfl ?_)
 refine aaN (fun i : Int × List BdT × Unit => ∃ k : Nat, k ≤ r.length ∧ i.1 = (k : Int) ∧ i.2.1.length = r.length ∧ i.2.1.take k = (r.take k).map (fun q => (agC q q).1)) (fun i => ((r.length : Int) - i.1).toNat) (fun _ => (ayD (r.map fun q => (agC q q).1), 0, ())) ?_ _ ⟨0, by omega, rfl, by simp, by simp⟩
 rintro ⟨i, bs, u⟩ ⟨k, k1, k2, k3, k4⟩
 dsimp only at k2 k3 k4
 subst k2
 simp only [awY, hlen, aaM, zp]
 rcases zr k r.length with hk | hk
 ·have e : (r.map (fun q => fx q)).getD k ([], [], ()) = fx r[k] := by simp [hk]
  obtain ⟨f1, f2⟩ := ho r[k] (yp hk)
  left
  refine ⟨(((k + 1 : Nat) : Int), bs.set k (agC r[k] r[k]).1, ()), ?_, ⟨k + 1, by omega, rfl, by simp [k3], ?_⟩, by dsimp only; omega, ze⟩
  ·refine uT sd (uN ⟨by omega, by omega⟩ (uC (agC r[k] r[k]) (by rw [e]; exact axX f1) (uF (by rw [f2]; rfl) (uN ⟨by omega, by omega⟩ ?_))))
   rw [aaA (x := (k : Int) + 1) zc, zu]
   rfl
  ·rw [zW hk, xA, ← k4]
   rw [zW (by rw [xi]; omega), List.take_set_of_le (zq k)]
   simp
 ·right
  obtain rfl : k = r.length := zc
  rw [zt] at k4
  refine uF sd (uC (ayD (r.map fun q => (agC q q).1), 0, ()) ?_ rfl)
  rw [k4]
  unfold aiE
  refine if_pos ⟨by simpa using hn, by simpa using hl, fun b hb => ?_⟩
  obtain ⟨q, hq, rfl⟩ := zK.1 hb
  exact aNl (ho q hq).2
theorem afJ {z : Int} (h1 : -1000000000000000000000000 ≤ z) (h2 : z ≤ 1000000000000000000000000) : Fit z := by
 unfold Fit
 refine zD ((acQ (k := 30) zc).2 ?_) zc
 omega
theorem at6 {m a n : Int} (hm : inR m (-100000000) 100000000) (ha : inR a (-100000000) 100000000) (hn : inU n) : -200000000000000000000 ≤ ae3 m a n ∧ ae3 m a n ≤ 200000000000000000000 := by
 obtain ⟨m1, m2⟩ := hm
 obtain ⟨a1, a2⟩ := ha
 obtain ⟨n1, n2⟩ := hn
 unfold ae3
 have c1 : (m + 100000000) * n ≥ 0 := zZ zc n1
 have c2 : (100000000 - m) * n ≥ 0 := zZ zc n1
 rw [wF] at c1
 rw [vu] at c2
 constructor <;> omega
theorem aGQ : akS = mkRat 1000000000000 1 := by rw [aeB]; rfl
theorem aAC (N : Int) {d : Nat} (hd : d ≠ 0) : agC (mkRat N d) (mkRat N d) = mkB 6 (N * 1000000000000 / d) (-(-(N * 1000000000000) / d)) := by
 unfold agC
 rw [aGQ, yv, xy, Rat.neg_mkRat, amN _ hd, amN _ hd]
theorem ajZ {m a n : Int} (hm : inR m (-100000000) 100000000) (ha : inR a (-100000000) 100000000) (hn : inU n) :
  aBb m a (mkRat n 1000000000000) = some (mkRat (ae3 m a n) 1000000000000000000) ∧ ac1 (mkRat (ae3 m a n) 1000000000000000000) := by
 obtain ⟨b1, b2⟩ := at6 hm ha hn
 have c := at6 hm (a := 0) ⟨by omega, by omega⟩ hn
 obtain ⟨c1, c2⟩ := c
 have e : ae3 m 0 n = m * n := by unfold ae3; omega
 rw [e] at c1 c2
 have f1 : ac1 (mkRat (m * n) 1000000000000) := aeN zc (afJ zc zc) (afJ zc zc)
 have f2 : ac1 (mkRat (ae3 m a n) 1000000000000) := aeN zc (afJ zc zc) (afJ zc zc)
 have f3 : ac1 (mkRat (ae3 m a n) 1000000000000000000) := aeN zc (afJ zc zc) (afJ zc zc)
 refine ⟨?_, f3⟩
 unfold aBb
 rw [yv, Nat.one_mul]
 unfold ab7
 rw [if_pos f1]
 simp only [zT]
 have g2 : mkRat (m * n) 1000000000000 + mkRat a 1 = mkRat (ae3 m a n) 1000000000000 := by
  rw [yS _ _ zc zc]
  unfold ae3
  rw [xy]; simp
 rw [g2, if_pos f2]
 simp only [zT]
 have g3 : mkRat (ae3 m a n) 1000000000000 / mkRat 1000000 1 = mkRat (ae3 m a n) 1000000000000000000 := by
  have hm : mkRat (ae3 m a n) 1000000000000 = mkRat (ae3 m a n) 1000000000000000000 * mkRat 1000000 1 := by
   rw [yv, zX zc zc]; omega
  rw [hm, Rat.div_def, Rat.mul_assoc, Rat.mul_inv_cancel _ (aDb zc), Rat.mul_one]
 rw [g3, if_pos f3]
theorem ayZ {N : Int} (h1 : -200000000000000000000 ≤ N) (h2 : N ≤ 200000000000000000000) : agC (mkRat N 1000000000000000000) (mkRat N 1000000000000000000) = ((N / 1000000, -(-N / 1000000), ()), 0, ()) := by
 rw [aAC _ zc]
 have e1 : N * 1000000000000 / ((1000000000000000000 : Nat) : Int) = N / 1000000 := zc
 have e2 : -(N * 1000000000000) / ((1000000000000000000 : Nat) : Int) = -N / 1000000 := zc
 rw [e1, e2]
 unfold mkB
 rw [if_pos ⟨by omega, by omega, by omega⟩]
theorem aJX {n : Int} (h : inR n (-100000000) 100000000) : agC (mkRat n 1000000) (mkRat n 1000000) = ((n * 1000000, n * 1000000, ()), 0, ()) := by
 obtain ⟨h1, h2⟩ := h
 rw [aAC _ zc]
 have e1 : n * 1000000000000 / ((1000000 : Nat) : Int) = n * 1000000 := zc
 have e2 : -(-(n * 1000000000000) / ((1000000 : Nat) : Int)) = n * 1000000 := zc
 rw [e1, e2]
 unfold mkB
 rw [if_pos ⟨by omega, by omega, by omega⟩]
theorem avT {n : Int} (h : inU n) : abD n := ⟨by have := h.1; omega, by have := h.2; omega⟩
theorem apJ {n : Int} (h : inU n) : ac1 (mkRat n 1000000000000) := aeN zc (abI (avT h)) (abI ⟨by omega, by omega⟩)
theorem aG1 (a : Int) : (if 0 > a then 0 else a) = max a 0 := by split <;> omega
theorem aHg {a b : BdT} (h : (aMK a b).2.1 = 0) : okB (aMK a b).1.1 (aMK a b).1.2.1 := by
 unfold aMK mkB at *
 split
 ·rename_i c
  rw [if_pos c] at h
  split
  ·assumption
  ·rename_i d; rw [if_neg d] at h; exact absurd h zf
 ·rename_i c; rw [if_neg c] at h; exact absurd h zf
theorem awN {b : BdT} (h : okB b.1 b.2.1) : aAd b 0 1000000000000 = (aqS b, 0, ()) := by
 unfold aAd
 rw [if_pos h, if_pos ⟨by omega, by omega, by omega⟩]; rfl
theorem aBH (p : PcT) (lo hi : Int) (y) (h : adR (p, lo, hi, ()) = some y) : (aoC p lo hi).toO = some y := by
 unfold adR at h
 split at h
 case isFalse => cases h
 case isTrue hp =>
 obtain ⟨hn, hlo, hhi⟩ := hp
 dsimp only at hn hlo hhi h
 injection h with h
 subst h
 obtain ⟨l1, f1⟩ := ajZ hn.1 hn.2.1 hlo
 obtain ⟨l2, f2⟩ := ajZ hn.1 hn.2.1 hhi
 obtain ⟨b1, b2⟩ := at6 hn.1 hn.2.1 hlo
 obtain ⟨b3, b4⟩ := at6 hn.1 hn.2.1 hhi
 have io := an1 hn.2.2.1 zc zc
 unfold aoC
 refine uC _ (afH (d := 1000000000000) (avT hlo) zc zc) ?_
 refine uC _ (axV (p := p) (apJ hlo) hn) ?_
 rw [l1]
 refine uF rfl ?_
 refine uC _ (afH (d := 1000000000000) (avT hhi) zc zc) ?_
 refine uC _ (axV (p := p) (apJ hhi) hn) ?_
 rw [l2]
 refine uF rfl ?_
 have t1 := ayZ b1 b2
 have t2 := ayZ b3 b4
 have ha : aeX ([fx (mkRat (ae3 p.1.2.1 p.1.2.2.1 lo) 1000000000000000000), fx (mkRat (ae3 p.1.2.1 p.1.2.2.1 hi) 1000000000000000000)], ()) = some (arL (agC (mkRat (ae3 p.1.2.1 p.1.2.2.1 lo) 1000000000000000000) (mkRat (ae3 p.1.2.1 p.1.2.2.1 lo) 1000000000000000000)).1 (agC (mkRat (ae3 p.1.2.1 p.1.2.2.1 hi) 1000000000000000000) (mkRat (ae3 p.1.2.1 p.1.2.2.1 hi) 1000000000000000000)).1, 0, ()) := by
  refine aaI (enc := fun l : List Rat => (l.map (fun q => fx q), ())) [mkRat (ae3 p.1.2.1 p.1.2.2.1 lo) 1000000000000000000, mkRat (ae3 p.1.2.1 p.1.2.2.1 hi) 1000000000000000000] ⟨by simp, by simp, fun q hq => ?_⟩ (fun b hb => ?_)
  ·rcases zx.1 hq with e | e
   ·subst e; exact ⟨f1, by rw [t1]⟩
   ·rw [yd.1 e]; exact ⟨f2, by rw [t2]⟩
  ·have := (Prod.mk.inj hb).1
   exact List.map_inj_right (fun a b hab => avU hab) |>.1 this
 refine uC _ ha (uF rfl ?_)
 rw [t1, t2]
 simp only [arL]
 refine uC (aJD (ax6 p.1 lo hi) p.1.2.2.2.1 p.1.2.2.2.2.1) (by unfold ax6; rw [← aG1, ← aG1]; rfl) ?_
 unfold ax7
 generalize aJD (ax6 p.1 lo hi) p.1.2.2.2.1 p.1.2.2.2.2.1 = w
 by_cases c1 : w.2.1 = 0
 case neg => rw [if_pos c1]; exact uT (by simpa using c1) rfl
 rw [if_neg (fun h => h c1)]
 refine uF (by simpa using c1) (uC _ (afH (d := 1000000) io zc zc) (uC _ (axX (amP io)) ?_))
 rw [aJX hn.2.2.1]
 refine uF rfl (uC (aMK w.1 (p.1.2.2.2.2.2.1 * 1000000, p.1.2.2.2.2.2.1 * 1000000, ())) rfl ?_)
 have hok := @aHg w.1 (p.1.2.2.2.2.2.1 * 1000000, p.1.2.2.2.2.2.1 * 1000000, ())
 generalize aMK w.1 (p.1.2.2.2.2.2.1 * 1000000, p.1.2.2.2.2.2.1 * 1000000, ()) = z at hok
 by_cases c2 : z.2.1 = 0
 case neg => rw [if_pos c2]; exact uT (by simpa using c2) rfl
 rw [if_neg (fun h => h c2)]
 refine uF (by simpa using c2) (uC (aAd z.1 0 1000000000000) rfl ?_)
 rw [awN (hok c2)]; rfl
set_option maxRecDepth 100000
open Go Go.Vg Go.Proofs
noncomputable section
def atU : LTab := [(128, 14, 17409, ⟨0, (Int) × (Int) × Bool × (List um) × Unit, .dat (.s 9) ui <| .dat (.s 3) ui <| .appN (.c 4 0) 17 53 tD <| .nil, [8, 7, 0], [11, 7, 4, 3, 2, 1, 0], 1⟩)]
def ad9 (x : Int × Int × Unit) (c : uk × Unit) (i : (Int) × (Int) × Bool × (List um) × Unit) : TT tn :=
 .ite (decide (x.1 > w64 ((gi c.1.2.2.1 i.1 (0, 0, 0, 0, 0, 0, ())).1 * 1000000)))
 (.tt <| .lt (w64 (i.1 + 1) : Int) fun z15 => .lt ((gi c.1.2.2.1 i.1 (0, 0, 0, 0, 0, 0, ())).1 : Int) fun z16 => .lt (i.2.2.2.1 : List um) fun z17 => .vQ (vY z16 z15 (len c.1.2.2.1) c.1.2.2.1 <| tA ∧ True) <| .vQ (vP (vU 53 z17) <| vP (uf (LoopState.ready : LoopState) (none : Option Code) 64 (#[13] : Array Tmp) (am8 (adF Tryz.f58) [1, 1, 0, 1, 0, 0]) (am8 (adF Tryz.f58) [1, 1, 0, 1, 0, 1]) <| (vR (128 : FuncId) <| True ∧ tE ∧ True) ∧ (vR ((c.1.1, c.1.2.1, c.1.2.2.1, ()) : Int × List Int × List uh × Unit) <| un ∧ uY ∧ uz ∧ uM ∧ uw ∧ un ∧ uc c x)) <| vP (vS 42 c.1.1 c.1.2.1 c.1.2.2.1) <| vP (vR 169 <| (vV 17 0 (List.length z17) true) ∧ True) <| vP tH <| vP uo <| vP (vT 53 x.1 x.2.1) <| vP (vS 96 c.1.1 c.1.2.1 c.1.2.2.1) True) <| .ok (.inl ((z15, z16, false, z17, ()))))
 (.call (adR ((((gi c.1.2.2.1 i.1 (0, 0, 0, 0, 0, 0, ())).1, (gi c.1.2.2.1 i.1 (0, 0, 0, 0, 0, 0, ())).2.1, (gi c.1.2.2.1 i.1 (0, 0, 0, 0, 0, 0, ())).2.2.1, (gi c.1.2.2.1 i.1 (0, 0, 0, 0, 0, 0, ())).2.2.2.1, (gi c.1.2.2.1 i.1 (0, 0, 0, 0, 0, 0, ())).2.2.2.2.1, (gi c.1.2.2.1 i.1 (0, 0, 0, 0, 0, 0, ())).2.2.2.2.2.1, ()), i.2.1, i.1 == 0, ()), if w64 (i.2.1 * 1000000) > x.1 then w64 (i.2.1 * 1000000) else x.1, if w64 ((gi c.1.2.2.1 i.1 (0, 0, 0, 0, 0, 0, ())).1 * 1000000) < x.2.1 then w64 ((gi c.1.2.2.1 i.1 (0, 0, 0, 0, 0, 0, ())).1 * 1000000) else x.2.1, ())) atW fun y3 =>
 .ite (y3.2.1 != 0)
 (.ok (.inr (((0, 0, ()), y3.2.1, ()))))
 (.need ((List.length i.2.2.2.1 + 1) * 16 ≤ 140737488355328) <| .tt <| .lt (w64 (i.1 + 1) : Int) fun z18 => .lt ((gi c.1.2.2.1 i.1 (0, 0, 0, 0, 0, 0, ())).1 : Int) fun z19 => .lt (List.take (List.length i.2.2.2.1) i.2.2.2.1 ++ [(y3.1.1, y3.1.2.1, ())] : List um) fun z20 => .vQ (vY z19 z18 (len c.1.2.2.1) c.1.2.2.1 <| tA ∧ True) <| .need ((((53 : TypeId) = 53) ∧ ((z20 : List um) = z20)) ∧ (true = true) ∧ (((LoopState.ready : LoopState) = LoopState.ready) ∧ (((none : Option Code) = none) ∧ (((64) = (64)) ∧ (((#[13] : Array Tmp) = #[13]) ∧ (((am8 (adF Tryz.f58) [1, 1, 0, 1, 0, 0]) = (am8 (adF Tryz.f58) [1, 1, 0, 1, 0, 0])) ∧ (((am8 (adF Tryz.f58) [1, 1, 0, 1, 0, 1]) = (am8 (adF Tryz.f58) [1, 1, 0, 1, 0, 1])) ∧ ((((128 : FuncId) = 128) ∧ (True ∧ ((((7) = (7)) ∧ (((0) = (0)) ∧ ((true) = (true)))) ∧ True))) ∧ ((((c.1.1, c.1.2.1, c.1.2.2.1, ()) : Int × List Int × List uh × Unit) = (c.1.1, c.1.2.1, c.1.2.2.1, ())) ∧ ((((0) = (0)) ∧ (((0) = (0)) ∧ ((true) = (true)))) ∧ ((((4) = (4)) ∧ (((0) = (0)) ∧ ((true) = (true)))) ∧ ((((3) = (3)) ∧ (((0) = (0)) ∧ ((true) = (true)))) ∧ ((((2) = (2)) ∧ (((0) = (0)) ∧ ((true) = (true)))) ∧ ((((1) = (1)) ∧ (((0) = (0)) ∧ ((true) = (true)))) ∧ ((((0) = (0)) ∧ (((0) = (0)) ∧ ((true) = (true)))) ∧ (((c) = (c)) ∧ (((x) = (x)) ∧ True)))))))))))))))) ∧ (true = true) ∧ (((42 : TypeId) = 42) ∧ (((c.1.1 : Int) = c.1.1) ∧ (((c.1.2.1 : List Int) = c.1.2.1) ∧ (((c.1.2.2.1 : List uh) = c.1.2.2.1) ∧ True)))) ∧ (true = true) ∧ (((169 : TypeId) = 169) ∧ ((((17) = (17)) ∧ (((0) = (0)) ∧ ((List.length i.2.2.2.1 + 1 = List.length z20) ∧ ((true) = (true))))) ∧ True)) ∧ (true = true) ∧ (((48 : TypeId) = 48) ∧ (((0 : Int) = 0) ∧ True)) ∧ (true = true) ∧ (((53 : TypeId) = 53) ∧ (((0 : Int) = 0) ∧ (((0 : Int) = 0) ∧ True))) ∧ (true = true) ∧ (((53 : TypeId) = 53) ∧ (((x.1 : Int) = x.1) ∧ (((x.2.1 : Int) = x.2.1) ∧ True))) ∧ (true = true) ∧ (((96 : TypeId) = 96) ∧ (((c.1.1 : Int) = c.1.1) ∧ (((c.1.2.1 : List Int) = c.1.2.1) ∧ (((c.1.2.2.1 : List uh) = c.1.2.2.1) ∧ True)))) ∧ (true = true) ∧ True) <| .ok (.inl ((z18, z19, false, z20, ())))))
def ad8 (x : Int × Int × Unit) (c : uk × Unit) (i : (Int) × (Int) × Bool × (List um) × Unit) : TT tn :=
 .ite (decide (x.1 > w64 ((gi c.1.2.2.1 i.1 (0, 0, 0, 0, 0, 0, ())).1 * 1000000)))
 (.tt <| .lt (w64 (i.1 + 1) : Int) fun z2 => .lt ((gi c.1.2.2.1 i.1 (0, 0, 0, 0, 0, 0, ())).1 : Int) fun z3 => .vQ (vY z3 z2 (len c.1.2.2.1) c.1.2.2.1 <| tA ∧ True) <| .vQ (vP (uf (LoopState.ready : LoopState) (none : Option Code) 64 (#[13] : Array Tmp) (am8 (adF Tryz.f58) [1, 1, 0, 1, 0, 0]) (am8 (adF Tryz.f58) [1, 1, 0, 1, 0, 1]) <| (vR (128 : FuncId) <| True ∧ tE ∧ True) ∧ (vR ((c.1.1, c.1.2.1, c.1.2.2.1, ()) : Int × List Int × List uh × Unit) <| un ∧ uY ∧ uz ∧ uM ∧ uw ∧ un ∧ uc c x)) <| vP (vS 42 c.1.1 c.1.2.1 c.1.2.2.1) <| vP tZ <| vP tH <| vP uo <| vP (vT 53 x.1 x.2.1) <| vP (vS 96 c.1.1 c.1.2.1 c.1.2.2.1) True) <| .ok (.inl ((z2, z3, true, [], ()))))
 (.call (adR ((((gi c.1.2.2.1 i.1 (0, 0, 0, 0, 0, 0, ())).1, (gi c.1.2.2.1 i.1 (0, 0, 0, 0, 0, 0, ())).2.1, (gi c.1.2.2.1 i.1 (0, 0, 0, 0, 0, 0, ())).2.2.1, (gi c.1.2.2.1 i.1 (0, 0, 0, 0, 0, 0, ())).2.2.2.1, (gi c.1.2.2.1 i.1 (0, 0, 0, 0, 0, 0, ())).2.2.2.2.1, (gi c.1.2.2.1 i.1 (0, 0, 0, 0, 0, 0, ())).2.2.2.2.2.1, ()), i.2.1, i.1 == 0, ()), if w64 (i.2.1 * 1000000) > x.1 then w64 (i.2.1 * 1000000) else x.1, if w64 ((gi c.1.2.2.1 i.1 (0, 0, 0, 0, 0, 0, ())).1 * 1000000) < x.2.1 then w64 ((gi c.1.2.2.1 i.1 (0, 0, 0, 0, 0, 0, ())).1 * 1000000) else x.2.1, ())) atW fun y =>
 .ite (y.2.1 != 0)
 (.ok (.inr (((0, 0, ()), y.2.1, ()))))
 (.need (1 * 16 ≤ 140737488355328) <| .tt <| .lt (w64 (i.1 + 1) : Int) fun z4 => .lt ((gi c.1.2.2.1 i.1 (0, 0, 0, 0, 0, 0, ())).1 : Int) fun z5 => .lt ([(y.1.1, y.1.2.1, ())] : List um) fun z6 => .vQ (vY z5 z4 (len c.1.2.2.1) c.1.2.2.1 <| tA ∧ True) <| .vQ (vP (vU 53 z6) <| vP (uf (LoopState.ready : LoopState) (none : Option Code) 64 (#[13] : Array Tmp) (am8 (adF Tryz.f58) [1, 1, 0, 1, 0, 0]) (am8 (adF Tryz.f58) [1, 1, 0, 1, 0, 1]) <| (vR (128 : FuncId) <| True ∧ tE ∧ True) ∧ (vR ((c.1.1, c.1.2.1, c.1.2.2.1, ()) : Int × List Int × List uh × Unit) <| un ∧ uY ∧ uz ∧ uM ∧ uw ∧ un ∧ uc c x)) <| vP (vS 42 c.1.1 c.1.2.1 c.1.2.2.1) <| vP (vR 169 <| (vV 17 0 1 true) ∧ True) <| vP tH <| vP uo <| vP (vT 53 x.1 x.2.1) <| vP (vS 96 c.1.1 c.1.2.1 c.1.2.2.1) True) <| .ok (.inl ((z4, z5, false, z6, ())))))
def ai6 (c : uk × Unit) (x : Int × Int × Unit) (i : (Int) × (Int) × Bool × (List um) × Unit) : TT tn :=
 .ite (i.2.2.1)
 (.ite (decide (i.1 < len c.1.2.2.1))
  (.need (inb i.1 (len c.1.2.2.1)) <| .ite (!i.1 == 0)
   (.ite (decide (x.2.1 ≤ w64 (i.2.1 * 1000000)))
    (.tt <| .lt (w64 (i.1 + 1) : Int) fun z => .lt ((gi c.1.2.2.1 i.1 (0, 0, 0, 0, 0, 0, ())).1 : Int) fun z1 => .vQ (vY z1 z (len c.1.2.2.1) c.1.2.2.1 <| tA ∧ True) <| .vQ (vP (uf (LoopState.ready : LoopState) (none : Option Code) 64 (#[13] : Array Tmp) (am8 (adF Tryz.f58) [1, 1, 0, 1, 0, 0]) (am8 (adF Tryz.f58) [1, 1, 0, 1, 0, 1]) <| (vR (128 : FuncId) <| True ∧ tE ∧ True) ∧ (vR ((c.1.1, c.1.2.1, c.1.2.2.1, ()) : Int × List Int × List uh × Unit) <| un ∧ uY ∧ uz ∧ uM ∧ uw ∧ un ∧ uc c x)) <| vP (vS 42 c.1.1 c.1.2.1 c.1.2.2.1) <| vP tZ <| vP tH <| vP uo <| vP (vT 53 x.1 x.2.1) <| vP (vS 96 c.1.1 c.1.2.1 c.1.2.2.1) True) <| .ok (.inl ((z, z1, true, [], ()))))
    (ad8 x c i))
   (ad8 x c i))
  (.call (aiE ([], ())) atW fun y2 =>
   .ok (.inr (((y2.1.1, y2.1.2.1, ()), y2.2.1, ())))))
 (.ite (decide (i.1 < len c.1.2.2.1))
  (.need (inb i.1 (len c.1.2.2.1)) <| .ite (!i.1 == 0)
   (.ite (decide (x.2.1 ≤ w64 (i.2.1 * 1000000)))
    (.tt <| .lt (w64 (i.1 + 1) : Int) fun z12 => .lt ((gi c.1.2.2.1 i.1 (0, 0, 0, 0, 0, 0, ())).1 : Int) fun z13 => .lt (i.2.2.2.1 : List um) fun z14 => .vQ (vY z13 z12 (len c.1.2.2.1) c.1.2.2.1 <| tA ∧ True) <| .vQ (vP (vU 53 z14) <| vP (uf (LoopState.ready : LoopState) (none : Option Code) 64 (#[13] : Array Tmp) (am8 (adF Tryz.f58) [1, 1, 0, 1, 0, 0]) (am8 (adF Tryz.f58) [1, 1, 0, 1, 0, 1]) <| (vR (128 : FuncId) <| True ∧ tE ∧ True) ∧ (vR ((c.1.1, c.1.2.1, c.1.2.2.1, ()) : Int × List Int × List uh × Unit) <| un ∧ uY ∧ uz ∧ uM ∧ uw ∧ un ∧ uc c x)) <| vP (vS 42 c.1.1 c.1.2.1 c.1.2.2.1) <| vP (vR 169 <| (vV 17 0 (List.length z14) true) ∧ True) <| vP tH <| vP uo <| vP (vT 53 x.1 x.2.1) <| vP (vS 96 c.1.1 c.1.2.1 c.1.2.2.1) True) <| .ok (.inl ((z12, z13, false, z14, ()))))
    (ad9 x c i))
   (ad9 x c i))
  (.call (aiE (List.take (List.length i.2.2.2.1) i.2.2.2.1, ())) atW fun y5 =>
   .ok (.inr (((y5.1.1, y5.1.2.1, ()), y5.2.1, ())))))
def agP (c : uk × Unit) (x : Int × Int × Unit) : TT uy :=
 .tt <| .tt <| .tt <| .tt <| .loop 0 (.tt <| .vQ (vY (0 : Int) (0 : Int) (len c.1.2.2.1) c.1.2.2.1 <| tA ∧ True) <| .vQ (vP (uf (LoopState.ready : LoopState) (none : Option Code) 64 (#[13] : Array Tmp) (am8 (adF Tryz.f58) [1, 1, 0, 1, 0, 0]) (am8 (adF Tryz.f58) [1, 1, 0, 1, 0, 1]) <| (vR (128 : FuncId) <| True ∧ tE ∧ True) ∧ (vR ((c.1.1, c.1.2.1, c.1.2.2.1, ()) : Int × List Int × List uh × Unit) <| un ∧ uY ∧ uz ∧ uM ∧ uw ∧ un ∧ uc c x)) <| vP (vS 42 c.1.1 c.1.2.1 c.1.2.2.1) <| vP tZ <| vP tH <| vP uo <| vP (vT 53 x.1 x.2.1) <| vP (vS 96 c.1.1 c.1.2.1 c.1.2.2.1) True) <| .ok ((0, 0, true, [], ()))) (ai6 c x)
end
end Go.Vs
