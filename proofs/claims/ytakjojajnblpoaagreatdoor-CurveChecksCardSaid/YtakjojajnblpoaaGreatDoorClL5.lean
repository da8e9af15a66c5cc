/-
  Trees of what the functions compute, and their laws. Own work; no condition.
-/
import Derived.Test.YtakjojajnblpoaaGreatDoorClL4
import Derived.Test.YtakjojajnblpoaaGreatDoorProg
set_option linter.unusedVariables false
set_option linter.unusedSimpArgs false
namespace Go.Vs
open Go Go.Vg
theorem aAv {l : List Int} (h : Dg 10000 l) (k : Nat) : V 10000 (l.drop k) = V 10000 l / 10000 ^ k := by
 have h1 := ab5 10000 l k
 have h2 := ac5 zc h k
 have h3 := aaS zc (ab4 h k)
 rw [h1, vu _ _ (by have := aA7 (show (1 : Int) ≤ 10000 by omega) k; omega), xm h3 h2, wZ]
theorem aFb {R b top first P : Int} (hP : 0 < P) (hb0 : 0 < b) (htop : 10000 ≤ top) (hb1 : top * P ≤ b) (hb2 : b < (top + 1) * P) (hf1 : first * P ≤ R) (hf2 : R < (first + 1) * P) (hR0 : 0 ≤ R) (hR : R < b * 10000) (hf0 : 0 ≤ first) :
  (first / (top + 1)) * b ≤ R ∧ R < (first / top + 1) * b ∧ first / top + 1 ≤ 10001 ∧ 0 ≤ first / (top + 1) ∧ first ≤ 100000000000000 * top := by
 have g1 := yi first (top + 1)
 have g2 := yN first (show top + 1 ≠ 0 by omega)
 have g3 := yi first top
 have g4 := yz first (show 0 < top by omega)
 have g7 := yN first (show top ≠ 0 by omega)
 have g5 := xz hf0 (show 0 ≤ top + 1 by omega)
 have g6 := xz hf0 (show 0 ≤ top by omega)
 generalize first / (top + 1) = L at *
 generalize first / top = H at *
 generalize first % (top + 1) = m1 at *
 generalize first % top = m2 at *
 refine ⟨?_, ?_, ?_, g5, ?_⟩
 ·have a1 : L * b ≤ L * ((top + 1) * P) := zC zc g5
  have a2 : L * ((top + 1) * P) = ((top + 1) * L) * P := by grind
  have a3 : ((top + 1) * L) * P ≤ first * P := zD zc zc
  omega
 ·have a1 : (H + 1) * (top * P) ≤ (H + 1) * b := zC hb1 zc
  have a2 : (H + 1) * (top * P) = (top * H + top) * P := by grind
  have a3 : (first + 1) * P ≤ (top * H + top) * P := zD zc zc
  omega
 ·have a1 : first * P < ((top + 1) * 10000) * P := by
   have : b * 10000 < ((top + 1) * P) * 10000 := zc
   have e : ((top + 1) * P) * 10000 = ((top + 1) * 10000) * P := by grind
   omega
  have a2 : first < (top + 1) * 10000 := yf a1 zc
  have a3 : top * H < top * 10001 := zc
  have := yR a3 zc
  omega
 ·have a1 : first * P < ((top + 1) * 10000) * P := by
   have : b * 10000 < ((top + 1) * P) * 10000 := zc
   have e : ((top + 1) * P) * 10000 = ((top + 1) * 10000) * P := by grind
   omega
  have a2 : first < (top + 1) * 10000 := yf a1 zc
  omega
theorem aCP (m o : List Int) (y) (h : ajD (m, o, ()) = some y) : (aq2 m o).toO = some y := by
 obtain ⟨⟨a, b⟩, hn, hx, rfl⟩ := aaE h
 obtain ⟨rfl, hx2⟩ := Prod.mk.inj hx; obtain ⟨rfl, -⟩ := Prod.mk.inj hx2; dsimp only
 obtain ⟨la, lb, hb0⟩ := hn
 simp only at la lb hb0
 clear h hx hx2
 have hda := adY a
 have hdb := adY b
 have hVa := aiN a
 have hVb := aiN b
 have hbl : 1 ≤ (dig b).length := by
  rcases zF (dig b).length with h5 | h5
  ·exact absurd (dig_nil_iff.1 (zW.1 h5)) hb0
  ·exact h5
 unfold aq2
 by_cases h1 : (dig b).length = 1
 ·-- one digit
  refine uT sd (uN ⟨by simp [asT], by exact sn⟩ ?_)
  have hb1 : b < 10000 := by have := dig_length_le_iff.1 (vz h1); simpa using this
  have hdb1 : dig b = [(b : Int)] := aMi hb0 hb1
  have hg : gi (dig b) 0 0 = (b : Int) := by rw [hdb1]; rfl
  rw [hg]
  refine uC _ (aM7 zc zc hb1) ?_
  have hm := yU a (show 0 < b by omega)
  generalize a % b = r at hm ⊢
  refine uC (dig r, ()) (af4 (anK (show (0 : Int) ≤ (r : Int) by omega) (show (r : Int) < 10000 by omega)) zi (by simp [V])) rfl
 obtain ⟨n, hnl⟩ : ∃ n, (dig b).length = n + 2 := ⟨(dig b).length - 2, by omega⟩
 have w1 : w64 (len (dig b) - 1) = ((n + 1 : Nat) : Int) := by rw [aaB, hnl, aaA zc]; omega
 have w2 : w64 (((n + 1 : Nat) : Int) - 1) = ((n : Nat) : Int) := by rw [aaA zc]; omega
 have bge : 10000 ^ (n + 1) ≤ b := by have := avE (B := 10000) zc hb0; rw [show (atW 10000 b).length = n + 2 from hnl] at this; exact this
 refine uF sd ?_
 simp only [w1]
 by_cases h2 : (dig a).length ≤ n + 1
 ·-- the dividend is shorter
  refine uT sd (uN zc ?_)
  have hab : a < b := yk (dig_length_le_iff.1 h2) bge
  rw [aaH, xb hab, yB hab, dig_zero]
  simp
 have hq : ∃ M, (dig a).length = M + (n + 1) ∧ 0 < M := ⟨(dig a).length - (n + 1), by omega, by omega⟩
 obtain ⟨M, hM, hM0⟩ := hq
 have w3 : w64 (len (dig a) - ((n + 1 : Nat) : Int)) = (M : Int) := by rw [aaB, hM, aaA zc]; omega
 refine uF sd ?_
 simp only [w2, w3]
 refine uN sd (uN sd (uN zc (uN sd ?_)))
 simp only [zp]
 have htk : List.take ((dig a).length - M) ((dig a).drop M) = (dig a).drop M := zu zi
 simp only [htk]
 have htk2 : List.take (0 + ((dig a).drop M).length) (List.take 0 ([] : List Int) ++ (dig a).drop M) = (dig a).drop M := by rw [zv, List.take_zero, yW, zt]
 simp only [htk2]
 refine uN zh ?_
 have w4 : w64 ((M : Int) - 1) = (M : Int) - 1 := aaA zc
 refine uO ((M : Int) - 1, (dig a).drop M, List.replicate M 0, ()) ?_ ?_
 ·repeat refine za ?_
  rw [aaH, w4]
 -- the first two digits of the divisor
 have dB1 := aa2 zc hdb (n + 1)
 have dB0 := aa2 zc hdb n
 have hBtop : 1 ≤ (dig b).getD (n + 1) 0 := by
  have hc := aHm b
  unfold Cn at hc
  rw [yQ, hnl, show n + 2 - 1 = n + 1 by omega, zR zc] at hc
  rw [aiH zc] at *
  rcases zS 0 (dig b)[n + 1] with h | h
  ·exact h
  ·exact absurd (by congr 1; omega) hc
 have htopV : V 10000 ((dig b).drop n) = (dig b).getD (n + 1) 0 * 10000 + (dig b).getD n 0 := by
  have e1 := aaU 10000 (dig b) n
  have e2 := aaU 10000 (dig b) (n + 1)
  have e3 := acT 10000 (l := dig b) (k := n + 1 + 1) zc
  omega
 have htop2 := aAv hdb n
 rw [hVb] at htop2
 have hwtop : w64 (w64 (gi (dig b) ((n + 1 : Nat) : Int) 0 * 10000) + gi (dig b) (n : Int) 0) = (dig b).getD (n + 1) 0 * 10000 + (dig b).getD n 0 := by
  rw [aaM, aaM, aaA (x := (dig b).getD (n + 1) 0 * 10000) zc, aaA zc]
 have hwtop1 : w64 ((dig b).getD (n + 1) 0 * 10000 + (dig b).getD n 0 + 1) = (dig b).getD (n + 1) 0 * 10000 + (dig b).getD n 0 + 1 := aaA zc
 have htop3 : 10000 ≤ (dig b).getD (n + 1) 0 * 10000 + (dig b).getD n 0 ∧ (dig b).getD (n + 1) 0 * 10000 + (dig b).getD n 0 < 100000000 := zc
 rw [← htopV] at htop3
 have hP : (0 : Int) < 10000 ^ n := yE zc
 have hbt1 : V 10000 ((dig b).drop n) * 10000 ^ n ≤ (b : Int) := by
  rw [htop2]; exact Int.ediv_mul_le _ zc
 have hbt2 : (b : Int) < (V 10000 ((dig b).drop n) + 1) * 10000 ^ n := by
  rw [htop2]; exact Int.lt_ediv_add_one_mul_self _ hP
 rw [← htopV] at hwtop hwtop1
 generalize htv : V 10000 ((dig b).drop n) = top at *
 clear htopV htop2 dB1 dB0 hBtop htv
 have hR0 : V 10000 ((dig a).drop M) < (b : Int) := by
  have := aJF zc (acH hda M)
  rw [yy, show (dig a).length - M = n + 1 by omega] at this
  have hb2 : ((10000 ^ (n + 1) : Nat) : Int) ≤ (b : Int) := wD.2 bge
  rw [wx] at hb2
  exact Int.lt_of_lt_of_le this hb2
 have hcR0 : Cn ((dig a).drop M) := by
  have hc := aHm a
  unfold Cn at hc ⊢
  rw [List.getLast?_drop, if_neg zc]
  exact hc
 refine aaL (fun i : Int × List Int × List Int × Unit => ∃ (k : Nat) (R : Nat), k ≤ M ∧ i.1 = (k : Int) - 1 ∧ i.2.1 = dig R ∧ R < b ∧ i.2.2.1.length = M ∧ Dg 10000 i.2.2.1 ∧ V 10000 ((dig a).drop k) = V 10000 (i.2.2.1.drop k) * b + R) (fun i => (i.1 + 1).toNat) (fun _ => (dig (a / b), dig (a % b), ())) ?_ _ ?_
 case refine_2 =>
  obtain ⟨R, hR⟩ := zw (aaS zc (acH hda M))
  refine ⟨M, R, zq _, rfl, aBM (acH hda M) hcR0 hR, by omega, by simp, af5 zc _, ?_⟩
  rw [hR, acT _ zi]; simp
 rintro ⟨i, r, q, u⟩ ⟨k, R, g1, g2, g3, g4, g5, g6, g7⟩
 dsimp only at g2 g3 g5 g6 g7
 subst g2 g3
 cases k with
 | zero =>
  right
  simp only [yM, hVa] at g7
  obtain ⟨v, hv⟩ := zw (aaS zc g6)
  rw [hv] at g7
  have h8 : a = v * b + R := by
   have : (a : Int) = ((v * b + R : Nat) : Int) := by simpa using g7
   exact Int.ofNat.inj this
  have h9 : a / b = v := by rw [h8, xd, wF _ _ zc, xb zc, zv]
  have h10 : a % b = R := by rw [h8, xd, xV, yB zc]
  simp only [anV, w1, w3, zp]
  refine uF sd (uC (dig v, ()) ?_ ?_)
  ·rw [zu zc]
   exact af4 g6 zc hv
  ·rw [aaH, h9, h10]
 | succ j =>
  left
  have e6 : ((j + 1 : Nat) : Int) - 1 = (j : Int) := zc
  rw [e6]
  have da := aa2 zc hda j
  obtain ⟨d, hd⟩ := zw da.1
  have lR : (dig R).length ≤ n + 2 := by rw [← hnl]; exact abZ zc
  -- the next rest
  obtain ⟨R', hR'⟩ : ∃ R', R' = d + 10000 * R := ⟨_, rfl⟩
  have hR'b : R' < b * 10000 := zc
  have hcut : acJ ((dig a).getD j 0 :: dig R, ()) = some (dig R', ()) := by
   rw [hd]
   refine af4 (aCi ⟨by omega, by omega⟩ (adY R)) zh ?_
   simp only [V, aiN, hR']; simp
  have lR' : (dig R').length ≤ n + 3 := by
   rw [dig_length_le_iff]
   have := dig_length_le_iff.1 (vz hnl)
   rw [show n + 3 = (n + 2) + 1 by omega, yA]
   exact yk hR'b (zT _ (vC this))
  have hdR := adY R'
  have hVR := aiN R'
  -- its first three digits
  have hf := aAv hdR n
  rw [hVR] at hf
  have hf1 : V 10000 ((dig R').drop n) * 10000 ^ n ≤ (R' : Int) := by rw [hf]; exact Int.ediv_mul_le _ zc
  have hf2 : (R' : Int) < (V 10000 ((dig R').drop n) + 1) * 10000 ^ n := by rw [hf]; exact Int.lt_ediv_add_one_mul_self _ hP
  have hf0 := aaS zc (acH hdR n)
  obtain ⟨k1, k2, k3, k4, k5⟩ := aFb hP zc htop3.1 hbt1 hbt2 hf1 hf2 zc zc hf0
  have hfirst : acW (fun i1 => (aeC (dig a) (dig b) ((j : Int), dig R, q, ()) (dig R', ()) i1).toO) (((n + 2 : Nat) : Int), 0, ()) = acW (fun i1 => (aeC (dig a) (dig b) ((j : Int), dig R, q, ()) (dig R', ()) i1).toO) ((n : Int) - 1, V 10000 ((dig R').drop n), ()) := by
   have st : ∀ (t : Nat) (v : Int), n ≤ t → t ≤ n + 2 → v = V 10000 ((dig R').drop (t + 1)) → (aeC (dig a) (dig b) ((j : Int), dig R, q, ()) (dig R', ()) ((t : Int), v, ())).toO = some (.inl ((t : Int) - 1, V 10000 ((dig R').drop t), ())) := by
    intro t v ht1 ht2 hv
    have e1 := aaU 10000 (dig R') t
    have e2 := aa2 zc hdR t
    have e3 := aaS zc (acH hdR (t + 1))
    have e4 : V 10000 ((dig R').drop (t + 1)) < 10000 ^ 2 := by
     have := aJF zc (acH hdR (t + 1))
     have h7 : (10000 : Int) ^ ((dig R').drop (t + 1)).length ≤ 10000 ^ 2 := aFd zc (by rw [yy]; omega)
     omega
    subst hv
    simp only [aeC, w1, w2, aaM]
    refine uT sd ?_
    by_cases ct : t < (dig R').length
    ·refine uT sd (uN sd ?_)
     repeat refine za ?_
     rw [aaH, aaA (x := (t : Int) - 1) zc, aaA (x := V 10000 ((dig R').drop (t + 1)) * 10000) zc, aaA zc, e1, Int.add_comm, yI]
    ·refine uF sd ?_
     repeat refine za ?_
     rw [ahA zc] at e1
     rw [aaH, aaA (x := (t : Int) - 1) zc, aaA zc, e1, wZ, yI]
   have s1 := st (n + 2) 0 zc zc (by rw [acT _ zc])
   rw [show (((n + 2 : Nat) : Int)) - 1 = ((n + 1 : Nat) : Int) by omega] at s1
   rw [acL s1]
   have s2 := st (n + 1) _ zc zc rfl
   rw [show (((n + 1 : Nat) : Int)) - 1 = ((n : Nat) : Int) by omega] at s2
   rw [acL s2]
   rw [acL (st n _ zc zc rfl)]
  -- the search
  obtain ⟨Q, hQ⟩ : ∃ Q : Nat, Q = R' / b := ⟨_, rfl⟩
  have hQm := xS R' b
  have hQl := yU R' (show 0 < b by omega)
  rw [← hQ] at hQm
  have hQ4 : Q < 10000 := by
   rw [hQ, yK zc, yJ]; exact hR'b
  have hRQ : (R' : Int) = (Q : Int) * b + ((R' % b : Nat) : Int) := by
   have : (R' : Int) = ((R' % b + b * Q : Nat) : Int) := by rw [hQm]
   rw [this]; simp; rw [yI]; omega
  have res : acW (fun i1 => (aeC (dig a) (dig b) ((j : Int), dig R, q, ()) (dig R', ()) i1).toO) (((n + 2 : Nat) : Int), 0, ()) = some (Sum.inl ((j : Int) - 1, dig (R' % b), q.set j (Q : Int), ())) := by
   rw [hfirst]
   refine ab8 ?_
   simp only [aeC, w1, w2, hwtop, hwtop1]
   refine uF sd (uN zc (uN zc ?_))
   have hd1 : Int.tdiv (V 10000 ((dig R').drop n)) top = V 10000 ((dig R').drop n) / top := zL hf0
   have hd2 : Int.tdiv (V 10000 ((dig R').drop n)) (top + 1) = V 10000 ((dig R').drop n) / (top + 1) := zL hf0
   simp only [hd1, hd2]
   have hn1 := xz hf0 (show 0 ≤ top by omega)
   have hlow : V 10000 ((dig R').drop n) / (top + 1) ≤ Q := by
    have : V 10000 ((dig R').drop n) / (top + 1) * b < ((Q : Int) + 1) * b := by
     rw [wR]; omega
    have := yf this zc
    omega
   have hhigh : (Q : Int) < V 10000 ((dig R').drop n) / top + 1 := by
    have : (Q : Int) * b < (V 10000 ((dig R').drop n) / top + 1) * b := zc
    exact yf this zc
   have wH : w64 (w64 (V 10000 ((dig R').drop n) / top) + 1) = V 10000 ((dig R').drop n) / top + 1 := by
    rw [aaA (x := V 10000 ((dig R').drop n) / top) zc, aaA zc]
   have wL : w64 (V 10000 ((dig R').drop n) / (top + 1)) = V 10000 ((dig R').drop n) / (top + 1) := aaA zc
   simp only [wH, wL]
   generalize V 10000 ((dig R').drop n) / top + 1 = H at *
   generalize V 10000 ((dig R').drop n) / (top + 1) = L at *
   refine uO (H, L, ()) (by repeat refine za ?_; rfl) ?_
   refine aaL (fun i2 : Int × Int × Unit => 0 ≤ i2.2.1 ∧ i2.2.1 ≤ Q ∧ (Q : Int) < i2.1 ∧ i2.1 ≤ 10001) (fun i2 => (i2.1 - i2.2.1).toNat) (fun _ => (.inr (.inl ((j : Int) - 1, dig (R' % b), q.set j (Q : Int), ())) : (Int × Int × Unit) ⊕ ((Int × List Int × List Int × Unit) ⊕ (List Int × List Int × Unit)))) ?_ _ ⟨k4, hlow, hhigh, k3⟩
   rintro ⟨hi, lo, u3⟩ ⟨c1, c2, c3, c4⟩
   dsimp only at c1 c2 c3 c4
   have wd : w64 (hi - lo) = hi - lo := aaA zc
   simp only [au7, wd]
   by_cases hgap : hi - lo > 1
   ·left
    have wm : w64 (Int.tdiv (w64 (lo + hi)) 2) = (lo + hi) / 2 := by
     rw [aaA (x := lo + hi) zc, zL zc, aaA zc]
    simp only [wm]
    obtain ⟨mm, hmm⟩ := zw (show 0 ≤ (lo + hi) / 2 by omega)
    rw [hmm]
    have hmB : mm ≤ 10000 ∧ 1 ≤ mm := zc
    have hprod : acB (dig b, [(mm : Int)], ()) = some (dig (b * mm), ()) := by
     refine atM hdb ?_ zc zi (by rw [hVb]; simp [V])
     by_cases cm : mm = 10000
     ·right; rw [cm]; rfl
     ·left; exact anK zc zc
    have lbm : (dig (b * mm)).length ≤ 1000000000000 := by
     have : (dig (b * mm)).length ≤ (dig b).length + 2 := by
      rw [dig_length_le_iff, xw]
      have q1 := dig_length_le_iff.1 (zq (dig b).length)
      exact Nat.mul_lt_mul'' q1 zc
     omega
    have hcutp : acJ (dig (b * mm), ()) = some (dig (b * mm), ()) := af4 (adY _) lbm (aiN _)
    obtain ⟨o1, o2⟩ := aGY (b * mm) R'
    have hle : aPc (dig (b * mm)) (dig R') ≤ 0 ↔ b * mm ≤ R' := zc
    have hmQ : b * mm ≤ R' ↔ mm ≤ Q := by
     rw [hQ, wG zc, yJ]
    by_cases cm : mm ≤ Q
    ·refine ⟨(hi, (mm : Int), ()), ?_, ⟨by dsimp only; omega, by dsimp only; omega, c3, c4⟩, by dsimp only; omega, ze⟩
     refine uT (zo hgap) (uV ?_)
     refine uC _ hprod (uC _ hcutp (uC _ (asK _ _ (adY _) (adY _) lbm zc) (uT (zo (hle.2 (hmQ.2 cm))) ?_)))
     repeat refine za ?_
     rfl
    ·refine ⟨((mm : Int), lo, ()), ?_, ⟨c1, c2, by dsimp only; omega, by dsimp only; omega⟩, by dsimp only; omega, ze⟩
     refine uT (zo hgap) (uV ?_)
     refine uC _ hprod (uC _ hcutp (uC _ (asK _ _ (adY _) (adY _) lbm zc) (uF (zn (fun h => cm (hmQ.1 (hle.1 h)))) ?_)))
     repeat refine za ?_
     rfl
   ·right
    have hlQ : lo = Q := zc
    subst hlQ
    refine uF (zn hgap) ?_
    simp only [w1, w3, zp]
    refine uN ⟨by omega, by omega⟩ ?_
    have hprod : acB (dig b, [(Q : Int)], ()) = some (dig (b * Q), ()) := atM hdb (Or.inl (anK zc zc)) zc zi (by rw [hVb]; simp [V])
    have hdiff : aa9 (dig R', dig (b * Q), ()) = some (dig (R' % b), ()) := by
     have := al9 (a := dig R') (b := dig (b * Q)) (n := R' % b) (adY _) (adY _) zc (abZ zc) (by rw [aiN, aiN]; omega) (by rw [aiN, aiN]; omega)
     exact this
    refine uC _ hprod (uC _ hdiff ?_)
    repeat refine za ?_
    rw [aaH, aaA (x := (j : Int) - 1) zc, zv]
  refine ⟨((j : Int) - 1, dig (R' % b), q.set j (Q : Int), ()), ?_, ⟨j, R' % b, by omega, rfl, rfl, hQl, by simp; omega, aiB g6 ⟨by omega, by omega⟩ _, ?_⟩, by dsimp only; omega, ze⟩
  ·simp only [anV, aaM, w1]
   have htk3 : List.take (1 + (dig R).length) ([(dig a).getD j 0] ++ dig R) = (dig a).getD j 0 :: dig R := by
    rw [zu zh]; rfl
   simp only [htk3]
   have w5 : w64 (((n + 1 : Nat) : Int) + 1) = ((n + 2 : Nat) : Int) := by rw [aaA zc]; omega
   simp only [w5]
   refine uT sd (uN sd (uN zc (uC _ hcut ?_)))
   refine uO (((n + 2 : Nat) : Int), 0, ()) (by repeat refine za ?_; rfl) ?_
   exact res
  ·dsimp only
   rw [aaU 10000 (dig a) j, hd, g7, aaU 10000 (q.set j _) j, an6 zc, ahD _ zc]
   have : (d : Int) + 10000 * (V 10000 (q.drop (j + 1)) * b + R) = 10000 * (V 10000 (q.drop (j + 1)) * b) + R' := by rw [hR']; simp; grind
   rw [this, hRQ]
   grind
set_option maxRecDepth 100000
open Go Go.Vg Go.Proofs
noncomputable section
def aE4 : LTab := []
def anU (n : Bool × List Int × Unit) (d : Bool × List Int × Unit) : TT ((uo × uo × Unit) × Unit) :=
 .ite (d.1)
 (.call (ajE ((n.1, n.2.1, ()), ())) ayY fun y =>
 .call (ajE ((d.1, d.2.1, ()), ())) ayY fun y1 =>
 .call (agI ((y.1.1, y.1.2.1, ()), (y1.1.1, y1.1.2.1, ()), ())) ayY fun y2 =>
 .call (afR ((y.1.1, y.1.2.1, ()), (y2.1.1, y2.1.2.1, ()), ())) aRs fun y3 =>
 .call (afR ((y1.1.1, y1.1.2.1, ()), (y2.1.1, y2.1.2.1, ()), ())) aRs fun y4 =>
 .ok ((((y3.1.1, y3.1.2.1, ()), (y4.1.1, y4.1.2.1, ()), ()), ())))
 (.call (agI ((n.1, n.2.1, ()), (d.1, d.2.1, ()), ())) ayY fun y5 =>
 .call (afR ((n.1, n.2.1, ()), (y5.1.1, y5.1.2.1, ()), ())) aRs fun y6 =>
 .call (afR ((d.1, d.2.1, ()), (y5.1.1, y5.1.2.1, ()), ())) aRs fun y7 =>
 .ok ((((y6.1.1, y6.1.2.1, ()), (y7.1.1, y7.1.2.1, ()), ()), ())))
def aH7 : LTab := []
def azJ (n : Int) (d : Int) : TT ((uo × uo × Unit) × Unit) :=
 .call (acC (n, ())) ayY fun y =>
 .call (acC (d, ())) ayY fun y1 =>
 .call (akL (y.1, y1.1, ())) aRR fun y2 =>
 .ok ((((y2.1.1.1, y2.1.1.2.1, ()), (y2.1.2.1.1, y2.1.2.1.2.1, ()), ()), ()))
def aNJ : LTab := []
def aGR (r : uo × uo × Unit) : TT ut :=
 .call (ap7 ((r.1.1, r.1.2.1, ()), ())) aGA fun y =>
 .call (ap7 ((r.2.1.1, r.2.1.2.1, ()), ())) aGA fun y1 =>
 .ite (y.2.1 != 0)
 (.ok (((#[].toList, #[].toList, ()), 6, ())))
 (.ite (y1.2.1 != 0)
 (.ok (((#[].toList, #[].toList, ()), 6, ())))
 (.ok (((y.1, y1.1, ()), 0, ()))))
def aPE : LTab := []
def aE3 (n : Int) (d : Int) : TT ut :=
 .ite (d == 0)
 (.ok (((#[].toList, #[].toList, ()), 7, ())))
 (.call (amW (n, d, ())) aRR fun y =>
 .call (auG (y.1, ())) af6 fun y1 =>
 .ok (((y1.1.1, y1.1.2.1, ()), y1.2.1, ())))
end
theorem atE (n d : Int) (hd : d ≠ 0) : ∃ s : Int, s.natAbs = n.natAbs ∧ Rat.divInt n d = mkRat s d.natAbs ∧ s = (if d < 0 then -n else n) := by
 rcases zS d 0 with c | c
 ·refine ⟨-n, by omega, ?_, by rw [if_pos c]⟩
  rw [← Rat.neg_divInt_neg, ← wM]
  congr 1; omega
 ·refine ⟨n, rfl, ?_, by rw [if_neg zc]⟩
  rw [← wM]
  congr 1; omega
theorem aJv {k : Nat} {n d : Int} (hd : d ≠ 0) (h1 : Bd k n.natAbs) (h2 : Bd k d.natAbs) : BdQ k (Rat.divInt n d) := by
 obtain ⟨s, e1, e2, -⟩ := atE n d hd
 obtain ⟨g, t, hg, g0, e0, f1, f2⟩ := aeD s (d := d.natAbs) zc
 rw [e2]
 refine ⟨?_, ?_⟩
 ·rw [f1, ← acS e0 g0, e1]; exact aaR _ h1
 ·rw [f2]; exact aaR _ h2
theorem aGw {n d : Int} (h1 : Bd 6 n.natAbs) (h2 : Bd 6 d.natAbs) (h3 : d ≠ 0) : akL (pl n, pl d, ()) = some (ra (Rat.divInt n d), ()) := aaK (enc := fun x : Int × Int => (pl x.1, pl x.2, ())) (n, d) ⟨h1, h2, h3⟩ (fun b hb => aoW hb)
theorem aFx {s : Int} {d : Nat} (hd : d ≠ 0) (h1 : Bd 6 s.natAbs) (h2 : Bd 6 d) : ∃ g : Nat, g = Nat.gcd s.natAbs d ∧ g ≠ 0 ∧ Bd 6 g ∧ s / (g : Int) = (mkRat s d).num ∧ (d : Int) / (g : Int) = ((mkRat s d).den : Int) := by
 obtain ⟨g, t, hg, g0, e0, f1, f2⟩ := aeD s hd
 refine ⟨g, hg, g0, by rw [hg]; exact aa0 h1 h2, ?_, ?_⟩
 ·rw [f1, e0, Int.mul_ediv_cancel_left _ zc]
 ·rw [f2]; simp
theorem aA4 (x x' : PlT) (y) (h : akL (x, x', ()) = some y) : (anU x x').toO = some y := by
 obtain ⟨⟨n, d⟩, hp, hx, rfl⟩ := aaE h
 obtain ⟨rfl, hx2⟩ := Prod.mk.inj hx; obtain ⟨rfl, -⟩ := Prod.mk.inj hx2; dsimp only
 obtain ⟨l1, l2, l3⟩ := hp
 dsimp only at l1 l2 l3
 obtain ⟨s, e1, e2, e3⟩ := atE n d l3
 obtain ⟨g, hg, g0, bg, q1, q2⟩ := aFx (s := s) (d := d.natAbs) zc (by rw [e1]; exact l1) l2
 rw [e2]
 unfold anU
 dsimp only
 have hgcd : Nat.gcd s.natAbs d.natAbs = g := hg.symm
 have g0' : (g : Int) ≠ 0 := zc
 by_cases c : d < 0
 ·rw [if_pos c] at e3
  subst e3
  refine uT (zo c) ?_
  refine uC _ (axU (aaI l1 zc)) (uC _ (axU (aaI l2 zc)) ?_)
  have hdv := atN (a := -n) (b := -d) (aaV (aaI l1 zc)) (aaV (aaI l2 zc))
  rw [xE d, hgcd] at hdv
  refine uC _ hdv ?_
  refine uC _ (am3 (b := (g : Int)) (aaV l1) bg g0') ?_
  refine uC _ (am3 (b := (g : Int)) (aaV l2) bg g0') ?_
  rw [q1, show -d = (d.natAbs : Int) by omega, q2]; rfl
 ·rw [if_neg c] at e3
  subst e3
  refine uF (zn c) ?_
  have hdv := atN (a := s) (b := d) (aaI l1 zc) (aaI l2 zc)
  rw [hgcd] at hdv
  refine uC _ hdv ?_
  refine uC _ (am3 (b := (g : Int)) l1 bg g0') ?_
  refine uC _ (am3 (b := (g : Int)) l2 bg g0') ?_
  rw [q1, show d = (d.natAbs : Int) by omega, zQ, q2]; rfl
theorem aDz {n : Int} (h : abD n) : Bd 0 n.natAbs := aaG (by have := h.1; have := h.2; omega)
theorem aJI {n d : Int} (h1 : abD n) (h2 : abD d) (h3 : d ≠ 0) : amW (n, d, ()) = some (ra (Rat.divInt n d), ()) := aaK (enc := fun x : Int × Int => (x.1, x.2, ())) (n, d) ⟨h1, h2, h3⟩ (fun b hb => by
 obtain ⟨e1, e2⟩ := Prod.mk.inj hb
 obtain ⟨e2, -⟩ := Prod.mk.inj e2
 exact Prod.ext e1 e2)
theorem aCN (n d : Int) (y) (h : amW (n, d, ()) = some y) : (azJ n d).toO = some y := by
 obtain ⟨⟨n', d'⟩, hp, hx, rfl⟩ := aaE h
 obtain ⟨rfl, hx2⟩ := Prod.mk.inj hx; obtain ⟨rfl, -⟩ := Prod.mk.inj hx2; dsimp only
 obtain ⟨l1, l2, l3⟩ := hp
 exact uC _ (aiA l1) (uC _ (aiA l2) (uC _ (aGw (aaI (aDz l1) zc) (aaI (aDz l2) zc) l3) rfl))
theorem aOZ {q : Rat} (h : BdQ 6 q) : auG (ra q, ()) = some (wrF q) := aaK (enc := fun x : Rat => (ra x, ())) q h (fun b hb => aQQ (Prod.mk.inj hb).1)
theorem aH8 (x : RaT) (y) (h : auG (x, ()) = some y) : (aGR x).toO = some y := by
 obtain ⟨q, hp, hx, rfl⟩ := aaE h
 obtain ⟨rfl, -⟩ := Prod.mk.inj hx
 refine uC _ (aHx hp.1) (uC _ (aHx (z := (q.den : Int)) hp.2) ?_)
 by_cases c1 : Fit q.num
 ·rw [aiC c1]
  by_cases c2 : Fit q.den
  ·rw [aEy ⟨c1, c2⟩, aiC c2]
   refine uF rfl (uF rfl ?_)
   rw [aaH, ae0]
  ·rw [aAE (fun h => c2 h.2), aqQ c2]
   exact uF rfl (uT rfl rfl)
 ·rw [aqQ c1, aAE (fun h => c1 h.1)]
  exact uT rfl rfl
theorem aKA (n d : Int) (y) (h : axM (n, d, ()) = some y) : (aE3 n d).toO = some y := by
 unfold axM al6 at h
 split at h
 case isFalse => cases h
 case isTrue hp =>
 obtain ⟨i1, i2⟩ := hp
 dsimp only at i1 i2 h
 unfold ofQ at h
 unfold aE3
 by_cases c : d = 0
 ·rw [if_pos c] at h
  exact uT (by rw [c]; rfl) h
 ·rw [if_neg c] at h
  refine uF (by simpa using c) (uC _ (aJI i1 i2 c) (uC _ (aOZ (aJv c (aaI (aDz i1) zc) (aaI (aDz i2) zc))) h))
set_option maxRecDepth 100000
open Go Go.Vg Go.Proofs
noncomputable section
def aFM : LTab := [(177, 8186, 49153, ⟨0, (Int) × (List Int) × (List Int) × Unit, .dat (.s 12) vZ <| .row 41 ud <| .row 26 ud <| .nil, [4, 11, 10, 9, 8, 5], [41, 26], 0⟩), (209, 63, 95232, ⟨1, (Int) × Unit, .dat (.s 8) uw <| .nil, [5, 4, 0, 1], [41, 26], 0⟩), (209, 252, 95232, ⟨2, (Int) × (Int) × Unit, .dat (.s 9) uw <| .dat (.s 8) uw <| .nil, [6, 5, 4, 0, 1], [41, 26], 0⟩), (209, 2042, 100352, ⟨3, (Int) × (Int) × (Int) × (List Int) × Unit, .dat (.s 77) vZ <| .dat (.s 11) vZ <| .dat (.s 10) uw <| .row 26 ud <| .nil, [76, 75, 8, 5, 4, 0, 1], [41, 26], 0⟩), (209, 65454, 118784, ⟨4, (Int) × (Int) × (List Int) × Unit, .dat (.s 125) vZ <| .dat (.s 15) ud <| .row 26 ud <| .nil, [124, 123, 8, 5, 4, 0], [41, 26], 0⟩)]
def ahB (i1 : (Int) × (Int) × Unit) (y3 : List Int × Unit) (i : Int × List Int × List Int × Unit) : TT (ur ⊕ (uq ⊕ ui)) :=
 .ite (decide (abN (i1.1 + abN (gi y3.1 (w64 (len y3.1 - 1)) 0)) ≥ 1000000000))
 (.tt <| .lt (abN (i1.2.1 - 1) : Int) fun z5 => .vI (vT z5 (len y3.1) (0 : Int) <| (vN 26 (0 + Int.toNat i.1) (Int.toNat (w64 (w64 (i.1 + len y3.1) + 1)) - Int.toNat i.1) true) ∧ vR y3.1) <| .vI (vH (vM 189 i.2.1) <| vH (vM 189 i.2.2.1) True) <| .ok (.inr (.inl ((z5, ())))))
 (.tt <| .lt (abN (i1.1 + abN (gi y3.1 (w64 (len y3.1 - 1)) 0)) : Int) fun z6 => .lt (abN (i1.2.1 - 1) : Int) fun z7 => .vI (vO z7 z6 (abN (gi y3.1 (w64 (len y3.1 - 1)) 0) : Int) (len y3.1) (0 : Int) <| (vN 26 (0 + Int.toNat i.1) (Int.toNat (w64 (w64 (i.1 + len y3.1) + 1)) - Int.toNat i.1) true) ∧ vR y3.1) <| .vI (vH (vM 189 i.2.1) <| vH (vM 189 i.2.2.1) True) <| .ok (.inl ((z6, z7, ()))))
def agG (m : List Int) (o : List Int) (y : Int × Unit) (y3 : List Int × Unit) (y4 : List Int × Unit) (i : Int × List Int × List Int × Unit) (i1 : (Int) × (Int) × Unit) : TT (ur ⊕ (uq ⊕ ui)) :=
 .ite (decide (i1.2.1 ≥ 1000000000))
 (ahB i1 y3 i)
 (.need (inb (w64 (len y3.1 - 2)) (len y3.1)) <| .need (inb (w64 (len y3.1 - 2)) (↑(Int.toNat (w64 (w64 (i.1 + len y3.1) + 1)) - Int.toNat i.1) : Int)) <| .ite (decide (abN (i1.2.1 * abN (gi y3.1 (w64 (len y3.1 - 2)) 0)) > abN (abN (i1.1 * 1000000000) + abN (List.getD i.2.2.1 (0 + Int.toNat i.1 + Int.toNat (w64 (len y3.1 - 2))) 0))))
  (ahB i1 y3 i)
  (.tt <| .lt (i1.2.1 : Int) fun z11 => .vI (vT z11 (len y3.1) (0 : Int) <| (vN 26 (0 + Int.toNat i.1) (Int.toNat (w64 (w64 (i.1 + len y3.1) + 1)) - Int.toNat i.1) true) ∧ vR y3.1) <| .vI (vH (vM 189 i.2.1) <| vH (vM 189 i.2.2.1) True) <| .ok (.inr (.inl ((z11, ()))))))
def ahV (m : List Int) (o : List Int) (y : Int × Unit) (y3 : List Int × Unit) (y4 : List Int × Unit) (i : Int × List Int × List Int × Unit) (j : Int × Unit) (i2 : Int × Int × Int × List Int × Unit) (i3 : (Int) × (Int) × (List Int) × Unit) : TT (uy ⊕ tJ) :=
 .ite (decide (i3.1 < len y3.1))
 (.need (inb i3.1 (len y3.1)) <| .need (inb i3.1 (↑(Int.toNat (w64 (w64 (i.1 + len y3.1) + 1)) - Int.toNat i.1) : Int)) <| .ite (decide (adT (adT (List.getD i3.2.2.1 (0 + Int.toNat i.1 + Int.toNat i3.1) 0 + gi y3.1 i3.1 0) + i3.2.1) ≥ 1000000000))
 (.need (inb i3.1 (↑(Int.toNat (w64 (w64 (i.1 + len y3.1) + 1)) - Int.toNat i.1) : Int)) <| .tt <| .lt (w64 (i3.1 + 1) : Int) fun z20 => .lt (List.set i3.2.2.1 (0 + Int.toNat i.1 + Int.toNat i3.1) (adT (adT (adT (List.getD i3.2.2.1 (0 + Int.toNat i.1 + Int.toNat i3.1) 0 + gi y3.1 i3.1 0) + i3.2.1) - 1000000000)) : List Int) fun z21 => .vI (vV (1 : Int) z20 (len y3.1) y3.1 (abN (j.1 - 1)) (len y3.1) (0 : Int) <| (vN 26 (0 + Int.toNat i.1) (Int.toNat (w64 (w64 (i.1 + len y3.1) + 1)) - Int.toNat i.1) true) ∧ True) <| .vI (vH (vM 189 i.2.1) <| vH (vM 189 z21) True) <| .ok (.inl ((z20, 1, z21, ()))))
 (.need (inb i3.1 (↑(Int.toNat (w64 (w64 (i.1 + len y3.1) + 1)) - Int.toNat i.1) : Int)) <| .tt <| .lt (w64 (i3.1 + 1) : Int) fun z22 => .lt (List.set i3.2.2.1 (0 + Int.toNat i.1 + Int.toNat i3.1) (adT (adT (List.getD i3.2.2.1 (0 + Int.toNat i.1 + Int.toNat i3.1) 0 + gi y3.1 i3.1 0) + i3.2.1)) : List Int) fun z23 => .vI (vV (0 : Int) z22 (len y3.1) y3.1 (abN (j.1 - 1)) (len y3.1) (0 : Int) <| (vN 26 (0 + Int.toNat i.1) (Int.toNat (w64 (w64 (i.1 + len y3.1) + 1)) - Int.toNat i.1) true) ∧ True) <| .vI (vH (vM 189 i.2.1) <| vH (vM 189 z23) True) <| .ok (.inl ((z22, 0, z23, ())))))
 (.need (inb (len y3.1) (↑(Int.toNat (w64 (w64 (i.1 + len y3.1) + 1)) - Int.toNat i.1) : Int)) <| .need (inb i.1 (↑(Int.toNat (w64 (w64 (len m - len y3.1) + 1))) : Int)) <| .tt <| .lt (w64 (i.1 - 1) : Int) fun z24 => .lt (List.set i.2.1 (0 + Int.toNat i.1) (adT (abN (j.1 - 1))) : List Int) fun z25 => .lt (List.set i3.2.2.1 (0 + Int.toNat i.1 + Int.toNat (len y3.1)) 0 : List Int) fun z26 => .vI (vJ z24 <| (vN 41 0 (Int.toNat (w64 (w64 (len m - len y3.1) + 1))) true) ∧ (vJ (len y3.1) <| (vN 26 0 (Int.toNat (w64 (len m + 1))) true) ∧ (vP y3.1 (adT (Int.tdiv 1000000000 (adT (gi o (w64 (len o - 1)) 0 + 1))) : Int) <| True ∧ True))) <| .vI (vH (vM 189 z25) <| vH (vM 189 z26) True) <| .ok (.inr (.inr (.inl ((z24, z25, z26, ()))))))
def agF (m : List Int) (o : List Int) (y : Int × Unit) (y3 : List Int × Unit) (y4 : List Int × Unit) (i : Int × List Int × List Int × Unit) (j : Int × Unit) (i2 : (Int) × (Int) × (Int) × (List Int) × Unit) : TT tJ :=
 .ite (decide (i2.1 < len y3.1))
 (.need (inb i2.1 (len y3.1)) <| .need (inb i2.1 (↑(Int.toNat (w64 (w64 (i.1 + len y3.1) + 1)) - Int.toNat i.1) : Int)) <| .triv (asT Int 1000000000 ≠ 0) zf <| .triv (asT Int 1000000000 ≠ 0) zf <| .ite (decide (w64 (w64 (w64 (List.getD i2.2.2.2.1 (0 + Int.toNat i.1 + Int.toNat i2.1) 0) - i2.2.1) - w64 (Int.tmod (abN (i2.2.2.1 + abN (j.1 * abN (gi y3.1 i2.1 0)))) 1000000000)) < 0))
 (.need (inb i2.1 (↑(Int.toNat (w64 (w64 (i.1 + len y3.1) + 1)) - Int.toNat i.1) : Int)) <| .tt <| .lt (w64 (i2.1 + 1) : Int) fun z13 => .lt (abN (Int.tdiv (abN (i2.2.2.1 + abN (j.1 * abN (gi y3.1 i2.1 0)))) 1000000000) : Int) fun z14 => .lt (List.set i2.2.2.2.1 (0 + Int.toNat i.1 + Int.toNat i2.1) (adT (w64 (w64 (w64 (w64 (List.getD i2.2.2.2.1 (0 + Int.toNat i.1 + Int.toNat i2.1) 0) - i2.2.1) - w64 (Int.tmod (abN (i2.2.2.1 + abN (j.1 * abN (gi y3.1 i2.1 0)))) 1000000000)) + 1000000000))) : List Int) fun z15 => .vI (vS z14 (1 : Int) z13 (len y3.1) y3.1 j.1 (len y3.1) (0 : Int) <| (vN 26 (0 + Int.toNat i.1) (Int.toNat (w64 (w64 (i.1 + len y3.1) + 1)) - Int.toNat i.1) true) ∧ vR y3.1) <| .vI (vH (vM 189 i.2.1) <| vH (vM 189 z15) True) <| .ok (.inl ((z13, 1, z14, z15, ()))))
 (.need (inb i2.1 (↑(Int.toNat (w64 (w64 (i.1 + len y3.1) + 1)) - Int.toNat i.1) : Int)) <| .tt <| .lt (w64 (i2.1 + 1) : Int) fun z16 => .lt (abN (Int.tdiv (abN (i2.2.2.1 + abN (j.1 * abN (gi y3.1 i2.1 0)))) 1000000000) : Int) fun z17 => .lt (List.set i2.2.2.2.1 (0 + Int.toNat i.1 + Int.toNat i2.1) (adT (w64 (w64 (w64 (List.getD i2.2.2.2.1 (0 + Int.toNat i.1 + Int.toNat i2.1) 0) - i2.2.1) - w64 (Int.tmod (abN (i2.2.2.1 + abN (j.1 * abN (gi y3.1 i2.1 0)))) 1000000000)))) : List Int) fun z18 => .vI (vS z17 (0 : Int) z16 (len y3.1) y3.1 j.1 (len y3.1) (0 : Int) <| (vN 26 (0 + Int.toNat i.1) (Int.toNat (w64 (w64 (i.1 + len y3.1) + 1)) - Int.toNat i.1) true) ∧ vR y3.1) <| .vI (vH (vM 189 i.2.1) <| vH (vM 189 z18) True) <| .ok (.inl ((z16, 0, z17, z18, ())))))
 (.need (inb (len y3.1) (↑(Int.toNat (w64 (w64 (i.1 + len y3.1) + 1)) - Int.toNat i.1) : Int)) <| .ite (decide (w64 (w64 (List.getD i2.2.2.2.1 (0 + Int.toNat i.1 + Int.toNat (len y3.1)) 0) - i2.2.1) < w64 i2.2.2.1))
 (.loop 4 (.tt <| .lt (i2.2.2.2.1 : List Int) fun z19 => .vI (vV (0 : Int) (0 : Int) (len y3.1) y3.1 (abN (j.1 - 1)) (len y3.1) (0 : Int) <| (vN 26 (0 + Int.toNat i.1) (Int.toNat (w64 (w64 (i.1 + len y3.1) + 1)) - Int.toNat i.1) true) ∧ True) <| .vI (vH (vM 189 i.2.1) <| vH (vM 189 z19) True) <| .ok ((0, 0, z19, ()))) (ahV m o y y3 y4 i j i2))
 (.need (inb (len y3.1) (↑(Int.toNat (w64 (w64 (i.1 + len y3.1) + 1)) - Int.toNat i.1) : Int)) <| .need (inb i.1 (↑(Int.toNat (w64 (w64 (len m - len y3.1) + 1))) : Int)) <| .tt <| .lt (w64 (i.1 - 1) : Int) fun z27 => .lt (List.set i.2.1 (0 + Int.toNat i.1) (adT j.1) : List Int) fun z28 => .lt (List.set i2.2.2.2.1 (0 + Int.toNat i.1 + Int.toNat (len y3.1)) 0 : List Int) fun z29 => .vI (vJ z27 <| (vN 41 0 (Int.toNat (w64 (w64 (len m - len y3.1) + 1))) true) ∧ (vJ (len y3.1) <| (vN 26 0 (Int.toNat (w64 (len m + 1))) true) ∧ (vP y3.1 (adT (Int.tdiv 1000000000 (adT (gi o (w64 (len o - 1)) 0 + 1))) : Int) <| True ∧ True))) <| .vI (vH (vM 189 z28) <| vH (vM 189 z29) True) <| .ok (.inr (.inl ((z27, z28, z29, ()))))))
def as9 (m : List Int) (o : List Int) (y : Int × Unit) (y3 : List Int × Unit) (y4 : List Int × Unit) (i : Int × List Int × List Int × Unit) (j : (Int) × Unit) : TT ui :=
 .loop 3 (.tt <| .lt (i.2.2.1 : List Int) fun z12 => .vI (vS (0 : Int) (0 : Int) (0 : Int) (len y3.1) y3.1 j.1 (len y3.1) (0 : Int) <| (vN 26 (0 + Int.toNat i.1) (Int.toNat (w64 (w64 (i.1 + len y3.1) + 1)) - Int.toNat i.1) true) ∧ vR y3.1) <| .vI (vH (vM 189 i.2.1) <| vH (vM 189 z12) True) <| .ok ((0, 0, 0, z12, ()))) (agF m o y y3 y4 i j)
def ahW (m : List Int) (o : List Int) (y : Int × Unit) (y3 : List Int × Unit) (y4 : List Int × Unit) (i : (Int) × (List Int) × (List Int) × Unit) : TT ui :=
 .ite (decide (i.1 ≥ 0))
 (.need (inc (w64 (w64 (i.1 + len y3.1) + 1)) (↑(Int.toNat (w64 (len m + 1))) : Int)) <| .need (inc i.1 (↑(Int.toNat (w64 (w64 (i.1 + len y3.1) + 1))) : Int)) <| .tt <| .tt <| .need (inb (w64 (len y3.1 - 1)) (len y3.1)) <| .need (inb (len y3.1) (↑(Int.toNat (w64 (w64 (i.1 + len y3.1) + 1)) - Int.toNat i.1) : Int)) <| .need (inb (w64 (len y3.1 - 1)) (↑(Int.toNat (w64 (w64 (i.1 + len y3.1) + 1)) - Int.toNat i.1) : Int)) <| .need (abN (gi y3.1 (w64 (len y3.1 - 1)) 0) ≠ 0) <| .need (abN (gi y3.1 (w64 (len y3.1 - 1)) 0) ≠ 0) <| .join 1 (ι := (Int) × Unit) (.loop 2 (.tt <| .lt (Int.tmod (abN (abN (abN (List.getD i.2.2.1 (0 + Int.toNat i.1 + Int.toNat (len y3.1)) 0) * 1000000000) + abN (List.getD i.2.2.1 (0 + Int.toNat i.1 + Int.toNat (w64 (len y3.1 - 1))) 0))) (abN (gi y3.1 (w64 (len y3.1 - 1)) 0)) : Int) fun z3 => .lt (abN (Int.tdiv (abN (abN (abN (List.getD i.2.2.1 (0 + Int.toNat i.1 + Int.toNat (len y3.1)) 0) * 1000000000) + abN (List.getD i.2.2.1 (0 + Int.toNat i.1 + Int.toNat (w64 (len y3.1 - 1))) 0))) (abN (gi y3.1 (w64 (len y3.1 - 1)) 0))) : Int) fun z4 => .vI (vO z4 z3 (abN (gi y3.1 (w64 (len y3.1 - 1)) 0) : Int) (len y3.1) (0 : Int) <| (vN 26 (0 + Int.toNat i.1) (Int.toNat (w64 (w64 (i.1 + len y3.1) + 1)) - Int.toNat i.1) true) ∧ vR y3.1) <| .vI (vH (vM 189 i.2.1) <| vH (vM 189 i.2.2.1) True) <| .ok ((z3, z4, ()))) (agG m o y y3 y4 i)) (as9 m o y y3 y4 i))
 (.need (inc (len y3.1) (↑(Int.toNat (w64 (len m + 1))) : Int)) <| .call (acD (List.take (Int.toNat (len y3.1)) i.2.2.1, ())) Dd0 fun y5 =>
 .call (ajG (y5.1, adT (Int.tdiv 1000000000 (adT (gi o (w64 (len o - 1)) 0 + 1))), ())) aRJ fun y6 =>
 .call (acD (List.take (Int.toNat (w64 (w64 (len m - len y3.1) + 1))) i.2.1, ())) Dd0 fun y7 =>
 .ok (.inr ((y7.1, y6.1, ()))))
def aj2 (m : List Int) (o : List Int) : TT (List Int × List Int × Unit) :=
 .call (adN (m, o, ())) Dd6 fun y =>
 .ite (decide (y.1 < 0))
 (.ok (([], m, ())))
 (.ite (len o == 1)
 (.need (asT Int 0 ≤ 0 ∧ 0 < len o) <| .call (ajG (m, gi o 0 0, ())) aRJ fun y1 =>
 .call (abM (abN y1.2.1, ())) Dd0 fun y2 =>
 .ok ((y1.1, y2.1, ())))
 (.need (inb (w64 (len o - 1)) (len o)) <| .need (adT (gi o (w64 (len o - 1)) 0 + 1) ≠ 0) <| .call (ab9 (o, [adT (Int.tdiv 1000000000 (adT (gi o (w64 (len o - 1)) 0 + 1)))], ())) Dd0 fun y3 =>
 .need (0 ≤ w64 (len m + 1) ∧ w64 (len m + 1) ≤ w64 (len m + 1) ∧ w64 (len m + 1) * (↑4 : Int) ≤ 140737488355328) <| .call (ab9 (m, [adT (Int.tdiv 1000000000 (adT (gi o (w64 (len o - 1)) 0 + 1)))], ())) Dd0 fun y4 =>
 .need (0 ≤ w64 (w64 (len m - len y3.1) + 1) ∧ w64 (w64 (len m - len y3.1) + 1) ≤ w64 (w64 (len m - len y3.1) + 1) ∧ w64 (w64 (len m - len y3.1) + 1) * (↑4 : Int) ≤ 140737488355328) <| .loop 0 (.tt <| .lt (w64 (len m - len y3.1) : Int) fun z => .lt (List.replicate (Int.toNat (w64 (z + 1))) 0 : List Int) fun z1 => .lt (over (List.replicate (Int.toNat (w64 (len m + 1))) 0) 0 (List.take (Int.toNat (w64 (len m + 1))) y4.1) : List Int) fun z2 => .vI (vJ z <| (vN 41 0 (Int.toNat (w64 (z + 1))) true) ∧ (vJ (len y3.1) <| (vN 26 0 (Int.toNat (w64 (len m + 1))) true) ∧ (vP y3.1 (adT (Int.tdiv 1000000000 (adT (gi o (w64 (len o - 1)) 0 + 1))) : Int) <| True ∧ True))) <| .vI (vH (vM 189 z1) <| vH (vM 189 z2) True) <| .ok ((z, z1, z2, ()))) (ahW m o y y3 y4)))
def aEB : LTab := [(247, 8186, 49153, ⟨0, (Int) × (List Int) × (List Int) × Unit, .dat (.s 12) vZ <| .row 41 ud <| .row 26 ud <| .nil, [4, 11, 10, 9, 8, 5], [41, 26], 0⟩), (269, 63, 95232, ⟨1, (Int) × Unit, .dat (.s 8) uw <| .nil, [5, 4, 0, 1], [41, 26], 0⟩), (269, 252, 95232, ⟨2, (Int) × (Int) × Unit, .dat (.s 9) uw <| .dat (.s 8) uw <| .nil, [6, 5, 4, 0, 1], [41, 26], 0⟩), (269, 2042, 100352, ⟨3, (Int) × (Int) × (Int) × (List Int) × Unit, .dat (.s 77) vZ <| .dat (.s 11) vZ <| .dat (.s 10) uw <| .row 26 ud <| .nil, [76, 75, 8, 5, 4, 0, 1], [41, 26], 0⟩), (269, 65454, 118784, ⟨4, (Int) × (Int) × (List Int) × Unit, .dat (.s 125) vZ <| .dat (.s 15) ud <| .row 26 ud <| .nil, [124, 123, 8, 5, 4, 0], [41, 26], 0⟩)]
end
theorem aL7 {H v1 V P U Q : Int} (hP : 0 < P) (h1 : 0 < v1) (hV : v1 * P ≤ V) (hU : U < (H + 1) * P) (hQ : Q * V ≤ U) (hQ0 : 0 ≤ Q) : Q ≤ H / v1 := by
 rw [xK h1]
 have a1 : Q * (v1 * P) ≤ Q * V := zC hV hQ0
 have a2 : Q * v1 * P < (H + 1) * P := by rw [Int.mul_assoc]; omega
 have := yf a2 zc
 omega
theorem aOG {q r H v1 v2 V P U Q u2 B : Int} (hV0 : 0 ≤ V) (hP : 0 < P) (hinv : q * v1 + r = H) (hV : (v1 * B + v2) * P ≤ V) (hU : U < (H * B + u2 + 1) * P) (hQ : Q * V ≤ U) (hq : 0 ≤ q) (h : q * v2 > r * B + u2) : Q ≤ q - 1 := by
 have a1 : H * B + u2 + 1 ≤ q * (v1 * B + v2) := by
  have : q * (v1 * B + v2) = (q * v1 + r) * B - r * B + q * v2 := by grind
  rw [this, hinv]; omega
 have a2 : (H * B + u2 + 1) * P ≤ (q * (v1 * B + v2)) * P := zD a1 zc
 have a3 : q * ((v1 * B + v2) * P) ≤ q * V := zC hV hq
 rw [Int.mul_assoc] at a2
 have a4 : Q * V < q * V := zc
 have := yf a4 hV0
 omega
theorem aHi {q r H v1 v2 V V3 P U u2 B Q : Int} (hP : 0 < P) (hinv : q * v1 + r = H) (hVe : V = (v1 * B + v2) * P + V3) (hV3 : V3 < P) (hV30 : 0 ≤ V3) (hU : (H * B + u2) * P ≤ U) (hq : 0 ≤ q) (hqB : q < B) (hVB : B * P ≤ V) (hUQ : U < (Q + 1) * V) (h : q * v2 ≤ r * B + u2) : q ≤ Q + 1 := by
 have a1 : q * (v1 * B + v2) ≤ H * B + u2 := by
  have : q * (v1 * B + v2) = (q * v1 + r) * B - r * B + q * v2 := by grind
  rw [this, hinv]; omega
 have a2 : (q * (v1 * B + v2)) * P ≤ (H * B + u2) * P := zD a1 zc
 have a3 : q * V3 ≤ B * P := by
  have b1 : q * V3 ≤ q * P := zC zc hq
  have b2 : q * P ≤ B * P := zD zc zc
  omega
 have a4 : q * V = (q * (v1 * B + v2)) * P + q * V3 := by rw [hVe]; grind
 have a5 : q * V < (Q + 2) * V := by
  have : (Q + 2) * V = (Q + 1) * V + V := by grind
  omega
 have hVpos : 0 < V := by
  have : 0 < B * P := vh zc hP
  omega
 have := yf a5 zc
 omega
theorem aFO {u w : List Int} {j n : Nat} {Q Vv e U : Int} (hlen : w.length = u.length) (hjn : j + n < u.length) (hw : Dg 1000000000 w)
  (htk : w.take j = u.take j) (hdr : w.drop (j + n) = u.drop (j + n)) (hz : V 1000000000 (u.drop (j + n + 1)) = 0) (hU : U = V 1000000000 (u.drop j)) (hX0 : 0 ≤ U - Q * Vv) (hX1 : U - Q * Vv < 1000000000 ^ n)
  (hV : V 1000000000 w = V 1000000000 u - 1000000000 ^ j * (Q * Vv) + 1000000000 ^ (j + n) * e) :
  V 1000000000 (w.set (j + n) 0) = V 1000000000 u - 1000000000 ^ j * (Q * Vv) ∧ V 1000000000 ((w.set (j + n) 0).drop j) = U - Q * Vv ∧ e = u.getD (j + n) 0 := by
 have sw := ab5 1000000000 w j
 have su := ab5 1000000000 u j
 rw [htk] at sw
 have hPj : (0 : Int) < 1000000000 ^ j := yE zc
 have hPn : (0 : Int) < 1000000000 ^ n := yE zc
 have e1 : V 1000000000 (w.drop j) = U - Q * Vv + 1000000000 ^ n * e := by
  have : 1000000000 ^ j * V 1000000000 (w.drop j) = 1000000000 ^ j * (U - Q * Vv + 1000000000 ^ n * e) := by
   rw [we] at hV
   rw [hU]
   have : (1000000000 : Int) ^ j * (V 1000000000 (u.drop j) - Q * Vv + 1000000000 ^ n * e) = 1000000000 ^ j * V 1000000000 (u.drop j) - 1000000000 ^ j * (Q * Vv) + 1000000000 ^ j * 1000000000 ^ n * e := by grind
   omega
  exact Int.eq_of_mul_eq_mul_left zc this
 have s2 := ab5 1000000000 (w.drop j) n
 rw [ya, hdr] at s2
 have s3 := aaU 1000000000 u (j + n)
 rw [hz, wi, vB] at s3
 rw [s3] at s2
 have l1 := ac5 zc (acH hw j) n
 have l2 := aaS zc (ab4 (acH hw j) n)
 have hget : w.getD (j + n) 0 = u.getD (j + n) 0 := by
  have h1 : (w.drop (j + n)).getD 0 0 = (u.drop (j + n)).getD 0 0 := by rw [hdr]
  simpa [yr, xe] using h1
 have he : e = u.getD (j + n) 0 := by
  have h1 : 1000000000 ^ n * (u.getD (j + n) 0 - e) = (U - Q * Vv) - V 1000000000 ((w.drop j).take n) := by
   rw [Int.mul_sub]; omega
  have h2 : u.getD (j + n) 0 - e < 1 := by
   have : 1000000000 ^ n * (u.getD (j + n) 0 - e) < 1000000000 ^ n * 1 := zc
   exact yR this zc
  have h3 : -1 < u.getD (j + n) 0 - e := by
   have : 1000000000 ^ n * (-1) < 1000000000 ^ n * (u.getD (j + n) 0 - e) := zc
   exact yR this zc
  omega
 refine ⟨?_, ?_, he⟩
 ·rw [axG _ zc, hget, hV, he, Int.mul_sub]
  omega
 ·have s4 : (w.set (j + n) 0).drop j = (w.drop j).set n 0 := by
   rw [List.drop_set, if_neg zc]; congr 1; omega
  rw [s4, axG _ (by rw [yy]; omega)]
  have : (w.drop j).getD n 0 = u.getD (j + n) 0 := by
   rw [← hget]; simp [yr, xe]
  rw [this, e1, he, Int.mul_sub]
  omega
theorem aP1 {u w : List Int} {j n : Nat} {q Vv e U : Int} (hw : Dg 1000000000 w)
  (htk : w.take j = u.take j) (hdr : w.drop (j + n) = u.drop (j + n)) (hz : V 1000000000 (u.drop (j + n + 1)) = 0) (hU : U = V 1000000000 (u.drop j)) (hX0 : U - q * Vv < 0)
  (hV : V 1000000000 w = V 1000000000 u - 1000000000 ^ j * (q * Vv) + 1000000000 ^ (j + n) * e) : u.getD (j + n) 0 < e := by
 have sw := ab5 1000000000 w j
 have su := ab5 1000000000 u j
 rw [htk] at sw
 have hPj : (0 : Int) < 1000000000 ^ j := yE zc
 have hPn : (0 : Int) < 1000000000 ^ n := yE zc
 have e1 : V 1000000000 (w.drop j) = U - q * Vv + 1000000000 ^ n * e := by
  have : 1000000000 ^ j * V 1000000000 (w.drop j) = 1000000000 ^ j * (U - q * Vv + 1000000000 ^ n * e) := by
   rw [we] at hV
   rw [hU]
   have : (1000000000 : Int) ^ j * (V 1000000000 (u.drop j) - q * Vv + 1000000000 ^ n * e) = 1000000000 ^ j * V 1000000000 (u.drop j) - 1000000000 ^ j * (q * Vv) + 1000000000 ^ j * 1000000000 ^ n * e := by grind
   omega
  exact Int.eq_of_mul_eq_mul_left zc this
 have s2 := ab5 1000000000 (w.drop j) n
 rw [ya, hdr] at s2
 have s3 := aaU 1000000000 u (j + n)
 rw [hz, wi, vB] at s3
 rw [s3] at s2
 have l2 := aaS zc (ab4 (acH hw j) n)
 have : 1000000000 ^ n * u.getD (j + n) 0 < 1000000000 ^ n * e := zc
 exact yR this zc
theorem awG (l : List Int) {k j : Nat} (h : j ≤ k) (x : Int) : (l.set (k) x).take j = l.take j := by
 rw [List.take_set_of_le h]
theorem aLO (m o : List Int) (y : Int × Unit) (y4 : List Int × Unit) (v ql u w0 : List Int) (j n : Nat) (q : Int) (i2 : Int × Int × Int × List Int × Unit) (hv : Dg 1000000000 v) (hn : v.length = n) (hN : w0.length ≤ 1000000000000) (hjn : j + n < w0.length) (hw : Dg 1000000000 w0) (hq : 1 ≤ q ∧ q < 1000000000) (hK : inb (j : Int) (↑(Int.toNat (w64 (w64 (len m - len v) + 1))) : Int)) :
  ∃ w' e, acW (fun i3 => (ahV m o y (v, ()) y4 ((j : Int), ql, u, ()) (q, ()) i2 i3).toO) (0, 0, w0, ()) = some (.inr (.inl ((j : Int) - 1, ql.set j (q - 1), w'.set (j + n) 0, ()))) ∧ w'.length = w0.length ∧ Dg 1000000000 w' ∧ w'.take j = w0.take j ∧ w'.drop (j + n) = w0.drop (j + n) ∧ V 1000000000 w' = V 1000000000 w0 + 1000000000 ^ j * V 1000000000 v - 1000000000 ^ (j + n) * e := by
 have wa : w64 (w64 ((j : Int) + len v) + 1) = ((j + n + 1 : Nat) : Int) := by rw [aaB, hn, aaA (x := (j : Int) + n) zc, aaA zc]; omega
 have wb : ((((j + n + 1 : Nat) : Int).toNat - (j : Int).toNat : Nat) : Int) = ((n + 1 : Nat) : Int) := zc
 refine Exists.elim (acM (R := fun i3 => (ahV m o y (v, ()) y4 ((j : Int), ql, u, ()) (q, ()) i2 i3).toO) (fun i : Int × Int × List Int × Unit => ∃ k : Nat, k ≤ n ∧ i.1 = (k : Int) ∧ 0 ≤ i.2.1 ∧ i.2.1 ≤ 1 ∧ i.2.2.1.length = w0.length ∧ Dg 1000000000 i.2.2.1 ∧ i.2.2.1.take j = w0.take j ∧ i.2.2.1.drop (j + k) = w0.drop (j + k) ∧ V 1000000000 i.2.2.1 = V 1000000000 w0 + 1000000000 ^ j * V 1000000000 (v.take k) - 1000000000 ^ (j + k) * i.2.1) (fun i => ((n : Int) - i.1).toNat)
  (fun r => ∃ w' e, r = Sum.inr (Sum.inl ((j : Int) - 1, ql.set j (q - 1), w'.set (j + n) 0, ())) ∧ w'.length = w0.length ∧ Dg 1000000000 w' ∧ w'.take j = w0.take j ∧ w'.drop (j + n) = w0.drop (j + n) ∧ V 1000000000 w' = V 1000000000 w0 + 1000000000 ^ j * V 1000000000 v - 1000000000 ^ (j + n) * e) ?step (0, 0, w0, ()) ⟨0, by omega, rfl, by simp, by simp, rfl, hw, rfl, rfl, by simp [V]⟩) ?fin
 case fin =>
  rintro a ⟨h1, w', e, rfl, h3⟩
  exact ⟨w', e, h1, h3⟩
 rintro ⟨i, c, w, u5⟩ ⟨k, g1, g2, g3, g4, g5, g6, g7, g8, g9⟩
 dsimp only at g2 g3 g4 g5 g6 g7 g8 g9
 subst g2
 have dv := aa2 zc hv k
 have dw := aa2 zc g6 (j + k)
 have ev := aa5 1000000000 v k
 simp only [ahV, aaM, wa, wb, zp, zv]
 rcases zr k n with hk | hk
 ·left
  have w1 : adT (adT (w.getD (j + k) 0 + v.getD k 0) + c) = w.getD (j + k) 0 + v.getD k 0 + c := by rw [aaZ (x := w.getD (j + k) 0 + v.getD k 0) zc, aaZ zc]
  have w5 : w64 ((k : Int) + 1) = ((k + 1 : Nat) : Int) := by rw [aaA (x := (k : Int) + 1) zc]; omega
  simp only [w1, w5]
  have fin : ∀ x c' : Int, 0 ≤ x ∧ x < 1000000000 → 0 ≤ c' ∧ c' ≤ 1 → x + 1000000000 * c' = w.getD (j + k) 0 + v.getD k 0 + c → ∃ k_1 : Nat, k_1 ≤ n ∧ ((k + 1 : Nat) : Int) = (k_1 : Int) ∧ 0 ≤ c' ∧ c' ≤ 1 ∧ (w.set (j + k) x).length = w0.length ∧ Dg 1000000000 (w.set (j + k) x) ∧ (w.set (j + k) x).take j = w0.take j ∧ (w.set (j + k) x).drop (j + k_1) = w0.drop (j + k_1) ∧ V 1000000000 (w.set (j + k) x) = V 1000000000 w0 + 1000000000 ^ j * V 1000000000 (v.take k_1) - 1000000000 ^ (j + k_1) * c' := by
   intro x c' hx hc he
   refine ⟨k + 1, by omega, rfl, hc.1, hc.2, by simp; omega, aiB g6 hx _, by rw [awG _ zc, g7], ?_, ?_⟩
   ·rw [ahD _ zc, show j + (k + 1) = j + k + 1 by omega, ← ya (i := 1), g8, ya]
   ·rw [axG _ zc, g9, ev, show j + (k + 1) = j + k + 1 by omega, zZ, we]
    have : (1000000000 : Int) ^ j * 1000000000 ^ k * (x + 1000000000 * c') = 1000000000 ^ j * 1000000000 ^ k * (w.getD (j + k) 0 + v.getD k 0 + c) := by rw [he]
    grind
  by_cases cc : w.getD (j + k) 0 + v.getD k 0 + c ≥ 1000000000
  ·refine ⟨(((k + 1 : Nat) : Int), 1, w.set (j + k) (w.getD (j + k) 0 + v.getD k 0 + c - 1000000000), ()), ?_, fin _ 1 zc zc zc, by dsimp only; omega⟩
   refine uT sd (uN sd (uN ⟨by omega, by omega⟩ (uT (zo cc) (uN ⟨by omega, by omega⟩ ?_))))
   repeat refine za ?_
   rw [aaZ (x := w.getD (j + k) 0 + v.getD k 0 + c - 1000000000) zc]
   rfl
  ·refine ⟨(((k + 1 : Nat) : Int), 0, w.set (j + k) (w.getD (j + k) 0 + v.getD k 0 + c), ()), ?_, fin _ 0 zc zc zc, by dsimp only; omega⟩
   refine uT sd (uN sd (uN ⟨by omega, by omega⟩ (uF (zn cc) (uN ⟨by omega, by omega⟩ ?_))))
   repeat refine za ?_
   rfl
 ·right
  have hkn : k = n := zc
  subst hkn
  rw [abE _ zc] at g9
  refine ⟨_, ?_, w, c, rfl, g5, g6, g7, g8, g9⟩
  refine uF sd (uN ⟨by simp [len], by rw [aaB, hn]; omega⟩ (uN hK ?_))
  repeat refine za ?_
  have w6 : adT (abN (q - 1)) = q - 1 := by rw [aaO (x := q - 1) zc, aaZ zc]
  rw [aaH, w6, aaA (x := (j : Int) - 1) zc, aaB, hn, zp]
theorem arH {a b B : Int} (ha : 0 ≤ a ∧ a < B) (hb : 0 ≤ b ∧ b < B) : 0 ≤ a * b ∧ a * b ≤ (B - 1) * (B - 1) := by
 refine ⟨yg ha.1 hb.1, ?_⟩
 have h1 : a * b ≤ a * (B - 1) := zC zc ha.1
 have h2 : a * (B - 1) ≤ (B - 1) * (B - 1) := zD zc zc
 omega
theorem aLP (m o : List Int) (y : Int × Unit) (y4 : List Int × Unit) (v ql u : List Int) (j n : Nat) (q Q : Int) (hv : Dg 1000000000 v) (hn : v.length = n) (hN : u.length ≤ 1000000000000) (hjn : j + n < u.length) (hu : Dg 1000000000 u) (hq : 0 ≤ q ∧ q < 1000000000) (hK : inb (j : Int) (↑(Int.toNat (w64 (w64 (len m - len v) + 1))) : Int))
  (hz : V 1000000000 (u.drop (j + n + 1)) = 0) (hQ : q = Q ∨ q = Q + 1) (hX0 : 0 ≤ V 1000000000 (u.drop j) - Q * V 1000000000 v) (hX1 : V 1000000000 (u.drop j) - Q * V 1000000000 v < V 1000000000 v) (hQ0 : 0 ≤ Q) :
  ∃ u', acW (fun i2 => (agF m o y (v, ()) y4 ((j : Int), ql, u, ()) (q, ()) i2).toO) (0, 0, 0, u, ()) = some (.inl ((j : Int) - 1, ql.set j Q, u', ())) ∧ u'.length = u.length ∧ Dg 1000000000 u' ∧ V 1000000000 u' = V 1000000000 u - 1000000000 ^ j * (Q * V 1000000000 v) ∧ V 1000000000 (u'.drop j) = V 1000000000 (u.drop j) - Q * V 1000000000 v := by
 have wa : w64 (w64 ((j : Int) + len v) + 1) = ((j + n + 1 : Nat) : Int) := by rw [aaB, hn, aaA (x := (j : Int) + n) zc, aaA zc]; omega
 have wb : ((((j + n + 1 : Nat) : Int).toNat - (j : Int).toNat : Nat) : Int) = ((n + 1 : Nat) : Int) := zc
 have hVn : V 1000000000 v < 1000000000 ^ n := by have := aJF zc hv; rwa [hn] at this
 refine Exists.elim (acM (R := fun i2 => (agF m o y (v, ()) y4 ((j : Int), ql, u, ()) (q, ()) i2).toO) (fun i : Int × Int × Int × List Int × Unit => ∃ k : Nat, k ≤ n ∧ i.1 = (k : Int) ∧ 0 ≤ i.2.1 ∧ i.2.1 ≤ 1 ∧ 0 ≤ i.2.2.1 ∧ i.2.2.1 < 1000000000 ∧ i.2.2.2.1.length = u.length ∧ Dg 1000000000 i.2.2.2.1 ∧ i.2.2.2.1.take j = u.take j ∧ i.2.2.2.1.drop (j + k) = u.drop (j + k) ∧ V 1000000000 i.2.2.2.1 = V 1000000000 u - 1000000000 ^ j * (q * V 1000000000 (v.take k)) + 1000000000 ^ (j + k) * (i.2.1 + i.2.2.1)) (fun i => ((n : Int) - i.1).toNat)
  (fun r => ∃ u', r = Sum.inl ((j : Int) - 1, ql.set j Q, u', ()) ∧ u'.length = u.length ∧ Dg 1000000000 u' ∧ V 1000000000 u' = V 1000000000 u - 1000000000 ^ j * (Q * V 1000000000 v) ∧ V 1000000000 (u'.drop j) = V 1000000000 (u.drop j) - Q * V 1000000000 v) ?step (0, 0, 0, u, ()) ⟨0, by omega, rfl, by simp, by simp, by simp, by simp, rfl, hu, rfl, rfl, by simp [V]⟩) ?fin
 case fin =>
  rintro a ⟨h1, u', rfl, h3⟩
  exact ⟨u', h1, h3⟩
 rintro ⟨i, b, c, w, u5⟩ ⟨k, g1, g2, g3, g4, g5, g6, g7, g8, g9, g10, g11⟩
 dsimp only at g2 g3 g4 g5 g6 g7 g8 g9 g10 g11
 subst g2
 have dv := aa2 zc hv k
 have dw := aa2 zc g8 (j + k)
 have ev := aa5 1000000000 v k
 have hm := arH hq dv
 have hs : 0 ≤ c + q * v.getD k 0 := zc
 simp only [agF, aaM, wa, wb, zp, zv]
 rcases zr k n with hk | hk
 ·left
  have wv : abN (v.getD k 0) = v.getD k 0 := aaO zc
  have wp : abN (c + abN (q * v.getD k 0)) = c + q * v.getD k 0 := by rw [aaO (x := q * v.getD k 0) zc, aaO zc]
  have em := yi (c + q * v.getD k 0) 1000000000
  have e2 : 0 ≤ (c + q * v.getD k 0) % 1000000000 ∧ (c + q * v.getD k 0) % 1000000000 < 1000000000 := zc
  have e3 : 0 ≤ (c + q * v.getD k 0) / 1000000000 ∧ (c + q * v.getD k 0) / 1000000000 < 1000000000 := zc
  have tm : Int.tmod (c + q * v.getD k 0) 1000000000 = (c + q * v.getD k 0) % 1000000000 := zE hs
  have td : Int.tdiv (c + q * v.getD k 0) 1000000000 = (c + q * v.getD k 0) / 1000000000 := zL hs
  have wr : w64 (w64 (w64 (w.getD (j + k) 0) - b) - w64 ((c + q * v.getD k 0) % 1000000000)) = w.getD (j + k) 0 - b - (c + q * v.getD k 0) % 1000000000 := by
   rw [aaA (x := w.getD (j + k) 0) zc, aaA (x := w.getD (j + k) 0 - b) zc, aaA (x := (c + q * v.getD k 0) % 1000000000) zc, aaA zc]
  have w5 : w64 ((k : Int) + 1) = ((k + 1 : Nat) : Int) := by rw [aaA (x := (k : Int) + 1) zc]; omega
  have wd : abN ((c + q * v.getD k 0) / 1000000000) = (c + q * v.getD k 0) / 1000000000 := aaO zc
  simp only [wv, wp, tm, td, wr, w5, wd]
  generalize (c + q * v.getD k 0) % 1000000000 = D at *
  generalize (c + q * v.getD k 0) / 1000000000 = C at *
  have fin : ∀ x b' : Int, 0 ≤ x ∧ x < 1000000000 → 0 ≤ b' ∧ b' ≤ 1 → x = w.getD (j + k) 0 - b - D + 1000000000 * b' → ∃ k_1 : Nat, k_1 ≤ n ∧ ((k + 1 : Nat) : Int) = (k_1 : Int) ∧ 0 ≤ b' ∧ b' ≤ 1 ∧ 0 ≤ C ∧ C < 1000000000 ∧ (w.set (j + k) x).length = u.length ∧ Dg 1000000000 (w.set (j + k) x) ∧ (w.set (j + k) x).take j = u.take j ∧ (w.set (j + k) x).drop (j + k_1) = u.drop (j + k_1) ∧ V 1000000000 (w.set (j + k) x) = V 1000000000 u - 1000000000 ^ j * (q * V 1000000000 (v.take k_1)) + 1000000000 ^ (j + k_1) * (b' + C) := by
   intro x b' hx hb he
   refine ⟨k + 1, by omega, rfl, hb.1, hb.2, e3.1, e3.2, by simp; omega, aiB g8 hx _, by rw [awG _ zc, g9], ?_, ?_⟩
   ·rw [ahD _ zc, show j + (k + 1) = j + k + 1 by omega, ← ya (i := 1), g10, ya]
   ·rw [axG _ zc, g11, ev, show j + (k + 1) = j + k + 1 by omega, zZ, we, he]
    have : (1000000000 : Int) ^ j * 1000000000 ^ k * (D + 1000000000 * C) = 1000000000 ^ j * 1000000000 ^ k * (c + q * v.getD k 0) := by rw [em]
    grind
  by_cases cc : w.getD (j + k) 0 - b - D < 0
  ·refine ⟨(((k + 1 : Nat) : Int), 1, C, w.set (j + k) (w.getD (j + k) 0 - b - D + 1000000000), ()), ?_, fin _ 1 zc zc zc, by dsimp only; omega⟩
   refine uT sd (uN sd (uN ⟨by omega, by omega⟩ (uV (uV (uT (zo cc) (uN ⟨by omega, by omega⟩ ?_))))))
   repeat refine za ?_
   rw [aaA (x := w.getD (j + k) 0 - b - D + 1000000000) zc, aaZ zc]
   rfl
  ·refine ⟨(((k + 1 : Nat) : Int), 0, C, w.set (j + k) (w.getD (j + k) 0 - b - D), ()), ?_, fin _ 0 zc zc zc, by dsimp only; omega⟩
   refine uT sd (uN sd (uN ⟨by omega, by omega⟩ (uV (uV (uF (zn cc) (uN ⟨by omega, by omega⟩ ?_))))))
   repeat refine za ?_
   rw [aaZ (x := w.getD (j + k) 0 - b - D) zc]
   rfl
 ·right
  have hkn : k = n := zc
  subst hkn
  rw [abE _ zc] at g11
  have hun := aa2 zc hu (j + k)
  have hget : w.getD (j + k) 0 = u.getD (j + k) 0 := by
   have h1 : (w.drop (j + k)).getD 0 0 = (u.drop (j + k)).getD 0 0 := by rw [g10]
   simpa [yr, xe] using h1
  have wl : len v = (k : Int) := by rw [aaB, hn]
  have wt : w64 (w64 (u.getD (j + k) 0) - b) = u.getD (j + k) 0 - b := by rw [aaA (x := u.getD (j + k) 0) zc, aaA zc]
  have wc : w64 c = c := aaA zc
  simp only [wl, zp, hget, wt, wc]
  by_cases cb : u.getD (j + k) 0 - b < c
  ·-- one too great
   have hq1 : q = Q + 1 := by
    rcases hQ with h | h
    ·subst h
     obtain ⟨-, -, he⟩ := aFO (Q := q) g7 hjn g8 g9 g10 hz rfl hX0 zc g11
     omega
    ·exact h
   obtain ⟨w', e, r1, r2, r3, r4, r5, r6⟩ := aLO m o y y4 v ql u w j k q ((k : Int), b, c, w, ()) hv hn zc zc g8 zc hK
   obtain ⟨f1, f2, -⟩ := aFO (u := u) (w := w') (Q := Q) (Vv := V 1000000000 v) (e := b + c - e) (by rw [r2, g7]) hjn r3 (by rw [r4, g9]) (by rw [r5, g10]) hz rfl hX0 zc (by
    rw [r6, g11, hq1]
    grind)
   refine ⟨_, ?_, w'.set (j + k) 0, rfl, by simp; omega, aiB r3 zc _, f1, f2⟩
   refine uF sd (uN ⟨by omega, by omega⟩ (uT (zo cb) ?_))
   refine uO (0, 0, w, ()) (by repeat refine za ?_; rfl) ?_
   rw [r1, hq1, Int.add_sub_cancel]
  ·have hq1 : q = Q := by
    rcases hQ with h | h
    ·exact h
    ·exfalso
     have := aP1 (q := q) g8 g9 g10 hz rfl (by rw [h, wR]; omega) g11
     omega
   subst hq1
   obtain ⟨f1, f2, -⟩ := aFO (Q := q) g7 hjn g8 g9 g10 hz rfl hX0 zc g11
   refine ⟨_, ?_, w.set (j + k) 0, rfl, by simp; omega, aiB g8 zc _, f1, f2⟩
   refine uF sd (uN ⟨by omega, by omega⟩ (uF (zn cb) (uN ⟨by omega, by omega⟩ (uN (by rw [wl] at hK; exact hK) ?_))))
   repeat refine za ?_
   rw [aaH, aaZ (x := q) zc, aaA (x := (j : Int) - 1) zc]
theorem arC {N : Nat} {s : List Int} (h : s.length ≤ N) : over (List.replicate N 0) 0 s = s ++ List.replicate (N - s.length) 0 := by
 unfold over
 simp
theorem aRh {N : Nat} {s : List Int} (h : s.length ≤ N) : V 1000000000 (over (List.replicate N 0) 0 s) = V 1000000000 s := by
 rw [arC h, aeB, asB]; omega
theorem aLQ (m o : List Int) (y : Int × Unit) (y4 : List Int × Unit) (v ql u : List Int) (j n : Nat) (U Q : Int) (hv : Dg 1000000000 v) (hn : v.length = n + 2) (hN : u.length ≤ 1000000000000) (hjn : j + n + 2 < u.length) (hu : Dg 1000000000 u) (hz : V 1000000000 (u.drop (j + n + 2 + 1)) = 0) (hU : U = V 1000000000 (u.drop j)) (hUB : U < V 1000000000 v * 1000000000) (hQ1 : Q * V 1000000000 v ≤ U) (hQ2 : U < (Q + 1) * V 1000000000 v) (hQ0 : 0 ≤ Q) (htop : 1 ≤ v.getD (n + 1) 0) :
  ∃ q, (q = Q ∨ q = Q + 1) ∧ 0 ≤ q ∧ q < 1000000000 ∧ acW (fun i1 => (agG m o y (v, ()) y4 ((j : Int), ql, u, ()) i1).toO) ((u.getD (j + n + 2) 0 * 1000000000 + u.getD (j + n + 1) 0) % v.getD (n + 1) 0, (u.getD (j + n + 2) 0 * 1000000000 + u.getD (j + n + 1) 0) / v.getD (n + 1) 0, ()) = some (.inl (q, ())) := by
 have wb1 : w64 (len v - 1) = ((n + 1 : Nat) : Int) := by rw [aaB, hn, aaA zc]; omega
 have wb2 : w64 (len v - 2) = ((n : Nat) : Int) := by rw [aaB, hn, aaA zc]; omega
 have wa : w64 (w64 ((j : Int) + len v) + 1) = ((j + n + 2 + 1 : Nat) : Int) := by rw [aaB, hn, aaA (x := (j : Int) + ((n + 2 : Nat) : Int)) zc, aaA zc]; omega
 have wb : ((((j + n + 2 + 1 : Nat) : Int).toNat - (j : Int).toNat : Nat) : Int) = ((n + 3 : Nat) : Int) := zc
 have dv1 := aa2 zc hv (n + 1)
 have dv2 := aa2 zc hv n
 have du0 := aa2 zc hu (j + n + 2)
 have du1 := aa2 zc hu (j + n + 1)
 have du2 := aa2 zc hu (j + n)
 -- the divisor
 have hP : (0 : Int) < 1000000000 ^ n := yE zc
 have hP1 : (0 : Int) < 1000000000 ^ (n + 1) := yE zc
 have s1 := ab5 1000000000 v n
 have s2 := aaU 1000000000 v n
 have s3 := aaU 1000000000 v (n + 1)
 rw [acT (k := n + 1 + 1) _ zc, wi, vB] at s3
 rw [s3] at s2
 have s4 := ac5 zc hv n
 have s5 := aaS zc (ab4 hv n)
 have s6 := ab5 1000000000 v (n + 1)
 rw [s3] at s6
 have s7 := aaS zc (ab4 hv (n + 1))
 -- the window
 have t1 := ab5 1000000000 (u.drop j) n
 have t2 : V 1000000000 ((u.drop j).drop n) = (u.getD (j + n + 2) 0 * 1000000000 + u.getD (j + n + 1) 0) * 1000000000 + u.getD (j + n) 0 := by
  rw [ya]
  have a1 := aaU 1000000000 u (j + n)
  have a2 := aaU 1000000000 u (j + n + 1)
  have a3 := aaU 1000000000 u (j + n + 1 + 1)
  rw [show j + n + 1 + 1 + 1 = j + n + 2 + 1 by omega, hz] at a3
  rw [a1, a2, a3]
  show _ + 1000000000 * (_ + 1000000000 * (u.getD (j + n + 2) 0 + 1000000000 * 0)) = _
  omega
 have t3 := ac5 zc (acH hu j) n
 have t4 := aaS zc (ab4 (acH hu j) n)
 rw [← hU, t2] at t1
 generalize hH : u.getD (j + n + 2) 0 * 1000000000 + u.getD (j + n + 1) 0 = H at *
 have hH0 : 0 ≤ H ∧ H < 1000000000000000000 := zc
 generalize hv1 : v.getD (n + 1) 0 = v1 at *
 generalize hv2 : v.getD n 0 = v2 at *
 generalize hu2 : u.getD (j + n) 0 = u2 at *
 generalize V 1000000000 (v.take n) = V3 at *
 generalize V 1000000000 ((u.drop j).take n) = U3 at *
 generalize V 1000000000 (v.take (n + 1)) = V4 at *
 have hVe : V 1000000000 v = (v1 * 1000000000 + v2) * 1000000000 ^ n + V3 := by rw [s1, s2]; grind
 have hVv : v1 * 1000000000 ^ (n + 1) ≤ V 1000000000 v := by
  have : (1000000000 : Int) ^ (n + 1) * v1 = v1 * 1000000000 ^ (n + 1) := yI _ _
  omega
 have hVB : 1000000000 * 1000000000 ^ n ≤ V 1000000000 v := by
  have a1 : 1 * 1000000000 ^ (n + 1) ≤ v1 * 1000000000 ^ (n + 1) := zD htop zc
  have a2 : (1000000000 : Int) ^ (n + 1) = 1000000000 * 1000000000 ^ n := by rw [zZ, yI]
  omega
 have hUlo : (H * 1000000000 + u2) * 1000000000 ^ n ≤ U := by
  have : (1000000000 : Int) ^ n * (H * 1000000000 + u2) = (H * 1000000000 + u2) * 1000000000 ^ n := yI _ _
  omega
 have hUhi : U < (H * 1000000000 + u2 + 1) * 1000000000 ^ n := by
  have : (H * 1000000000 + u2 + 1) * 1000000000 ^ n = 1000000000 ^ n * (H * 1000000000 + u2) + 1000000000 ^ n := by grind
  omega
 have hUhi1 : U < (H + 1) * 1000000000 ^ (n + 1) := by
  have a1 : (H * 1000000000 + u2 + 1) * 1000000000 ^ n ≤ ((H + 1) * 1000000000) * 1000000000 ^ n := zD zc zc
  have a2 : ((H + 1) * 1000000000) * 1000000000 ^ n = (H + 1) * 1000000000 ^ (n + 1) := by rw [zZ]; grind
  omega
 have hVpos : 0 < V 1000000000 v := by have := vh (show (0 : Int) < 1000000000 by omega) hP; omega
 have hQB : Q < 1000000000 := by
  have : Q * V 1000000000 v < 1000000000 * V 1000000000 v := zc
  exact yf this zc
 have hstart := aL7 hP1 zc hVv hUhi1 hQ1 hQ0
 have hdm := yi H v1
 have hr0 := yN H (show v1 ≠ 0 by omega)
 have hr1 := yz H (show 0 < v1 by omega)
 refine Exists.elim (acM (R := fun i1 => (agG m o y (v, ()) y4 ((j : Int), ql, u, ()) i1).toO) (fun i : Int × Int × Unit => 0 ≤ i.1 ∧ i.1 < 1000000000 ∧ Q ≤ i.2.1 ∧ i.2.1 * v1 + i.1 = H) (fun i => i.2.1.toNat) (fun r => ∃ q, (q = Q ∨ q = Q + 1) ∧ 0 ≤ q ∧ q < 1000000000 ∧ r = Sum.inl (q, ())) ?step (H % v1, H / v1, ()) ⟨hr0, by dsimp only; omega, hstart, by dsimp only; rw [yI]; omega⟩) ?fin
 case fin =>
  rintro a ⟨h1, q, h2, h3, h4, rfl⟩
  exact ⟨q, h2, h3, h4, h1⟩
 rintro ⟨r, q, u5⟩ ⟨g1, g2, g3, g4⟩
 dsimp only at g1 g2 g3 g4
 have hqH : q ≤ H := by
  have : q * 1 ≤ q * v1 := zC htop zc
  omega
 have down : Q ≤ q - 1 → ((r + v1 ≥ 1000000000 → ∃ q', (q' = Q ∨ q' = Q + 1) ∧ 0 ≤ q' ∧ q' < 1000000000 ∧ q' = q - 1)) := by
  intro hdn hr
  have hqB : q - 1 < 1000000000 := by
   have a1 : (q - 1) * v1 = H - (r + v1) := by rw [Int.sub_mul]; omega
   have a2 : H < (v1 + 1) * 1000000000 := by
    have b1 : H * 1000000000 ^ (n + 1) ≤ U := by
     have a2 : (H * 1000000000) * 1000000000 ^ n = H * 1000000000 ^ (n + 1) := by rw [zZ]; grind
     have a3 : (H * 1000000000) * 1000000000 ^ n ≤ (H * 1000000000 + u2) * 1000000000 ^ n := zD zc zc
     omega
    have b2 : V 1000000000 v < (v1 + 1) * 1000000000 ^ (n + 1) := by
     have a2 : (v1 + 1) * 1000000000 ^ (n + 1) = (v1 * 1000000000 + 1000000000) * 1000000000 ^ n := by rw [zZ]; grind
     have a3 : (v1 * 1000000000 + v2 + 1) * 1000000000 ^ n ≤ (v1 * 1000000000 + 1000000000) * 1000000000 ^ n := zD zc zc
     have a4 : (v1 * 1000000000 + v2 + 1) * 1000000000 ^ n = (v1 * 1000000000 + v2) * 1000000000 ^ n + 1000000000 ^ n := by grind
     omega
    have b3 : H * 1000000000 ^ (n + 1) < ((v1 + 1) * 1000000000) * 1000000000 ^ (n + 1) := by
     have : ((v1 + 1) * 1000000000) * 1000000000 ^ (n + 1) = ((v1 + 1) * 1000000000 ^ (n + 1)) * 1000000000 := by grind
     omega
    exact yf b3 zc
   have a3 : (q - 1) * v1 < 1000000000 * v1 := by
    have : (v1 + 1) * 1000000000 = 1000000000 * v1 + 1000000000 := by grind
    omega
   exact yf a3 zc
  have hm := arH (a := q - 1) (b := v2) (B := 1000000000) ⟨by omega, hqB⟩ dv2
  have hmB : 1000000000 * 1000000000 ≤ (r + v1) * 1000000000 := zc
  have := aHi (q := q - 1) (r := r + v1) hP (by rw [Int.sub_mul]; omega) hVe s4 s5 hUlo zc hqB hVB hQ2 zc
  exact ⟨q - 1, by omega, by omega, hqB, rfl⟩
 have wv1 : abN v1 = v1 := aaO zc
 have wr : abN (r + v1) = r + v1 := aaO zc
 have hgi1 : gi v ((n + 1 : Nat) : Int) 0 = v1 := by rw [aaM, hv1]
 have hgi2 : gi v ((n : Nat) : Int) 0 = v2 := by rw [aaM, hv2]
 simp only [agG, ahB, wb1, wb2, hgi1, hgi2, wv1, wr, wa, wb, zp, zv, hu2]
 have stepdn : Q ≤ q - 1 → 1 ≤ q → ((r + v1 ≥ 1000000000 → ∃ q', ((q' = Q ∨ q' = Q + 1) ∧ 0 ≤ q' ∧ q' < 1000000000) ∧ abN (q - 1) = q') ∧ (¬ r + v1 ≥ 1000000000 → (0 ≤ r + v1 ∧ r + v1 < 1000000000 ∧ Q ≤ q - 1 ∧ (q - 1) * v1 + (r + v1) = H) ∧ abN (q - 1) = q - 1)) := by
  intro h1 h2
  have wq : abN (q - 1) = q - 1 := aaO zc
  refine ⟨fun h => ?_, fun h => ⟨⟨by omega, by omega, h1, by rw [Int.sub_mul]; omega⟩, wq⟩⟩
  obtain ⟨q', e1, e2, e3, e4⟩ := down h1 h
  exact ⟨q', ⟨e1, e2, e3⟩, by rw [wq, e4]⟩
 by_cases c1 : q ≥ 1000000000
 ·obtain ⟨d1, d2⟩ := stepdn zc zc
  by_cases c2 : r + v1 ≥ 1000000000
  ·right
   obtain ⟨q', e1, e2⟩ := d1 c2
   refine ⟨.inl (q', ()), ?_, q', e1.1, e1.2.1, e1.2.2, rfl⟩
   refine uT (zo c1) (uT (zo c2) ?_)
   repeat refine za ?_
   rw [aaH, e2]
  ·left
   obtain ⟨e1, e2⟩ := d2 c2
   refine ⟨(r + v1, q - 1, ()), ?_, e1, by dsimp only; omega⟩
   refine uT (zo c1) (uF (zn c2) ?_)
   repeat refine za ?_
   rw [aaH, e2]
 ·have hm := arH (a := q) (b := v2) (B := 1000000000) ⟨by omega, by omega⟩ dv2
  have wm : abN (q * abN v2) = q * v2 := by rw [aaO (x := v2) zc, aaO zc]
  have wn : abN (abN (r * 1000000000) + abN u2) = r * 1000000000 + u2 := by rw [aaO (x := r * 1000000000) zc, aaO (x := u2) zc, aaO zc]
  simp only [wm, wn]
  by_cases c3 : q * v2 > r * 1000000000 + u2
  ·have hdn := aOG (q := q) (r := r) (xk hVpos) hP g4 zc hUhi hQ1 zc c3
   obtain ⟨d1, d2⟩ := stepdn hdn zc
   by_cases c2 : r + v1 ≥ 1000000000
   ·right
    obtain ⟨q', e1, e2⟩ := d1 c2
    refine ⟨.inl (q', ()), ?_, q', e1.1, e1.2.1, e1.2.2, rfl⟩
    refine uF (zn c1) (uN ⟨by omega, by rw [aaB, hn]; omega⟩ (uN ⟨by omega, by omega⟩ (uT (zo c3) (uT (zo c2) ?_))))
    repeat refine za ?_
    rw [aaH, e2]
   ·left
    obtain ⟨e1, e2⟩ := d2 c2
    refine ⟨(r + v1, q - 1, ()), ?_, e1, by dsimp only; omega⟩
    refine uF (zn c1) (uN ⟨by omega, by rw [aaB, hn]; omega⟩ (uN ⟨by omega, by omega⟩ (uT (zo c3) (uF (zn c2) ?_))))
    repeat refine za ?_
    rw [aaH, e2]
  ·right
   have hdone := aHi (q := q) (r := r) hP g4 hVe s4 s5 hUlo zc zc hVB hQ2 zc
   refine ⟨.inl (q, ()), ?_, q, by omega, by omega, by omega, rfl⟩
   refine uF (zn c1) (uN ⟨by omega, by rw [aaB, hn]; omega⟩ (uN ⟨by omega, by omega⟩ (uF (zn c3) ?_)))
   repeat refine za ?_
   rfl
theorem aKl {b s t L : Nat} (hs : s * (t + 1) ≤ 1000000000) (hs1 : 1 ≤ s) (h1 : 1000000000 ^ L * t ≤ b) (h2 : b < 1000000000 ^ L * (t + 1)) (ht : 1 ≤ t) : (mag (b * s)).length = L + 1 := by
 have a1 : b * s < 1000000000 ^ (L + 1) := by
  have c1 : b * s < (1000000000 ^ L * (t + 1)) * s := Nat.mul_lt_mul_of_pos_right h2 zc
  have c2 : (1000000000 ^ L * (t + 1)) * s = 1000000000 ^ L * (s * (t + 1)) := by rw [wj, yJ (t + 1)]
  have c3 : 1000000000 ^ L * (s * (t + 1)) ≤ 1000000000 ^ L * 1000000000 := yw _ hs
  rw [yA]; omega
 have a2 := mag_length_le_iff.2 a1
 have a3 : 1000000000 ^ L ≤ b * s := by
  have c1 : 1000000000 ^ L * 1 ≤ 1000000000 ^ L * t := yw _ ht
  have c2 : b * 1 ≤ b * s := yw _ hs1
  omega
 rcases zr L (mag (b * s)).length with h | h
 ·omega
 ·have := mag_length_le_iff.1 h; omega
theorem aLR (m o : List Int) (y : Int × Unit) (y4 : List Int × Unit) (v q u : List Int) (j n : Nat) (qq : Int) (X : (Int × List Int × List Int × Unit) ⊕ (List Int × List Int × Unit)) (hvd : Dg 1000000000 v) (g7 : Dg 1000000000 u) (lv : v.length = n + 2) (g6 : u.length = m.length + 1) (hN : m.length ≤ 1000000000000) (hj : j + n + 2 < u.length) (hvtop : 1 ≤ v.getD (n + 1) 0)
  (p4 : acW (fun i1 => (agG m o y (v, ()) y4 ((j : Int), q, u, ()) i1).toO) ((u.getD (j + n + 2) 0 * 1000000000 + u.getD (j + n + 1) 0) % v.getD (n + 1) 0, (u.getD (j + n + 2) 0 * 1000000000 + u.getD (j + n + 1) 0) / v.getD (n + 1) 0, ()) = some (.inl (qq, ())))
  (r1 : acW (fun i1 => (agF m o y (v, ()) y4 ((j : Int), q, u, ()) (qq, ()) i1).toO) (0, 0, 0, u, ()) = some X) : (ahW m o y (v, ()) y4 ((j : Int), q, u, ())).toO = some X := by
 have wlv : len v = ((n + 2 : Nat) : Int) := by rw [aaB, lv]
 have wa : w64 (w64 ((j : Int) + len v) + 1) = ((j + n + 2 + 1 : Nat) : Int) := by rw [wlv, aaA (x := (j : Int) + ((n + 2 : Nat) : Int)) zc, aaA zc]; omega
 have wb : ((((j + n + 2 + 1 : Nat) : Int).toNat - (j : Int).toNat : Nat) : Int) = ((n + 3 : Nat) : Int) := zc
 have wb1 : w64 (len v - 1) = ((n + 1 : Nat) : Int) := by rw [wlv, aaA zc]; omega
 have w2 : w64 (len m + 1) = ((m.length + 1 : Nat) : Int) := by rw [aaB, aaA zc]; omega
 have dv1 := aa2 zc hvd (n + 1)
 have du0 := aa2 zc g7 (j + n + 2)
 have du1 := aa2 zc g7 (j + n + 1)
 have hgi1 : abN (gi v ((n + 1 : Nat) : Int) 0) = v.getD (n + 1) 0 := by rw [aaM, aaO zc]
 have wH : abN (abN (abN (u.getD (j + (n + 2)) 0) * 1000000000) + abN (u.getD (j + (n + 1)) 0)) = u.getD (j + n + 2) 0 * 1000000000 + u.getD (j + n + 1) 0 := by
  rw [show j + (n + 2) = j + n + 2 by omega, show j + (n + 1) = j + n + 1 by omega, aaO (x := u.getD (j + n + 2) 0) zc, aaO (x := u.getD (j + n + 2) 0 * 1000000000) zc, aaO (x := u.getD (j + n + 1) 0) zc, aaO zc]
 have hH0 : 0 ≤ u.getD (j + n + 2) 0 * 1000000000 + u.getD (j + n + 1) 0 := zc
 have tm := zE (b := v.getD (n + 1) 0) hH0
 have td := zL (b := v.getD (n + 1) 0) hH0
 have hdle : (u.getD (j + n + 2) 0 * 1000000000 + u.getD (j + n + 1) 0) / v.getD (n + 1) 0 ≤ u.getD (j + n + 2) 0 * 1000000000 + u.getD (j + n + 1) 0 := Int.ediv_le_self _ hH0
 have hdge : 0 ≤ (u.getD (j + n + 2) 0 * 1000000000 + u.getD (j + n + 1) 0) / v.getD (n + 1) 0 := xz hH0 zc
 have wq : abN ((u.getD (j + n + 2) 0 * 1000000000 + u.getD (j + n + 1) 0) / v.getD (n + 1) 0) = (u.getD (j + n + 2) 0 * 1000000000 + u.getD (j + n + 1) 0) / v.getD (n + 1) 0 := aaO zc
 simp only [ahW, wa, wb, wb1, hgi1, w2, zp, zv]
 have wlt : (len v).toNat = n + 2 := by rw [wlv]; omega
 simp only [wlt, wH, tm, td, wq]
 refine uT sd (uN ⟨by omega, by omega⟩ (uN ⟨by omega, by omega⟩ (uN ⟨by omega, by omega⟩ (uN ⟨by omega, by omega⟩ (uN ⟨by omega, by omega⟩ (uN zc (uN zc ?_)))))))
 refine uL (qq, ()) ?_ ?_
 ·refine uO ((u.getD (j + n + 2) 0 * 1000000000 + u.getD (j + n + 1) 0) % v.getD (n + 1) 0, (u.getD (j + n + 2) 0 * 1000000000 + u.getD (j + n + 1) 0) / v.getD (n + 1) 0, ()) ?_ p4
  repeat refine za ?_
  rfl
 ·unfold as9
  refine uO (0, 0, 0, u, ()) (by repeat refine za ?_; rfl) ?_
  exact r1
set_option maxHeartbeats 1000000 in
theorem apH (m o : List Int) (y) (h : abC (m, o, ()) = some y) : (aj2 m o).toO = some y := by
 obtain ⟨⟨a, b⟩, hp, hx, rfl⟩ := aaE h
 obtain ⟨rfl, hx2⟩ := Prod.mk.inj hx; obtain ⟨rfl, -⟩ := Prod.mk.inj hx2; dsimp only
 obtain ⟨la, lb, hb0⟩ := hp
 simp only at la lb hb0
 clear h hx hx2
 unfold aj2
 have hcmp : adN (mag a, mag b, ()) = some (atG a b, ()) := aaK (enc := fun p : Nat × Nat => (mag p.1, mag p.2, ())) (a, b) ⟨by dsimp only; omega, by dsimp only; omega⟩ (fun b hb => adC hb)
 refine uC _ hcmp ?_
 by_cases hab : a < b
 ·refine uT (zo (by unfold atG; rw [if_pos zc]; show (-1 : Int) < 0; omega)) ?_
  rw [xb hab, yB hab, mag_zero]; rfl
 refine uF (zn (by unfold atG; rw [if_neg zc]; split <;> decide)) ?_
 have hbl : 1 ≤ (mag b).length := by
  rcases zF (mag b).length with h5 | h5
  ·exact absurd (mag_nil_iff.1 (zW.1 h5)) hb0
  ·exact h5
 have hshort : ∀ x d : Nat, (mag x).length ≤ 1000000000000 → 0 < d → d < 4294967296 → ajG (mag x, (d : Int), ()) = some (mag (x / d), ((x % d : Nat) : Int), ()) := by
  intro x d h1 h2 h3
  refine aaK (enc := fun p : Nat × Nat => (mag p.1, (p.2 : Int), ())) (x, d) ⟨h1, h2, h3⟩ (fun b hb => ?_)
  obtain ⟨e1, e2⟩ := Prod.mk.inj hb
  obtain ⟨e2, -⟩ := Prod.mk.inj e2
  exact Prod.ext (adK e1) (Int.ofNat.inj e2)
 by_cases h1 : (mag b).length = 1
 ·refine uT sd (uN ⟨by simp [asT], by exact sn⟩ ?_)
  have hb1 : b < 1000000000 := by have := mag_length_le_iff.1 (vz h1); simpa using this
  have hg : gi (mag b) 0 0 = (b : Int) := by rw [apD hb0 hb1]; rfl
  rw [hg]
  refine uC _ (hshort a b zc zc zc) ?_
  have hm := yU a (show 0 < b by omega)
  generalize a % b = r at hm ⊢
  refine uC (mag r, ()) ?_ rfl
  dsimp only
  rw [aaO (x := (r : Int)) zc]
  unfold abM
  rw [if_pos zk]
  simp
 refine uF sd ?_
 obtain ⟨n, hnl⟩ : ∃ n, (mag b).length = n + 2 := ⟨(mag b).length - 2, by omega⟩
 have hml : n + 2 ≤ (mag a).length := by rw [← hnl]; exact abP zc
 obtain ⟨t, ht, t1, t2, t3, t4⟩ := aFw hb0
 have w1 : w64 (len (mag b) - 1) = ((n + 1 : Nat) : Int) := by rw [aaB, hnl, aaA zc]; omega
 rw [hnl, show n + 2 - 1 = n + 1 by omega] at ht t3 t4
 have hg : gi (mag b) ((n + 1 : Nat) : Int) 0 = (t : Int) := by rw [aaM, ht]
 have wt : adT ((t : Int) + 1) = ((t + 1 : Nat) : Int) := by rw [aaZ zc]; omega
 obtain ⟨s, hs⟩ : ∃ s, s = 1000000000 / (t + 1) := ⟨_, rfl⟩
 have hs1 : 1 ≤ s := by rw [hs]; exact (wG zc).2 zc
 have hs2 : s * (t + 1) ≤ 1000000000 := by rw [hs]; exact Nat.div_mul_le_self _ _
 have hs3 : s < 1000000000 := by
  have : s * 2 ≤ s * (t + 1) := yw _ zc
  omega
 have ws : adT (Int.tdiv 1000000000 ((t + 1 : Nat) : Int)) = (s : Int) := by
  have : Int.tdiv 1000000000 ((t + 1 : Nat) : Int) = (s : Int) := by
   rw [zL zc, hs]; rfl
  rw [this, aaZ zc]
 simp only [w1, hg, wt, ws]
 refine uN sd (uN zc ?_)
 have hms : mag s = [(s : Int)] := apD zc hs3
 have lv : (mag (b * s)).length = n + 2 := aKl hs2 hs1 t3 t4 t1
 have htimes : ∀ x : Nat, (mag x).length ≤ 1000000000000 → ab9 (mag x, [(s : Int)], ()) = some (mag (x * s), ()) := by
  intro x hx
  rw [← hms]
  exact aaK (enc := fun p : Nat × Nat => (mag p.1, mag p.2, ())) (x, s) ⟨hx, by rw [hms]; simp⟩ (fun b hb => adC hb)
 refine uC _ (htimes b zc) ?_
 have w2 : w64 (len (mag a) + 1) = (((mag a).length + 1 : Nat) : Int) := by rw [aaB, aaA zc]; omega
 obtain ⟨K, hK⟩ : ∃ K, (mag a).length = K + n + 2 := ⟨(mag a).length - (n + 2), by omega⟩
 have w3 : w64 (len (mag a) - len (mag (b * s))) = (K : Int) := by rw [aaB, aaB, lv, hK, aaA zc]; omega
 have w4 : w64 ((K : Int) + 1) = ((K + 1 : Nat) : Int) := by rw [aaA zc]; omega
 simp only [w2, w3, w4]
 refine uN zc ?_
 refine uC _ (htimes a zc) ?_
 refine uN zc ?_
 have las : (mag (a * s)).length ≤ (mag a).length + 1 := by
  have := af1 a s
  rw [hms] at this; simpa using this
 have htk : List.take (mag a).length.succ (mag (a * s)) = mag (a * s) := zu las
 -- the start
 have hu0d : Dg 1000000000 (over (List.replicate ((mag a).length + 1) 0) 0 (mag (a * s))) := by
  rw [arC las]; exact afE (agM _) (af5 zc _)
 have hu0V : V 1000000000 (over (List.replicate ((mag a).length + 1) 0) 0 (mag (a * s))) = ((a * s : Nat) : Int) := by rw [aRh las, al0]
 have hu0l : (over (List.replicate ((mag a).length + 1) 0) 0 (mag (a * s))).length = (mag a).length + 1 := by rw [arC las]; simp; omega
 refine uO ((K : Int), List.replicate (K + 1) 0, over (List.replicate ((mag a).length + 1) 0) 0 (mag (a * s)), ()) ?_ ?_
 ·repeat refine za ?_
  simp only [zp, w4]
  rw [show List.take ((mag a).length + 1) (mag (a * s)) = mag (a * s) from htk]
  rfl
 generalize hu0 : over (List.replicate ((mag a).length + 1) 0) 0 (mag (a * s)) = u0 at *
 have hvd := agM (b * s)
 have hvV := al0 (b * s)
 have hvpos : 0 < b * s := Nat.mul_pos zc zc
 have hvtop : 1 ≤ (mag (b * s)).getD (n + 1) 0 := by
  obtain ⟨t', e1, e2, -⟩ := aFw (n := b * s) zc
  rw [lv, show n + 2 - 1 = n + 1 by omega] at e1
  omega
 generalize hv : mag (b * s) = v at *
 have hdrop0 : V 1000000000 (u0.drop (K + 1)) < V 1000000000 v := by
  have e1 := ab5 1000000000 u0 (K + 1)
  have e2 := aaS zc (ab4 hu0d (K + 1))
  have e3 := aaS zc (acH hu0d (K + 1))
  rw [hu0V] at e1
  have a1 : a < 1000000000 ^ (K + 1) * b := by
   have c1 := mag_length_le_iff.1 (vz hK)
   have c2 : 1000000000 ^ (n + 1) ≤ b := by
    have : 1000000000 ^ (n + 1) * 1 ≤ 1000000000 ^ (n + 1) * t := yw _ t1
    omega
   have c3 : 1000000000 ^ (K + 1) * 1000000000 ^ (n + 1) ≤ 1000000000 ^ (K + 1) * b := yw _ c2
   rw [← xw, show K + 1 + (n + 1) = K + n + 2 by omega] at c3
   omega
  have a2 : a * s < (1000000000 ^ (K + 1) * b) * s := Nat.mul_lt_mul_of_pos_right a1 zc
  have a3 : ((a * s : Nat) : Int) < (((1000000000 ^ (K + 1) * b) * s : Nat) : Int) := Int.ofNat_lt.2 a2
  have a4 : ((((1000000000 ^ (K + 1) * b) * s : Nat)) : Int) = 1000000000 ^ (K + 1) * V 1000000000 v := by
   rw [hvV, wj, yx, wx]; rfl
  rw [a4] at a3
  have a5 : 1000000000 ^ (K + 1) * V 1000000000 (u0.drop (K + 1)) < 1000000000 ^ (K + 1) * V 1000000000 v := zc
  exact yR a5 (xk (yE zc))
 refine aaL (fun i : Int × List Int × List Int × Unit => ∃ k : Nat, k ≤ K + 1 ∧ i.1 = (k : Int) - 1 ∧ i.2.1.length = K + 1 ∧ Dg 1000000000 i.2.1 ∧ (∀ p, p < k → i.2.1.getD p 0 = 0) ∧ i.2.2.1.length = (mag a).length + 1 ∧ Dg 1000000000 i.2.2.1 ∧ V 1000000000 (i.2.2.1.drop k) < V 1000000000 v ∧ ((a * s : Nat) : Int) = V 1000000000 i.2.1 * V 1000000000 v + V 1000000000 i.2.2.1) (fun i => (i.1 + 1).toNat) (fun _ => (mag (a / b), mag (a % b), ())) ?_ _ ⟨K + 1, zq _, by dsimp only; omega, by simp, af5 zc _, fun p _ => by simp [yr, List.getElem?_replicate]; split <;> rfl, hu0l, hu0d, hdrop0, by rw [asB, hu0V]; omega⟩
 rintro ⟨i, q, u, u6⟩ ⟨k, g1, g2, g3, g4, g5, g6, g7, g8, g9⟩
 dsimp only at g2 g3 g4 g5 g6 g7 g8 g9
 subst g2
 cases k with
 | zero =>
  right
  rw [yM] at g8
  obtain ⟨x, hx⟩ := zw (aaS zc g4)
  obtain ⟨r, hr⟩ := zw (aaS zc g7)
  rw [hx, hr, hvV] at g9
  rw [hr, hvV] at g8
  have h8 : a * s = x * (b * s) + r := by
   have : ((a * s : Nat) : Int) = ((x * (b * s) + r : Nat) : Int) := by rw [g9]; simp
   exact Int.ofNat.inj this
  have h9 : x = a / b := by
   have : a * s / (b * s) = x := by rw [h8, xd, wF _ _ hvpos, xb zc, zv]
   rw [← this, Nat.mul_div_mul_right _ _ zc]
  have h10 : r = (a % b) * s := by
   have : a * s % (b * s) = r := by rw [h8, xd, xV, yB zc]
   rw [← this, Nat.mul_mod_mul_right]
  have hrl : (mag r).length ≤ n + 2 := by rw [← lv, ← hv]; exact abP zc
  have hVtake : V 1000000000 (u.take (n + 2)) = r := by
   have e1 := ab5 1000000000 u (n + 2)
   have e2 := aaS zc (ab4 g7 (n + 2))
   have e3 := aaS zc (acH g7 (n + 2))
   have e4 : V 1000000000 u < 1000000000 ^ (n + 2) := by
    have := aJF zc hvd
    rw [lv] at this
    omega
   have e5 : V 1000000000 (u.drop (n + 2)) < 1 := by
    have : 1000000000 ^ (n + 2) * V 1000000000 (u.drop (n + 2)) < 1000000000 ^ (n + 2) * 1 := zc
    exact yR this (xk (yE zc))
   have e6 : V 1000000000 (u.drop (n + 2)) = 0 := zc
   rw [e6, wi] at e1
   omega
  have wlv : len v = ((n + 2 : Nat) : Int) := by rw [aaB, lv]
  simp only [ahW, w1, hg, wt, ws, w2, w3, w4, wlv, zp]
  have wkk : w64 (w64 (len (mag a) - ((n + 2 : Nat) : Int)) + 1) = ((K + 1 : Nat) : Int) := by rw [← wlv, w3, w4]
  simp only [wkk, zp]
  refine uF sd (uN ⟨by omega, by omega⟩ ?_)
  have htr : ∀ (l : List Int) (z : Nat), Dg 1000000000 l → l.length ≤ 2000000000000 → V 1000000000 l = z → acD (l, ()) = some (mag z, ()) := by
   intro l z h1 h2 h3
   unfold acD
   rw [if_pos ⟨h1, h2⟩]
   simp only [h3, zp]
  refine uC _ (htr _ r (ab4 g7 _) (by rw [zK]; omega) hVtake) ?_
  refine uC _ (hshort r s zc zc zc) ?_
  have htq : List.take (K + 1) q = q := zu zc
  rw [htq]
  refine uC _ (htr q x g4 zc hx) ?_
  rw [aaH, h9, h10, wz _ zc]
 | succ j =>
  left
  have e6 : ((j + 1 : Nat) : Int) - 1 = (j : Int) := zc
  rw [e6]
  have wlv : len v = ((n + 2 : Nat) : Int) := by rw [aaB, lv]
  have wa : w64 (w64 ((j : Int) + len v) + 1) = ((j + n + 2 + 1 : Nat) : Int) := by rw [wlv, aaA (x := (j : Int) + ((n + 2 : Nat) : Int)) zc, aaA zc]; omega
  have wb : ((((j + n + 2 + 1 : Nat) : Int).toNat - (j : Int).toNat : Nat) : Int) = ((n + 3 : Nat) : Int) := zc
  have wb1 : w64 (len v - 1) = ((n + 1 : Nat) : Int) := by rw [wlv, aaA zc]; omega
  have hvpos' : 0 < V 1000000000 v := by rw [hvV]; omega
  have du := aa2 zc g7 j
  have eU := aaU 1000000000 u j
  have hU0 := aaS zc (acH g7 j)
  have hUB : V 1000000000 (u.drop j) < V 1000000000 v * 1000000000 := zc
  have hvlt : V 1000000000 v < 1000000000 ^ (n + 2) := by have := aJF zc hvd; rwa [lv] at this
  have hz : V 1000000000 (u.drop (j + n + 2 + 1)) = 0 := by
   have e1 := ab5 1000000000 (u.drop (j + 1)) (n + 2)
   rw [ya, show j + 1 + (n + 2) = j + n + 2 + 1 by omega] at e1
   have e2 := aaS zc (ab4 (acH g7 (j + 1)) (n + 2))
   have e3 := aaS zc (acH g7 (j + n + 2 + 1))
   have e5 : V 1000000000 (u.drop (j + n + 2 + 1)) < 1 := by
    have : 1000000000 ^ (n + 2) * V 1000000000 (u.drop (j + n + 2 + 1)) < 1000000000 ^ (n + 2) * 1 := zc
    exact yR this (xk (yE zc))
   omega
  obtain ⟨Q, hQ⟩ : ∃ Q, Q = V 1000000000 (u.drop j) / V 1000000000 v := ⟨_, rfl⟩
  have hdm := yi (V 1000000000 (u.drop j)) (V 1000000000 v)
  have hr0 := yN (V 1000000000 (u.drop j)) (show V 1000000000 v ≠ 0 by omega)
  have hr1 := yz (V 1000000000 (u.drop j)) hvpos'
  have hQ0 : 0 ≤ Q := by rw [hQ]; exact xz hU0 zc
  rw [← hQ, yI] at hdm
  have hQB : Q < 1000000000 := by
   have : Q * V 1000000000 v < 1000000000 * V 1000000000 v := zc
   exact yf this zc
  obtain ⟨qq, p1, p2, p3, p4⟩ := aLQ (mag a) (mag b) (atG a b, ()) (mag (a * s), ()) v q u j n (V 1000000000 (u.drop j)) Q hvd lv zc zc g7 hz rfl hUB zc (by rw [wR]; omega) hQ0 hvtop
  obtain ⟨u', r1, r2, r3, r4, r5⟩ := aLP (mag a) (mag b) (atG a b, ()) (mag (a * s), ()) v q u j (n + 2) qq Q hvd lv zc zc g7 ⟨p2, p3⟩ (by rw [w3, w4]; exact ⟨by omega, by omega⟩) hz p1 zc zc hQ0
  have k1 : j ≤ K + 1 := Nat.le_of_succ_le g1
  have k3 : (q.set j Q).length = K + 1 := by rw [yX]; exact g3
  have k4 := aiB g4 ⟨hQ0, hQB⟩ j
  have k6 : u'.length = (mag a).length + 1 := by rw [r2]; exact g6
  have k8 : V 1000000000 (u'.drop j) < V 1000000000 v := by rw [r5]; omega
  have k9 : ((j : Int) - 1 + 1).toNat < ((j : Int) + 1).toNat := zc
  refine ⟨((j : Int) - 1, q.set j Q, u', ()), ?_, ⟨j, k1, rfl, k3, k4, ?_, k6, r3, k8, ?_⟩, k9, ze⟩
  ·exact aLR (mag a) (mag b) (atG a b, ()) (mag (a * s), ()) v q u j n qq _ hvd g7 lv g6 zc zc hvtop p4 r1
  ·intro p hp
   dsimp only
   rw [an5 _ zc]
   exact g5 p zc
  ·dsimp only
   rw [axG _ zc, g5 j zc, r4, g9]
   grind
theorem aHI (n o : SgT) (y) (h : axH (n, o, ()) = some y) : (akY n o).toO = some y := by
 obtain ⟨⟨a, b⟩, hp, hx, rfl⟩ := aaE h
 obtain ⟨rfl, hx2⟩ := Prod.mk.inj hx; obtain ⟨rfl, -⟩ := Prod.mk.inj hx2; dsimp only
 obtain ⟨l1, l2⟩ := hp
 simp only at l1 l2
 unfold akY
 dsimp only
 refine uC _ (aCb (aaI l2 zc)) ?_
 refine uC (sg (a + -b), ()) (aOY l1 (by rw [xE]; exact l2)) ?_
 rw [← Int.sub_eq_add_neg]; rfl
theorem aPz {a b : Int} : a * b = 0 ∨ (!(decide (a < 0) == decide (b < 0))) = decide (a * b < 0) := by
 rcases xB a 0 with ha | ha | ha
 ·rcases xB b 0 with hb | hb | hb
  ·right
   have := xY ha hb
   rw [zo ha, zo hb, zn zc]; rfl
  ·left; rw [hb, wi]
  ·right
   have := xW ha hb
   rw [zo ha, zn zc, zo this]; rfl
 ·left; rw [ha, Int.zero_mul]
 ·rcases xB b 0 with hb | hb | hb
  ·right
   have := xX ha hb
   rw [zn zc, zo hb, zo this]; rfl
  ·left; rw [hb, wi]
  ·right
   have := vh ha hb
   rw [zn zc, zn zc, zn zc]; rfl
theorem ax9 (n o : SgT) (y) (h : ah2 (n, o, ()) = some y) : (akX n o).toO = some y := by
 obtain ⟨⟨a, b⟩, hp, hx, rfl⟩ := aaE h
 obtain ⟨rfl, hx2⟩ := Prod.mk.inj hx; obtain ⟨rfl, -⟩ := Prod.mk.inj hx2; dsimp only
 obtain ⟨l1, l2⟩ := hp
 simp only at l1 l2
 unfold akX
 dsimp only
 refine uC _ (asI (aaI l1 zc) (aaI l2 zc)) ?_
 exact uC (sg (a * b), ()) (aAy (by rw [yF]) aPz) rfl
def aoA (l : List Int) (j : Nat) : Bool := (List.range j).any (fun i => decide (l.getD (i + 1) 0 < l.getD i 0))
def ak3 (l : List Int) (j : Nat) : Bool := (List.range j).any (fun i => decide (l.getD (i + 1) 0 > l.getD i 0))
theorem atB (l : List Int) (j : Nat) : aoA l (j + 1) = (aoA l j || decide (l.getD (j + 1) 0 < l.getD j 0)) := by
 unfold aoA; rw [List.range_succ, List.any_append]; simp
theorem asS (l : List Int) (j : Nat) : ak3 l (j + 1) = (ak3 l j || decide (l.getD (j + 1) 0 > l.getD j 0)) := by
 unfold ak3; rw [List.range_succ, List.any_append]; simp
theorem azD {c : CvT} (h : abF c) : c.2.1.length ≤ 17 ∧ (c.1 = 3 → 1 ≤ c.2.2.1.length ∧ c.2.2.1.length ≤ 4) := by
 rcases h with ⟨h1, h2, h3⟩ | ⟨h1, h2, h3⟩ | ⟨h1, h2, h3⟩
 ·rw [h2]; exact ⟨by simp, fun h => by omega⟩
 ·exact ⟨h2.2.1, fun h => by omega⟩
 ·rw [h2]; exact ⟨by simp, fun _ => ⟨h3.1, h3.2.1⟩⟩
theorem aGh (c : CvT) (y) (h : agJ (c, ()) = some y) : (aw1 c).toO = some y := by
 injection h with h
 subst h
 obtain ⟨kind, tab, l, u0⟩ := c
 unfold aw1
 dsimp only
 refine uC _ (aqO (kind, tab, l, ())) ?_
 by_cases hr : abF (kind, tab, l, ())
 case neg =>
  have hr' : ¬ abF (kind, tab, l, u0) := hr
  rw [if_neg hr']
  rw [if_neg hr]
  exact uT rfl rfl
 have hr' : abF (kind, tab, l, u0) := hr
 rw [if_pos hr']
 rw [if_pos hr]
 obtain ⟨hl1, hl2⟩ := azD hr
 dsimp only at hl1 hl2
 refine uF rfl (uO (1, false, false, ()) rfl ?_)
 refine aaL (fun i : Int × Bool × Bool × Unit => ∃ j : Nat, j ≤ tab.length - 1 ∧ i.1 = (j : Int) + 1 ∧ i.2.1 = aoA tab j ∧ i.2.2.1 = ak3 tab j) (fun i => ((tab.length : Int) - i.1).toNat) (fun _ => (ay5 (kind, tab, l, u0), 0, ())) ?_ _ ⟨0, by omega, rfl, rfl, rfl⟩
 rintro ⟨i, dn, up, u⟩ ⟨j, h1, h2, h3, h4⟩
 dsimp only at h2 h3 h4
 subst h2
 simp only [aAq]
 have hw1 : w64 ((j : Int) + 1 + 1) = (((j + 1 : Nat) : Int)) + 1 := by rw [aaA zc]; omega
 have hw2 : w64 ((j : Int) + 1 - 1) = (j : Int) := by rw [aaA zc]; omega
 have hj1 : (j : Int) + 1 = ((j + 1 : Nat) : Int) := rfl
 rcases zr (j + 1) tab.length with hk | hk
 ·left
  refine ⟨((((j + 1 : Nat) : Int)) + 1, aoA tab (j + 1), ak3 tab (j + 1), ()), ?_, ⟨j + 1, by omega, rfl, rfl, rfl⟩, by dsimp only; omega, ze⟩
  refine uT sd ?_
  rw [hw1, hw2, hj1, atB, asS, ← h3, ← h4]
  simp only [aaM]
  cases up
  ·refine uF rfl (uN ⟨by exact sn, by exact sn⟩ (uN ⟨by exact sn, by exact sn⟩ ?_))
   cases dn
   ·exact uF rfl (uN ⟨by exact sn, by exact sn⟩ (uN ⟨by exact sn, by exact sn⟩ rfl))
   ·exact uT rfl rfl
  ·refine uT rfl ?_
   cases dn
   ·exact uF rfl (uN ⟨by exact sn, by exact sn⟩ (uN ⟨by exact sn, by exact sn⟩ rfl))
   ·exact uT rfl rfl
 ·right
  refine uF sd ?_
  have hj : j = tab.length - 1 := zc
  subst hj
  have h3' : dn = aLU tab := h3
  have h4' : up = ak3 tab (tab.length - 1) := h4
  unfold ay5
  dsimp only
  by_cases k3 : kind = 3
  ·obtain ⟨g1, g2⟩ := hl2 k3
   rw [if_pos k3]
   subst k3
   refine uT rfl (uN ⟨by exact sn, by exact sn⟩ ?_)
   have hg : gi l 0 zs = l.getD 0 zs := aaM l 0 zs
   rw [hg]
   by_cases g3 : l.length > 1
   ·have e1 : (!decide (len l > 1)) = false := by rw [zo (by rw [aaB]; omega)]; rfl
    rw [if_pos g3, e1]
    by_cases g4 : (l.getD 0 zs).2.1 < 0
    ·exact uT (zo g4) (uF rfl rfl)
    ·exact uF (zn g4) (uF rfl (uF rfl rfl))
   ·have e1 : (!decide (len l > 1)) = true := by rw [zn (by rw [aaB]; omega)]; rfl
    rw [if_neg g3, e1]
    by_cases g4 : (l.getD 0 zs).2.1 < 0
    ·rw [if_pos g4]; exact uT (zo g4) (uT rfl rfl)
    ·rw [if_neg g4]; exact uF (zn g4) (uT rfl rfl)
  ·rw [if_neg k3]
   have h5 : up = aKp tab := h4'
   refine uF (beq_eq_false_iff_ne.2 k3) ?_
   rw [h3', h5]
   cases aLU tab
   ·exact uT rfl rfl
   ·refine uF rfl ?_
    cases aKp tab
    ·exact uT rfl rfl
    ·exact uF rfl rfl
end Go.Vs
