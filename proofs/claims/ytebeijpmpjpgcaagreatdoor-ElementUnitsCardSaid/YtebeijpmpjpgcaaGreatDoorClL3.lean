/-
  Trees of what the functions compute, and their laws. Own work; no condition.
-/
import Derived.Test.YtebeijpmpjpgcaaGreatDoorClL2
import Derived.Test.YtebeijpmpjpgcaaGreatDoorProg
set_option linter.unusedVariables false
set_option linter.unusedSimpArgs false
namespace Go.Vs
open Go Go.Vg
theorem aEG (Vs P c A K x T X Y d e Q B : Int) (h : Vs + P * c = A + K * (x * T)) (h2 : X + B * Y = c + d + x * e) (hP : P = K * Q) : Vs + P * (X - d) + P * B * Y = A + K * (x * (T + Q * e)) := by
 subst hP
 have h3 : K * Q * (X + B * Y) = K * Q * (c + d + x * e) := by rw [h2]
 grind
theorem aDT {a b B : Int} (ha : 0 ≤ a ∧ a < B) (hb : 0 ≤ b ∧ b < B) : 0 ≤ a * b ∧ a * b ≤ (B - 1) * (B - 1) := by
 refine ⟨xg ha.1 hb.1, ?_⟩
 have h1 : a * b ≤ a * (B - 1) := zy zc ha.1
 have h2 : a * (B - 1) ≤ (B - 1) * (B - 1) := zD zc zc
 omega
theorem aoN {a b : List Int} (h1 : Dg 10000 a) (h2 : Dg 10000 b ∨ b = [10000]) (h3 : a.length ≤ 400000000000) (h4 : b.length ≤ 400000000000) {n : Nat} (hn : V 10000 a * V 10000 b = n) : acN (a, b, ()) = some (dig n, ()) := by
 unfold acN
 rw [if_pos ⟨h1, h2, h3, h4⟩]
 simp only [hn, zk]
theorem avZ (A D : List Int) (hda : Dg 10000 A) (hdb : Dg 10000 D) (la : A.length ≤ 400000000000) (lb : D.length ≤ 400000000000) : (aeD A D).toO = some (dig (V 10000 A * V 10000 D).toNat, ()) := by
 have nb := aaQ zc hdb
 have hw : w64 (len A + len D) = ((A.length + D.length : Nat) : Int) := by
  simp only [aaN]; rw [aaB (x := (A.length : Int) + D.length) zc]; omega
 unfold aeD
 simp only [hw]
 refine uN zc ?_
 refine uO (0, List.replicate (A.length + D.length) 0, ()) ?_ ?_
 ·repeat refine za ?_
  simp (disch := omega) only [aaT, aaB, aaO, aa3, ab8, aaU, zl, zk, aaN, zt]
 have hBb : V 10000 D < 10000 ^ D.length := aEK zc hdb
 refine abH (fun i => ∃ k : Nat, k ≤ A.length ∧ i.1 = (k : Int) ∧ i.2.1.length = A.length + D.length ∧ Dg 10000 i.2.1 ∧ V 10000 i.2.1 = V 10000 (A.take k) * V 10000 D) (fun i => ((A.length : Int) - i.1).toNat) (fun _ => (dig (V 10000 A * V 10000 D).toNat, ())) ?_ _ ⟨0, zQ _, rfl, by simp, afW zc _, by simp [V, asK]⟩
 rintro ⟨i, s, u⟩ ⟨k, h1, h2, h3, h4, h5⟩
 simp only at h2 h3 h4 h5
 subst h2
 simp only [ahO, aaU, hw]
 have ea := abB 10000 A k
 have da := aa4 zc hda k
 rcases zx k A.length with hk | hk
 ·left
  have hs : V 10000 s < 10000 ^ (k + D.length) := by
   rw [h5, xy]
   have e1 := adC zc hda k
   have e2 := aaQ zc (acF hda k)
   have e3 : V 10000 (A.take k) * V 10000 D ≤ V 10000 (A.take k) * 10000 ^ D.length := zy zc e2
   have e4 : V 10000 (A.take k) * 10000 ^ D.length < 10000 ^ k * 10000 ^ D.length := Int.mul_lt_mul_of_pos_right e1 (yx zc)
   omega
  have hz := aiY zc h4 hs
  obtain ⟨r, hin, s', rfl, q1, q2, q3⟩ : ∃ r : ((Int × List Int × Unit) ⊕ (List Int × Unit)), ae1 (fun i1 => (adS A D ((k : Int), s, ()) i1).toO) (0, 0, s, ()) = some r ∧ ∃ s', r = Sum.inl (((k + 1 : Nat) : Int), s', ()) ∧ s'.length = A.length + D.length ∧ Dg 10000 s' ∧ V 10000 s' = V 10000 (A.take (k + 1)) * V 10000 D := by
   refine ahB (fun j => ∃ q : Nat, q ≤ D.length ∧ j.1 = (q : Int) ∧ 0 ≤ j.2.1 ∧ j.2.1 < 10000 ∧ j.2.2.1.length = A.length + D.length ∧ Dg 10000 j.2.2.1 ∧ (∀ t, k + D.length ≤ t → j.2.2.1.getD t 0 = 0) ∧ V 10000 j.2.2.1 + 10000 ^ (k + q) * j.2.1 = V 10000 (A.take k) * V 10000 D + 10000 ^ k * (A.getD k 0 * V 10000 (D.take q))) (fun j => ((D.length : Int) - j.1).toNat) _ ?_ _ ⟨0, zQ _, rfl, by simp, by simp, h3, h4, hz, by simp [V, h5]⟩
   rintro ⟨j, c, s1, u1⟩ ⟨q, g1, g2, g3, g4, g5, g6, g7, g8⟩
   simp only at g2 g3 g4 g5 g6 g7 g8
   subst g2
   have hkq : w64 ((k : Int) + q) = ((k + q : Nat) : Int) := by rw [aaB (x := (k : Int) + q) zc]; omega
   have hkl : w64 ((k : Int) + len D) = ((k + D.length : Nat) : Int) := by rw [aaN, aaB (x := (k : Int) + (D.length : Int)) zc]; omega
   simp only [adS, aaU, hw, hkq, hkl, zk, zl]
   have eb := abB 10000 D q
   have db := aa4 zc hdb q
   have ds := aa4 zc g6 (k + q)
   have hm := aDT da db
   rcases zx q D.length with hq | hq
   ·left
    have hsum : 0 ≤ c + s1.getD (k + q) 0 + A.getD k 0 * D.getD q 0 := zc
    have e1 := yc (c + s1.getD (k + q) 0 + A.getD k 0 * D.getD q 0) 10000
    have ww : w64 (w64 (c + s1.getD (k + q) 0) + w64 (A.getD k 0 * D.getD q 0)) = c + s1.getD (k + q) 0 + A.getD k 0 * D.getD q 0 := by
     rw [aaB (x := c + s1.getD (k + q) 0) zc, aaB (x := A.getD k 0 * D.getD q 0) zc, aaB zc]
    simp only [ww]
    have e2 : 0 ≤ (c + s1.getD (k + q) 0 + A.getD k 0 * D.getD q 0) % 10000 ∧ (c + s1.getD (k + q) 0 + A.getD k 0 * D.getD q 0) % 10000 < 10000 := zc
    have e3 : 0 ≤ (c + s1.getD (k + q) 0 + A.getD k 0 * D.getD q 0) / 10000 ∧ (c + s1.getD (k + q) 0 + A.getD k 0 * D.getD q 0) / 10000 < 10000 := zc
    refine ⟨(((q + 1 : Nat) : Int), (c + s1.getD (k + q) 0 + A.getD k 0 * D.getD q 0) / 10000, s1.set (k + q) ((c + s1.getD (k + q) 0 + A.getD k 0 * D.getD q 0) % 10000), ()), ?_, ⟨q + 1, by omega, rfl, e3.1, e3.2, by simp; omega, ahK g6 e2 _, ?_, ?_⟩, by simp only; omega⟩
    ·repeat refine za ?_
     rw [zM hsum, zJ hsum, aaB (x := (q : Int) + 1) zc, aaB (x := (c + s1.getD (k + q) 0 + A.getD k 0 * D.getD q 0) / 10000) zc]
     rfl
    ·intro t ht
     rw [akS _ zc]; exact g7 t ht
    ·simp only
     rw [atJ _ zc, eb, show k + (q + 1) = k + q + 1 by omega, yi]
     exact aEG _ _ _ _ _ _ _ _ _ _ _ _ _ g8 e1 (xy _ _ _)
   ·right
    have hqq : q = D.length := zc
    subst hqq
    rw [abR _ (zi _)] at g8
    refine ⟨.inl (((k + 1 : Nat) : Int), s1.set (k + D.length) c, ()), ?_, _, rfl, by simp; omega, ahK g6 ⟨g3, g4⟩ _, ?_⟩
    ·repeat refine za ?_
     rw [aaB (x := (k : Int) + 1) zc]
     rfl
    ·rw [atJ _ zc, g7 _ zc, ea, Int.add_mul]
     simp only [wz]
     rw [g8]
     grind
  refine ⟨(((k + 1 : Nat) : Int), s', ()), ?_, ⟨k + 1, by omega, rfl, q1, q2, q3⟩, by simp only; omega, ze⟩
  refine uT sd ?_
  refine uO (0, 0, s, ()) ?_ ?_
  ·repeat refine za ?_
   rfl
  ·exact hin
 ·right
  have hkk : k = A.length := zc
  rw [hkk, abR _ (zi _)] at h5
  have hnn := aaQ zc h4
  refine uF sd ?_
  refine uC (dig (V 10000 A * V 10000 D).toNat, ()) ?_ ?_
  ·rw [zr zg]
   exact afC h4 zc zc
  ·rfl
theorem ap3 (A : List Int) (hda : Dg 10000 A) (la : A.length ≤ 400000000000) : (aeD A [10000]).toO = some (dig (V 10000 A * V 10000 [10000]).toNat, ()) := by
 have na := aaQ zc hda
 have hV1 : V 10000 [10000] = 10000 := by simp [V]
 have hw : w64 (len A + len [(10000 : Int)]) = ((A.length + 1 : Nat) : Int) := by
  simp only [aaN, ye]; rw [aaB zc]; omega
 unfold aeD
 simp only [hw]
 refine uN zc ?_
 refine uO (0, List.replicate (A.length + 1) 0, ()) ?_ ?_
 ·repeat refine za ?_
  simp (disch := omega) only [aaT, aaB, aaO, aa3, ab8, aaU, zl, zk, aaN, zt]
 refine abH (fun i => ∃ k : Nat, k ≤ A.length ∧ i.1 = (k : Int) ∧ i.2.1 = ((0 :: A.take k) ++ List.replicate (A.length - k) 0)) (fun i => ((A.length : Int) - i.1).toNat) (fun _ => (dig (V 10000 A * V 10000 [10000]).toNat, ())) ?_ _ ⟨0, zQ _, rfl, by simp [xW]⟩
 rintro ⟨i, s, u⟩ ⟨k, h1, h2, h3⟩
 simp only at h2 h3
 subst h2 h3
 simp only [ahO, aaU, hw]
 have da := aa4 zc hda k
 rcases zx k A.length with hk | hk
 ·left
  have hrep : List.replicate (A.length - k) (0 : Int) = 0 :: List.replicate (A.length - (k + 1)) 0 := by
   rw [show A.length - k = (A.length - (k + 1)) + 1 by omega, xW]
  have hset : ((0 :: A.take k) ++ List.replicate (A.length - k) 0).set (k + 1) A[k] = ((0 :: A.take (k + 1)) ++ List.replicate (A.length - (k + 1)) 0) := by
   rw [hrep, List.set_append_right _ _ zg]
   have : k + 1 - (0 :: A.take k).length = 0 := zg
   rw [this, List.set_cons_zero]
   simp only [xB, yg hk, yY, yS]
  have hcur : 0 ≤ ((0 :: A.take k) ++ List.replicate (A.length - k) 0).getD k 0 ∧ ((0 :: A.take k) ++ List.replicate (A.length - k) 0).getD k 0 < 10000 := by
   refine aa4 zc (aeV (axM zc (acF hda k)) (afW zc _)) k
  have hlen : ((0 :: A.take k) ++ List.replicate (A.length - k) 0).length = A.length + 1 := zg
  generalize ((0 :: A.take k) ++ List.replicate (A.length - k) 0) = s at *
  generalize hd : s.getD k 0 = d at hcur
  have hg : A.getD k 0 = A[k] := by simp [hk]
  rw [hg] at da
  refine ⟨(((k + 1 : Nat) : Int), ((0 :: A.take (k + 1)) ++ List.replicate (A.length - (k + 1)) 0), ()), ?_, ⟨k + 1, by omega, rfl, rfl⟩, by simp only; omega, ze⟩
  refine uT sd ?_
  refine uO (0, 0, s, ()) ?_ ?_
  ·repeat refine za ?_
   rfl
  have hk0 : w64 ((k : Int) + 0) = ((k : Nat) : Int) := by rw [aaB zc]; omega
  have hkl : w64 ((k : Int) + len [(10000 : Int)]) = ((k + 1 : Nat) : Int) := by rw [aaN, ye, aaB zc]; omega
  have hsum : w64 (w64 (0 + d) + w64 (A[k] * 10000)) = d + A[k] * 10000 := by
   rw [aaB (x := 0 + d) zc, aaB (x := A[k] * 10000) zc, aaB zc]; omega
  have s1 : (adS A [10000] ((k : Int), s, ()) (0, 0, s, ())).toO = some (.inl (1, A[k], s, ())) := by
   simp only [adS, aaU, hw, hk0, zk, zl, hd, hg]
   have hgi : gi [(10000 : Int)] 0 0 = 10000 := rfl
   simp only [hgi, hsum]
   refine uT (by (try simp only [ya, xH, wB, wJ, beq_eq_false_iff_ne, bne_eq_false_iff_eq, zX, wy]) <;> (try simp only [aaN, inb, inc, ge_iff_le, gt_iff_lt, zk, asT, ne_eq]) <;> simp) (uN sd (uN sd (uN (by (try simp only [aaN, inb, inc, ge_iff_le, gt_iff_lt, zk, asT, ne_eq]); simp) ?_)))
   repeat refine za ?_
   rw [zM zc, zJ zc]
   have m1 : (d + A[k] * 10000) % 10000 = d := zc
   have m2 : (d + A[k] * 10000) / 10000 = A[k] := zc
   have m3 : s.set k d = s := by
    rw [← hd, ahZ zc]
    exact List.set_getElem_self zc
   rw [m1, m2, m3, aaB (x := A[k]) zc]
   rfl
  rw [ahA s1]
  refine am0 ?_
  simp only [adS, hw, hkl, zk, zl]
  refine uF (by (try simp only [ya, xH, wB, wJ, beq_eq_false_iff_ne, bne_eq_false_iff_eq, zX, wy]) <;> (try simp only [aaN, inb, inc, ge_iff_le, gt_iff_lt, zk, asT, ne_eq]) <;> simp) (uN sd ?_)
  repeat refine za ?_
  rw [hset, aaB (x := (k : Int) + 1) zc]
  rfl
 ·right
  have hkk : k = A.length := zc
  subst hkk
  rw [Nat.sub_self, List.replicate_zero, xp, zt]
  refine uF sd ?_
  refine uC (dig (V 10000 A * V 10000 [10000]).toNat, ()) ?_ ?_
  ·rw [zr zh]
   refine afC (axM zc hda) zg ?_
   rw [hV1]
   show 0 + 10000 * V 10000 A = _
   omega
  ·rfl
theorem as5 (A D : List Int) (y) (h : acN (A, D, ()) = some y) : (aeD A D).toO = some y := by
 unfold acN at h
 split at h
 case isFalse => cases h
 case isTrue hp =>
 obtain ⟨hda, hdb, la, lb⟩ := hp
 dsimp only at hda hdb la lb h
 injection h with h
 subst h
 rcases hdb with hdb | rfl
 ·exact avZ A D hda hdb la lb
 ·exact ap3 A hda la
theorem aH5 {a d : Nat} (h1 : (dig a).length ≤ 1000000000000) (h2 : 0 < d) (h3 : d < 10000) : al6 (dig a, (d : Int), ()) = some (dig (a / d), ((a % d : Nat) : Int), ()) := by
 refine aaZ (enc := fun p : Nat × Nat => (dig p.1, (p.2 : Int), ())) (a, d) ⟨h1, h2, h3⟩ (fun b hb => ?_)
 obtain ⟨e1, e2⟩ := Prod.mk.inj hb
 obtain ⟨e2, -⟩ := Prod.mk.inj e2
 exact Prod.ext (arT e1) (Int.ofNat.inj e2)
theorem aEH (Vm Vq P d R m X Y B W : Int) (h : Vm = Vq * d + R) (h2 : Y + d * X = R * B + m) (hW : W = m + B * Vm) (hP : P = X + B * Vq) : W = P * d + Y := by
 subst hW hP h
 grind
theorem aAS (m : List Int) (d : Int) (y) (h : al6 (m, d, ()) = some y) : (ap6 m d).toO = some y := by
 obtain ⟨⟨a, e⟩, hn, hx, rfl⟩ := aaP h
 obtain ⟨rfl, hx2⟩ := Prod.mk.inj hx; obtain ⟨rfl, -⟩ := Prod.mk.inj hx2; dsimp only
 obtain ⟨la, he, he2⟩ := hn
 simp only at la he he2
 have hda := adW a
 have hVa := ag3 a
 unfold ap6
 refine uN sn ?_
 refine uO (((dig a).length : Int) - 1, 0, List.replicate (dig a).length 0, ()) ?_ ?_
 ·repeat refine za ?_
  simp only [aaN]
  rw [aaB (x := ((dig a).length : Int) - 1) zc]
  rfl
 refine abH (fun i : Int × Int × List Int × Unit => ∃ k : Nat, k ≤ (dig a).length ∧ i.1 = (k : Int) - 1 ∧ 0 ≤ i.2.1 ∧ i.2.1 < e ∧ i.2.2.1.length = (dig a).length ∧ Dg 10000 i.2.2.1 ∧ V 10000 ((dig a).drop k) = V 10000 (i.2.2.1.drop k) * e + i.2.1) (fun i => (i.1 + 1).toNat) (fun _ => (dig (a / e), ((a % e : Nat) : Int), ())) ?_ _ ⟨_, zi _, rfl, by simp, by simp; omega, by simp, afW zc _, by rw [ac4 _ (zi _), ac4 _ zh]; simp⟩
 rintro ⟨i, r, q, u⟩ ⟨k, h1, h2, h3, h4, h5, h6, h7⟩
 simp only at h2 h3 h4 h5 h6 h7
 subst h2
 rcases zC k with h0 | h0
 ·subst h0
  right
  simp only [yp, hVa] at h7
  obtain ⟨v, hv⟩ := zI (aaQ zc h6)
  obtain ⟨r', rfl⟩ := zI h3
  rw [hv] at h7
  have h8 : a = v * e + r' := by
   have : (a : Int) = ((v * e + r' : Nat) : Int) := by simpa using h7
   exact Int.ofNat.inj this
  have h9 : a / e = v := by rw [h8, yO, xP _ _ he, yN zc, zl]
  have h10 : a % e = r' := by rw [h8, yO, xv, yj zc]
  simp only [amR]
  refine uF sd ?_
  refine uC (dig v, ()) ?_ ?_
  ·rw [zr (by simp [len]; omega)]
   exact afC h6 zc hv
  ·rw [aaT, h9, h10]
 ·left
  obtain ⟨j, rfl⟩ : ∃ j, k = j + 1 := ⟨k - 1, by omega⟩
  have e6 : ((j + 1 : Nat) : Int) - 1 = (j : Int) := zc
  rw [e6]
  simp only [amR, aaU]
  have e1 := aaR 10000 (dig a) j
  have e2 := aa4 zc hda j
  have g1 : 0 ≤ r * 10000 + (dig a).getD j 0 := zc
  have g0 : (0 : Int) < e := zc
  have g2 := yc (r * 10000 + (dig a).getD j 0) e
  have g3 := xn (r * 10000 + (dig a).getD j 0) (show (e : Int) ≠ 0 by omega)
  have g4 := xi (r * 10000 + (dig a).getD j 0) g0
  have g5 : 0 ≤ (r * 10000 + (dig a).getD j 0) / e := xr g1 zc
  have g6 : (r * 10000 + (dig a).getD j 0) / e < 10000 := by
   refine Int.ediv_lt_of_lt_mul g0 ?_
   have : (r + 1) * 10000 ≤ e * 10000 := zD zc zc
   omega
  have hw1 : w64 (w64 (r * 10000) + (dig a).getD j 0) = r * 10000 + (dig a).getD j 0 := by
   rw [aaB (x := r * 10000) zc, aaB zc]
  simp only [hw1]
  refine ⟨((j : Int) - 1, (r * 10000 + (dig a).getD j 0) % e, q.set j ((r * 10000 + (dig a).getD j 0) / e), ()), ?_, ⟨j, by omega, rfl, g3, g4, by simp; omega, ahK h6 ⟨g5, g6⟩ _, ?_⟩, by simp only; omega, ze⟩
  ·repeat refine za ?_
   rw [zM g1, zJ g1]
   rw [aaB (x := (r * 10000 + (dig a).getD j 0) / e) zc]
   simp (disch := omega) only [aaT, aaB, aaO, aa3, ab8, aaU, zl, zk, aaN, zt]
  ·simp only
   refine aEH _ _ _ _ _ _ _ _ 10000 _ h7 g2 e1 ?_
   rw [aaR 10000 (q.set j _) j, akT zc, agC _ zc]
set_option maxRecDepth 100000
open Go Go.Vg Go.Proofs
noncomputable section
def aDx : LTab := [(119, 2042, 45058, ⟨0, (Int) × (List Int) × (List Int) × Unit, .dat (.s 12) vz <| .dat (.s 11) vE <| .row 29 vz <| .nil, [10, 9, 8, 5, 4, 0, 1], [29], 0⟩), (119, 1045658, 60418, ⟨1, (Int) × (Int) × Unit, .dat (.s 14) vz <| .dat (.s 13) vz <| .nil, [83, 82, 11, 81, 80, 79, 77, 76, 75, 74, 71, 70, 12, 10, 9, 8, 5, 4, 0, 1], [29], 0⟩), (119, 2091324, 74754, ⟨2, (Int) × (Int) × Unit, .dat (.s 16) vz <| .dat (.s 15) vz <| .nil, [109, 108, 107, 106, 105, 104, 103, 102, 87, 86, 85, 84, 13, 14, 83, 82, 11, 81, 80, 79, 77, 76, 75, 74, 71, 70, 12, 10, 9, 8, 5, 4, 0, 1], [29], 0⟩)]
def ap4 (a : List Int) (b : List Int) (i : Int × List Int × List Int × Unit) (y2 : List Int × Unit) (i1 : Int × Int × Unit) (i2 : (Int) × (Int) × Unit) : TT (vO ⊕ (vO ⊕ vD)) :=
 .ite (decide (w64 (i2.1 - i2.2.1) > 1))
 (.triv (asT Int 2 ≠ 0) zd <| .call (acN (b, [w64 (Int.tdiv (w64 (i2.2.1 + i2.1)) 2)], ())) aBW fun y3 =>
 .call (acX (y3.1, ())) aBW fun y4 =>
 .call (ae6 (y4.1, y2.1, ())) Dd6 fun y5 =>
 .ite (decide (y5.1 ≤ 0))
 (.tt <| .lt (w64 (Int.tdiv (w64 (i2.2.1 + i2.1)) 2) : Int) fun z10 => .wT (vk z10 i2.1 (w64 (w64 (Int.tdiv i1.2.1 (w64 (w64 (gi b (w64 (len b - 1)) 0 * 10000) + gi b (w64 (w64 (len b - 1) - 1)) 0))) + 1) : Int) (w64 (Int.tdiv i1.2.1 (w64 (w64 (gi b (w64 (len b - 1)) 0 * 10000) + gi b (w64 (w64 (len b - 1) - 1)) 0))) : Int) (w64 (w64 (gi b (w64 (len b - 1)) 0 * 10000) + gi b (w64 (w64 (len b - 1) - 1)) 0) : Int) i1.2.1 (w64 (Int.tdiv i1.2.1 (w64 (w64 (w64 (gi b (w64 (len b - 1)) 0 * 10000) + gi b (w64 (w64 (len b - 1) - 1)) 0) + 1))) : Int) (w64 (w64 (w64 (gi b (w64 (len b - 1)) 0 * 10000) + gi b (w64 (w64 (len b - 1) - 1)) 0) + 1) : Int) <| vk (w64 (w64 (gi b (w64 (len b - 1)) 0 * 10000) + gi b (w64 (w64 (len b - 1) - 1)) 0) : Int) i1.2.1 (decide (i1.1 ≥ w64 (w64 (len b - 1) - 1))) (w64 (w64 (len b - 1) - 1)) (w64 (len b - 1)) i1.1 i1.2.1 i1.1 <| vk (w64 (w64 (len b - 1) + 1)) (w64 (len b - 1)) y2.1 y2.1 (List.take (1 + List.length i.2.1) ([gi a i.1 0] ++ i.2.1)) i.2.1 (gi a i.1 0) (gi a i.1 0) <| wZ i.1 a (decide (i.1 ≥ 0)) i.1 i.1 <| (wY 29 0 (Int.toNat (w64 (len a - w64 (len b - 1)))) true) ∧ (ve (w64 (w64 (gi b (w64 (len b - 1)) 0 * 10000) + gi b (w64 (w64 (len b - 1) - 1)) 0) : Int) (w64 (len b - 1)) <| True ∧ True ∧ vo a b)) <| .wT (wS (wX 3 i.2.2.1) True) <| .ok (.inl ((i2.1, z10, ()))))
 (.tt <| .lt (w64 (Int.tdiv (w64 (i2.2.1 + i2.1)) 2) : Int) fun z11 => .lt (i2.2.1 : Int) fun z12 => .wT (vk z12 z11 (w64 (w64 (Int.tdiv i1.2.1 (w64 (w64 (gi b (w64 (len b - 1)) 0 * 10000) + gi b (w64 (w64 (len b - 1) - 1)) 0))) + 1) : Int) (w64 (Int.tdiv i1.2.1 (w64 (w64 (gi b (w64 (len b - 1)) 0 * 10000) + gi b (w64 (w64 (len b - 1) - 1)) 0))) : Int) (w64 (w64 (gi b (w64 (len b - 1)) 0 * 10000) + gi b (w64 (w64 (len b - 1) - 1)) 0) : Int) i1.2.1 (w64 (Int.tdiv i1.2.1 (w64 (w64 (w64 (gi b (w64 (len b - 1)) 0 * 10000) + gi b (w64 (w64 (len b - 1) - 1)) 0) + 1))) : Int) (w64 (w64 (w64 (gi b (w64 (len b - 1)) 0 * 10000) + gi b (w64 (w64 (len b - 1) - 1)) 0) + 1) : Int) <| vk (w64 (w64 (gi b (w64 (len b - 1)) 0 * 10000) + gi b (w64 (w64 (len b - 1) - 1)) 0) : Int) i1.2.1 (decide (i1.1 ≥ w64 (w64 (len b - 1) - 1))) (w64 (w64 (len b - 1) - 1)) (w64 (len b - 1)) i1.1 i1.2.1 i1.1 <| vk (w64 (w64 (len b - 1) + 1)) (w64 (len b - 1)) y2.1 y2.1 (List.take (1 + List.length i.2.1) ([gi a i.1 0] ++ i.2.1)) i.2.1 (gi a i.1 0) (gi a i.1 0) <| wZ i.1 a (decide (i.1 ≥ 0)) i.1 i.1 <| (wY 29 0 (Int.toNat (w64 (len a - w64 (len b - 1)))) true) ∧ (ve (w64 (w64 (gi b (w64 (len b - 1)) 0 * 10000) + gi b (w64 (w64 (len b - 1) - 1)) 0) : Int) (w64 (len b - 1)) <| True ∧ True ∧ vo a b)) <| .wT (wS (wX 3 i.2.2.1) True) <| .ok (.inl ((z11, z12, ())))))
 (.need (inb i.1 (↑(Int.toNat (w64 (len a - w64 (len b - 1)))) : Int)) <| .call (acN (b, [i2.2.1], ())) aBW fun y6 =>
 .call (abN (y2.1, y6.1, ())) aBW fun y7 =>
 .tt <| .lt (w64 (i.1 - 1) : Int) fun z13 => .lt (List.set i.2.2.1 (0 + Int.toNat i.1) i2.2.1 : List Int) fun z14 => .wT (ve y7.1 z13 <| (wY 29 0 (Int.toNat (w64 (len a - w64 (len b - 1)))) true) ∧ (ve (w64 (w64 (gi b (w64 (len b - 1)) 0 * 10000) + gi b (w64 (w64 (len b - 1) - 1)) 0) : Int) (w64 (len b - 1)) <| True ∧ True ∧ vo a b)) <| .wT (wS (wX 3 z14) True) <| .ok (.inr (.inr (.inl ((z13, y7.1, z14, ()))))))
def ad7 (a : List Int) (b : List Int) (i : Int × List Int × List Int × Unit) (y2 : List Int × Unit) (i1 : (Int) × (Int) × Unit) : TT (vO ⊕ vD) :=
 .ite (decide (i1.1 ≥ w64 (w64 (len b - 1) - 1)))
 (.ite (decide (i1.1 < len y2.1))
 (.need (inb i1.1 (len y2.1)) <| .tt <| .lt (w64 (i1.1 - 1) : Int) fun z4 => .lt (w64 (w64 (i1.2.1 * 10000) + gi y2.1 i1.1 0) : Int) fun z5 => .wT (vk z5 z4 (w64 (w64 (len b - 1) + 1)) (w64 (len b - 1)) y2.1 y2.1 (List.take (1 + List.length i.2.1) ([gi a i.1 0] ++ i.2.1)) i.2.1 <| vq (gi a i.1 0) (gi a i.1 0) i.1 a (decide (i.1 ≥ 0)) i.1 i.1 <| (wY 29 0 (Int.toNat (w64 (len a - w64 (len b - 1)))) true) ∧ (ve (w64 (w64 (gi b (w64 (len b - 1)) 0 * 10000) + gi b (w64 (w64 (len b - 1) - 1)) 0) : Int) (w64 (len b - 1)) <| True ∧ True ∧ vo a b)) <| .wT (wS (wX 3 i.2.2.1) True) <| .ok (.inl ((z4, z5, ()))))
 (.tt <| .lt (w64 (i1.1 - 1) : Int) fun z6 => .lt (w64 (i1.2.1 * 10000) : Int) fun z7 => .wT (vk z7 z6 (w64 (w64 (len b - 1) + 1)) (w64 (len b - 1)) y2.1 y2.1 (List.take (1 + List.length i.2.1) ([gi a i.1 0] ++ i.2.1)) i.2.1 <| vq (gi a i.1 0) (gi a i.1 0) i.1 a (decide (i.1 ≥ 0)) i.1 i.1 <| (wY 29 0 (Int.toNat (w64 (len a - w64 (len b - 1)))) true) ∧ (ve (w64 (w64 (gi b (w64 (len b - 1)) 0 * 10000) + gi b (w64 (w64 (len b - 1) - 1)) 0) : Int) (w64 (len b - 1)) <| True ∧ True ∧ vo a b)) <| .wT (wS (wX 3 i.2.2.1) True) <| .ok (.inl ((z6, z7, ())))))
 (.need (w64 (w64 (w64 (gi b (w64 (len b - 1)) 0 * 10000) + gi b (w64 (w64 (len b - 1) - 1)) 0) + 1) ≠ 0) <| .need (w64 (w64 (gi b (w64 (len b - 1)) 0 * 10000) + gi b (w64 (w64 (len b - 1) - 1)) 0) ≠ 0) <| .loop 2 (.tt <| .lt (w64 (w64 (Int.tdiv i1.2.1 (w64 (w64 (gi b (w64 (len b - 1)) 0 * 10000) + gi b (w64 (w64 (len b - 1) - 1)) 0))) + 1) : Int) fun z8 => .lt (w64 (Int.tdiv i1.2.1 (w64 (w64 (w64 (gi b (w64 (len b - 1)) 0 * 10000) + gi b (w64 (w64 (len b - 1) - 1)) 0) + 1))) : Int) fun z9 => .wT (vk z9 z8 z8 (w64 (Int.tdiv i1.2.1 (w64 (w64 (gi b (w64 (len b - 1)) 0 * 10000) + gi b (w64 (w64 (len b - 1) - 1)) 0))) : Int) (w64 (w64 (gi b (w64 (len b - 1)) 0 * 10000) + gi b (w64 (w64 (len b - 1) - 1)) 0) : Int) i1.2.1 z9 (w64 (w64 (w64 (gi b (w64 (len b - 1)) 0 * 10000) + gi b (w64 (w64 (len b - 1) - 1)) 0) + 1) : Int) <| vk (w64 (w64 (gi b (w64 (len b - 1)) 0 * 10000) + gi b (w64 (w64 (len b - 1) - 1)) 0) : Int) i1.2.1 (decide (i1.1 ≥ w64 (w64 (len b - 1) - 1))) (w64 (w64 (len b - 1) - 1)) (w64 (len b - 1)) i1.1 i1.2.1 i1.1 <| vk (w64 (w64 (len b - 1) + 1)) (w64 (len b - 1)) y2.1 y2.1 (List.take (1 + List.length i.2.1) ([gi a i.1 0] ++ i.2.1)) i.2.1 (gi a i.1 0) (gi a i.1 0) <| wZ i.1 a (decide (i.1 ≥ 0)) i.1 i.1 <| (wY 29 0 (Int.toNat (w64 (len a - w64 (len b - 1)))) true) ∧ (ve (w64 (w64 (gi b (w64 (len b - 1)) 0 * 10000) + gi b (w64 (w64 (len b - 1) - 1)) 0) : Int) (w64 (len b - 1)) <| True ∧ True ∧ vo a b)) <| .wT (wS (wX 3 i.2.2.1) True) <| .ok ((z8, z9, ()))) (ap4 a b i y2 i1))
def akL (a : List Int) (b : List Int) (i : (Int) × (List Int) × (List Int) × Unit) : TT vD :=
 .ite (decide (i.1 ≥ 0))
 (.need (inb i.1 (len a)) <| .need ((1 + List.length i.2.1) * 8 ≤ 140737488355328) <| .call (acX (List.take (1 + List.length i.2.1) ([gi a i.1 0] ++ i.2.1), ())) aBW fun y2 =>
 .loop 1 (.tt <| .lt (w64 (w64 (len b - 1) + 1) : Int) fun z3 => .wT (vk (0 : Int) z3 z3 (w64 (len b - 1)) y2.1 y2.1 (List.take (1 + List.length i.2.1) ([gi a i.1 0] ++ i.2.1)) i.2.1 <| vq (gi a i.1 0) (gi a i.1 0) i.1 a (decide (i.1 ≥ 0)) i.1 i.1 <| (wY 29 0 (Int.toNat (w64 (len a - w64 (len b - 1)))) true) ∧ (ve (w64 (w64 (gi b (w64 (len b - 1)) 0 * 10000) + gi b (w64 (w64 (len b - 1) - 1)) 0) : Int) (w64 (len b - 1)) <| True ∧ True ∧ vo a b)) <| .wT (wS (wX 3 i.2.2.1) True) <| .ok ((z3, 0, ()))) (ad7 a b i y2))
 (.call (acX (List.take (Int.toNat (w64 (len a - w64 (len b - 1)))) i.2.2.1, ())) aBW fun y8 =>
 .ok (.inr ((y8.1, i.2.1, ()))))
def amP (a : List Int) (b : List Int) : TT (List Int × List Int × Unit) :=
 .ite (len b == 1)
 (.need (asT Int 0 ≤ 0 ∧ 0 < len b) <| .call (al6 (a, gi b 0 0, ())) aQL fun y =>
 .call (acX ([y.2.1], ())) aBW fun y1 =>
 .ok ((y.1, y1.1, ())))
 (.ite (decide (len a ≤ w64 (len b - 1)))
 (.need ((0 + List.length a) * 8 ≤ 140737488355328) <| .ok (([], List.take (0 + List.length a) (List.take 0 [] ++ a), ())))
 (.need (inb (w64 (len b - 1)) (len b)) <| .need (inb (w64 (w64 (len b - 1) - 1)) (len b)) <| .need (0 ≤ w64 (len a - w64 (len b - 1)) ∧ w64 (len a - w64 (len b - 1)) ≤ w64 (len a - w64 (len b - 1)) ∧ w64 (len a - w64 (len b - 1)) * (↑8 : Int) ≤ 140737488355328) <| .need (inc (w64 (len a - w64 (len b - 1))) (len a)) <| .need ((0 + List.length (List.take (List.length a - Int.toNat (w64 (len a - w64 (len b - 1)))) (List.drop (Int.toNat (w64 (len a - w64 (len b - 1)))) a))) * 8 ≤ 140737488355328) <| .loop 0 (.tt <| .lt (w64 ((↑(Int.toNat (w64 (len a - w64 (len b - 1)))) : Int) - 1) : Int) fun z => .lt (List.take (0 + List.length (List.take (List.length a - Int.toNat (w64 (len a - w64 (len b - 1)))) (List.drop (Int.toNat (w64 (len a - w64 (len b - 1)))) a))) (List.take 0 [] ++ List.take (List.length a - Int.toNat (w64 (len a - w64 (len b - 1)))) (List.drop (Int.toNat (w64 (len a - w64 (len b - 1)))) a)) : List Int) fun z1 => .lt (List.replicate (Int.toNat (w64 (len a - w64 (len b - 1)))) 0 : List Int) fun z2 => .wT (ve z1 z <| (wY 29 0 (Int.toNat (w64 (len a - w64 (len b - 1)))) true) ∧ (ve (w64 (w64 (gi b (w64 (len b - 1)) 0 * 10000) + gi b (w64 (w64 (len b - 1) - 1)) 0) : Int) (w64 (len b - 1)) <| True ∧ True ∧ vo a b)) <| .wT (wS (wX 3 z2) True) <| .ok ((z, z1, z2, ()))) (akL a b)))
def aFu : LTab := []
def ayB (a : Bool × List Int × Unit) : TT uh :=
 .call (acE (!a.1, a.2.1, ())) atK fun y =>
 .ok (((y.1.1, y.1.2.1, ()), ()))
def aFw : LTab := []
def aqA (a : Bool × List Int × Unit) (b : Bool × List Int × Unit) : TT uh :=
 .ite (a.1 == b.1)
 (.call (apJ (a.2.1, b.2.1, ())) aBW fun y =>
 .call (acE (a.1, y.1, ())) atK fun y1 =>
 .ok (((y1.1.1, y1.1.2.1, ()), ())))
 (.call (ae6 (a.2.1, b.2.1, ())) Dd6 fun y2 =>
 .ite (decide (y2.1 ≥ 0))
 (.call (abN (a.2.1, b.2.1, ())) aBW fun y3 =>
 .call (acE (a.1, y3.1, ())) atK fun y4 =>
 .ok (((y4.1.1, y4.1.2.1, ()), ())))
 (.call (abN (b.2.1, a.2.1, ())) aBW fun y5 =>
 .call (acE (b.1, y5.1, ())) atK fun y6 =>
 .ok (((y6.1.1, y6.1.2.1, ()), ()))))
def aDC : LTab := []
def at5 (a : Bool × List Int × Unit) (b : Bool × List Int × Unit) : TT uh :=
 .call (ahH ((b.1, b.2.1, ()), ())) atK fun y =>
 .call (agG ((a.1, a.2.1, ()), y.1, ())) atK fun y1 =>
 .ok (((y1.1.1, y1.1.2.1, ()), ()))
def aDA : LTab := []
def amU (a : Bool × List Int × Unit) (b : Bool × List Int × Unit) : TT (vJ × vJ × Unit) :=
 .call (ahG (a.2.1, b.2.1, ())) aQA fun y =>
 .call (acE (!a.1 == b.1, y.1, ())) atK fun y1 =>
 .call (acE (a.1, y.2.1, ())) atK fun y2 =>
 .ite (y2.1.1)
 (.call (agG ((y2.1.1, y2.1.2.1, ()), (false, b.2.1, ()), ())) atK fun y3 =>
 .ite (b.1)
 (.call (acO (1, ())) atK fun y4 =>
 .call (agG ((y1.1.1, y1.1.2.1, ()), y4.1, ())) atK fun y5 =>
 .ok (((y5.1.1, y5.1.2.1, ()), (y3.1.1, y3.1.2.1, ()), ())))
 (.call (acO (1, ())) atK fun y6 =>
 .call (ajQ ((y1.1.1, y1.1.2.1, ()), y6.1, ())) atK fun y7 =>
 .ok (((y7.1.1, y7.1.2.1, ()), (y3.1.1, y3.1.2.1, ()), ()))))
 (.ok (((y1.1.1, y1.1.2.1, ()), (y2.1.1, y2.1.2.1, ()), ())))
def ayF : LTab := [(67, 28, 9217, ⟨0, (List Int) × (List Int) × Unit, .dat (.s 6) vE <| .dat (.s 5) vE <| .nil, [4], [2, 1, 0], 0⟩)]
def alF (a : Bool × List Int × Unit) (b : Bool × List Int × Unit) (i : (List Int) × (List Int) × Unit) : TT (ub ⊕ uh) :=
 .ite (decide (len i.1 > 0))
 (.call (ahG (i.2.1, i.1, ())) aQA fun y =>
 .tt <| .lt (y.2.1 : List Int) fun z2 => .wT (ve i.1 z2 <| (vt 2 0 true) ∧ True) <| .wT (wS vP <| wS (wW 91 b.1 b.2.1) <| wS (wW 91 a.1 a.2.1) True) <| .ok (.inl ((z2, i.1, ()))))
 (.ok (.inr (((false, i.2.1, ()), ()))))
def anX (a : Bool × List Int × Unit) (b : Bool × List Int × Unit) : TT uh :=
 .loop 0 (.tt <| .lt (b.2.1 : List Int) fun z => .lt (a.2.1 : List Int) fun z1 => .wT (ve z1 z <| (vt 2 0 true) ∧ True) <| .wT (wS vP <| wS (wW 91 b.1 z) <| wS (wW 91 a.1 z1) True) <| .ok ((z, z1, ()))) (alF a b)
end
theorem alG {p q : Int × Int} (h : (pl p.1, pl p.2, ()) = (pl q.1, pl q.2, ())) : p = q := by
 obtain ⟨h1, h2⟩ := Prod.mk.inj h
 obtain ⟨h2, -⟩ := Prod.mk.inj h2
 exact Prod.ext (aqC h1) (aqC h2)
theorem auY {p q : Nat × Nat} (h : (dig p.1, dig p.2, ()) = (dig q.1, dig q.2, ())) : p = q := by
 obtain ⟨h1, h2⟩ := Prod.mk.inj h
 obtain ⟨h2, -⟩ := Prod.mk.inj h2
 exact Prod.ext (arT h1) (arT h2)
theorem aGP {n : Nat} (h : n < 10000) : isD (atB n) := by
 intro c hc
 simp only [atB, zo, List.not_mem_nil, or_false] at hc
 rcases hc with rfl | rfl | rfl | rfl <;> rw [apD zc] <;> omega
theorem aGO {n : Nat} (h : n < 10000) : num (atB n) = n := by
 have e : ∀ a b c d : Nat, a < 10 → b < 10 → c < 10 → d < 10 → num [UInt8.ofNat (48 + a), UInt8.ofNat (48 + b), UInt8.ofNat (48 + c), UInt8.ofNat (48 + d)] = ((a * 10 + b) * 10 + c) * 10 + d := by
  intro a b c d ha hb hc hd
  unfold num
  rw [af3, af3, af3, af3, auV ha, auV hb, auV hc, auV hd]
  simp [ayT]
 unfold atB
 rw [e _ _ _ _ zc zc zc zc]
 omega
theorem aJq {s : List UInt8} {k : Nat} (h : ∀ c ∈ s.take k, c = 48) : num s = num (s.drop k) := by
 have h1 : ∀ l : List UInt8, (∀ c ∈ l, c = 48) → num l = 0 := by
  intro l
  induction l using aAK with
  | nil => intro _; rfl
  | snoc l c ih =>
   intro h
   rw [alR, ih (fun d hd => h d (wO _ hd)), h c zh]
   rfl
 conv => lhs; rw [← xc k s]
 rw [ajD, h1 _ h]
 omega
theorem aMt {n : Nat} (h : Bd 6 n) : (dig n).length ≤ 13000000000 := by
 have h2 := auZ (k := 1000000 * 4 ^ 6) h
 omega
theorem aH7 {z : Int} (h : Bd 6 z.natAbs) : al8 (pl z, ()) = some (dec z, ()) := aaZ (enc := fun x : Int => (pl x, ())) z h (fun b hb => aqC (Prod.mk.inj hb).1)
theorem aAW (x : PlT) (y) (h : al8 (x, ()) = some y) : (ap9 x).toO = some y := by
 obtain ⟨z, hp, hx, rfl⟩ := aaP h
 obtain ⟨rfl, -⟩ := Prod.mk.inj hx
 have hl := aMt hp
 have hd := adW z.natAbs
 have hV := ag3 z.natAbs
 clear h hx
 unfold ap9
 dsimp only
 refine uO (((dig z.natAbs).length : Int) - 1, [], ()) ?_ ?_
 ·repeat refine za ?_
  rw [aaT, aaN, aaB zc]
 refine abH (fun i : Int × List UInt8 × Unit => ∃ k : Nat, k ≤ (dig z.natAbs).length ∧ i.1 = (k : Int) - 1 ∧ isD i.2.1 ∧ i.2.1.length = 4 * ((dig z.natAbs).length - k) ∧ (num i.2.1 : Int) = V 10000 ((dig z.natAbs).drop k)) (fun i => (i.1 + 1).toNat) (fun _ => (dec z, ())) ?_ _ ⟨_, zi _, rfl, (show isD [] from fun c hc => by cases hc), by simp, by rw [ac4 _ (zi _)]; rfl⟩
 rintro ⟨i, s, u⟩ ⟨k, h1, h2, h3, h4, h5⟩
 dsimp only at h2 h3 h4 h5
 subst h2
 cases k with
 | succ j =>
  left
  have e6 : ((j + 1 : Nat) : Int) - 1 = (j : Int) := zc
  have dj := aa4 zc hd j
  obtain ⟨m, hm⟩ := zI dj.1
  have hm2 : m < 10000 := zc
  rw [e6]
  refine ⟨((j : Int) - 1, s ++ atB m, ()), ?_, ⟨j, by omega, rfl, ?_, ?_, ?_⟩, by dsimp only; omega, ze⟩
  ·simp only [amT, aaU, hm]
   refine uT sd (uN sd (uC _ (aH6 hm2) (uN ?_ ?_)))
   ·have : (atB m).length = 4 := rfl
    dsimp only
    rw [this, h4]
    unfold lim; omega
   ·repeat refine za ?_
    rw [aaT, aaB (x := (j : Int) - 1) zc]
  ·exact isD_append.2 ⟨h3, aGP hm2⟩
  ·have : (atB m).length = 4 := rfl
   simp only [zF, this, h4]; omega
  ·dsimp only
   rw [ajD, aGO hm2, aaR, hm, ← h5]
   have : (atB m).length = 4 := rfl
   rw [this]
   simp; omega
 | zero =>
  right
  rw [yp, hV] at h5
  have h5' : num s = z.natAbs := Int.ofNat.inj h5
  simp only [amT]
  refine uF sd (uO (0, ()) rfl ?_)
  refine abH (fun i : Int × Unit => ∃ q : Nat, q ≤ s.length ∧ i = ((q : Int), ()) ∧ ∀ c ∈ s.take q, c = 48) (fun i => ((s.length : Int) - i.1).toNat) (fun _ => (.inr (dec z, ()) : (Int × List UInt8 × Unit) ⊕ (List UInt8 × Unit))) ?_ _ ⟨0, by omega, rfl, by simp⟩
  rintro i ⟨q, g1, rfl, g2⟩
  have hlead := aJq g2
  have hsl : s.length ≤ 60000000000 := zc
  have hdd : isD (s.drop q) := awB h3 q
  have htk : List.take (s.length - q) (s.drop q) = s.drop q := zr zh
  have fin : ∀ (w : TT (vW ⊕ ((Int × List UInt8 × Unit) ⊕ vU))), (q = s.length ∨ (s.drop q).head? ≠ some 48) → (TT.ite (s.drop q == #[].toList) (TT.ok (.inr (.inr (#[48].toList, ())))) (TT.ite (decide (z < 0)) (TT.need (List.length #[(45 : UInt8)].toList + List.length (s.drop q) ≤ lim) (TT.ok (.inr (.inr (#[45].toList ++ s.drop q, ()))))) (TT.ok (.inr (.inr (s.drop q, ())))) : TT (vW ⊕ ((Int × List UInt8 × Unit) ⊕ vU)))).toO = some (.inr (.inr (dec z, ()))) := by
   intro _ hq
   by_cases c0 : s.drop q = []
   ·refine uT (by rw [c0]; rfl) ?_
    rw [c0] at hlead
    have : z.natAbs = 0 := by rw [← h5', hlead]; rfl
    have hz : z = 0 := zc
    subst hz
    rw [adE zc, Int.natAbs_zero, acL zc]; rfl
   ·refine uF (by rw [beq_eq_false_iff_ne]; exact c0) ?_
    have hu : s.drop q = acG z.natAbs := by
     have := az6 hdd c0 (by
      rcases hq with hq | hq
      ·exact absurd (by rw [hq]; simp) c0
      ·exact Or.inl hq)
     rw [this, ← hlead, h5']
    by_cases cz : z < 0
    ·refine uT (zp cz) (uN ?_ ?_)
     ·show 1 + (s.drop q).length ≤ lim
      rw [zZ]; unfold lim; omega
     ·rw [hu, ah4 cz]; rfl
    ·refine uF (zn cz) ?_
     rw [hu, adE zc]; rfl
  unfold at4 ahP
  simp only [aaU, zk, htk]
  rcases zx q s.length with hq | hq
  ·have e1 : s.getD q 0 = s[q] := by simp [hq]
   rw [e1]
   by_cases c : s[q] = 48
   ·left
    refine ⟨(((q + 1 : Nat) : Int), ()), ?_, ⟨q + 1, by omega, rfl, ?_⟩, by dsimp only; omega, ze⟩
    ·refine uT sd (uN sd (uT (by rw [c]; rfl) ?_))
     repeat refine za ?_
     rw [aaT, aaB (x := (q : Int) + 1) zc]; rfl
    ·intro c' hc'
     rw [yg hq] at hc'
     rcases zz.1 hc' with hc' | hc'
     ·exact g2 c' hc'
     ·rw [yo.1 hc', c]
   ·right
    refine uT sd (uN sd (uF ?_ (uN sd ?_)))
    ·rw [beq_eq_false_iff_ne]
     intro h
     exact c (UInt8.toNat_inj.1 (Int.ofNat.inj h))
    ·refine fin TT.bad (Or.inr ?_)
     rw [yl hq, wP]
     exact fun h => c (Option.some.inj h)
  ·right
   refine uF sd (uN sd ?_)
   exact fin TT.bad (Or.inl zc)
theorem aC7 {z : Int} (h : Bd 6 z.natAbs) : al9 (pl z, ()) = some (wrW z) := aaZ (enc := fun x : Int => (pl x, ())) z h (fun b hb => aqC (Prod.mk.inj hb).1)
theorem aDB (x : PlT) (y) (h : al9 (x, ()) = some y) : (aCk x).toO = some y := by
 obtain ⟨z, hp, hx, rfl⟩ := aaP h
 obtain ⟨rfl, -⟩ := Prod.mk.inj hx
 refine uC _ (aH7 hp) ?_
 dsimp only
 have hl : (acG z.natAbs).length ≤ 90000000000 := by
  have := ag1 (k := 1000000 * 4 ^ 6) hp
  omega
 by_cases c : z < 0
 ·refine uT (zp c) ?_
  have e : w64 (len (dec z) - 1) = ((acG z.natAbs).length : Int) := by
   rw [ah4 c, aaN, yr, aaB zc]; omega
  rw [e]
  by_cases f : Fit z
  ·rw [avG f]
   have f' : (acG z.natAbs).length ≤ 600 := f
   exact uF sd rfl
  ·rw [avH f]
   have f' : ¬ (acG z.natAbs).length ≤ 600 := f
   exact uT sd rfl
 ·refine uF (zn c) ?_
  have e : len (dec z) = ((acG z.natAbs).length : Int) := by rw [adE zc]; rfl
  rw [e]
  by_cases f : Fit z
  ·rw [avG f]
   have f' : (acG z.natAbs).length ≤ 600 := f
   exact uF sd rfl
  ·rw [avH f]
   have f' : ¬ (acG z.natAbs).length ≤ 600 := f
   exact uT sd rfl
theorem agX {n : Int} (h : aeW n) : acO (n, ()) = some (pl n, ()) := by unfold acO; rw [if_pos h]
theorem aJN {l : List Int} {x w v N : Int} (h : V 10000 l + 10000 ^ l.length * w = N) (hx : x + 10000 * v = w) : V 10000 (l ++ [x]) + 10000 ^ (l.length + 1) * v = N := by
 rw [ad6, axH, yi, ← h]
 have : (10000 : Int) ^ l.length * (x + 10000 * v) = 10000 ^ l.length * w := by rw [hx]
 grind
theorem as6 (n : Int) (y) (h : acO (n, ()) = some y) : (anW n).toO = some y := by
 unfold acO at h
 split at h
 case isFalse => cases h
 case isTrue hn =>
 injection h with h
 subst h
 obtain ⟨n0, n1⟩ := hn
 dsimp only at n0 n1
 refine uO (true, [], n, ()) rfl ?_
 refine abH (fun i : Bool × List Int × Int × Unit => Dg 10000 i.2.1 ∧ i.2.2.1.natAbs ≤ n.natAbs ∧ V 10000 i.2.1 + 10000 ^ i.2.1.length * i.2.2.1.natAbs = n.natAbs ∧ (i.1 = true → i.2.1 = []) ∧ (i.2.2.1 = 0 → Cn i.2.1) ∧ i.2.1.length ≤ 6 ∧ i.2.2.1.natAbs < 10000 ^ (6 - i.2.1.length)) (fun i => i.2.2.1.natAbs) (fun _ => (pl n, ())) ?_ _ ⟨asR _, zi _, by simp [V], fun _ => rfl, fun _ => aoQ, by simp, by simp; omega⟩
 rintro ⟨f, l, v, u⟩ ⟨g1, g2, g3, g4, g5, g6, g7⟩
 dsimp only at g1 g2 g3 g4 g5 g6 g7
 by_cases hv : v = 0
 ·right
  subst hv
  have hm : acE (decide (n < 0), l, ()) = some (pl n, ()) := aAv g1 zc (by simp at g3; omega) (Or.inr rfl)
  cases f with
  | true =>
   obtain rfl := g4 rfl
   unfold aeQ
   exact uT rfl (uF rfl (uC _ hm rfl))
  | false =>
   unfold aeQ
   dsimp only
   rw [zt]
   exact uF rfl (uF rfl (uC _ hm rfl))
 ·left
  have hl6 : l.length ≤ 5 := by
   rcases zx 5 l.length with h | h
   ·have : l.length = 6 := zc
    rw [this] at g7; simp at g7; omega
   ·exact h
  have td : (Int.tdiv v 10000).natAbs = v.natAbs / 10000 := by rw [Int.natAbs_tdiv]; rfl
  have tm : (Int.tmod v 10000).natAbs = v.natAbs % 10000 := by rw [wR]; rfl
  have hx : ((v.natAbs % 10000 : Nat) : Int) + 10000 * ((v.natAbs / 10000 : Nat) : Int) = v.natAbs := zc
  have wd : w64 (Int.tdiv v 10000) = Int.tdiv v 10000 := aaB zc
  have wm : w64 (0 - Int.tmod v 10000) = 0 - Int.tmod v 10000 := aaB zc
  have inv : Dg 10000 (l ++ [((v.natAbs % 10000 : Nat) : Int)]) ∧ (Int.tdiv v 10000).natAbs ≤ n.natAbs ∧ V 10000 (l ++ [((v.natAbs % 10000 : Nat) : Int)]) + 10000 ^ (l ++ [((v.natAbs % 10000 : Nat) : Int)]).length * ((Int.tdiv v 10000).natAbs : Int) = n.natAbs ∧ (false = true → (l ++ [((v.natAbs % 10000 : Nat) : Int)]) = []) ∧ (Int.tdiv v 10000 = 0 → Cn (l ++ [((v.natAbs % 10000 : Nat) : Int)])) ∧ (l ++ [((v.natAbs % 10000 : Nat) : Int)]).length ≤ 6 ∧ (Int.tdiv v 10000).natAbs < 10000 ^ (6 - (l ++ [((v.natAbs % 10000 : Nat) : Int)]).length) := by
   refine ⟨aeV g1 (akI zc zc), by omega, ?_, by simp, ?_, by simp; omega, ?_⟩
   ·rw [zF, ye, td]
    exact aJN g3 hx
   ·intro hz
    unfold Cn
    simp only [List.getLast?_concat, ne_eq, Option.some.injEq]
    omega
   ·rw [zF, ye, td, yG zc]
    have h9 : 10000 ^ (6 - l.length) = 10000 ^ (6 - (l.length + 1)) * 10000 := by
     rw [← yA]; congr 1; omega
    omega
  refine ⟨(false, l ++ [((v.natAbs % 10000 : Nat) : Int)], Int.tdiv v 10000, ()), ?_, inv, by dsimp only; omega, ze⟩
  cases f with
  | true =>
   obtain rfl := g4 rfl
   simp only [aeQ, wd, wm]
   by_cases c : Int.tmod v 10000 < 0
   ·refine uT rfl (uT (by simpa using hv) (uV (uT (zp c) ?_)))
    repeat refine za ?_
    rw [aaT, show 0 - Int.tmod v 10000 = ((v.natAbs % 10000 : Nat) : Int) by omega]; rfl
   ·refine uT rfl (uT (by simpa using hv) (uV (uF (zn c) ?_)))
    repeat refine za ?_
    rw [aaT, show Int.tmod v 10000 = ((v.natAbs % 10000 : Nat) : Int) by omega]; rfl
  | false =>
   simp only [aeQ, wd, wm, zt]
   by_cases c : Int.tmod v 10000 < 0
   ·refine uF rfl (uT (by simpa using hv) (uV (uT (zp c) ?_)))
    repeat refine za ?_
    rw [aaT, show 0 - Int.tmod v 10000 = ((v.natAbs % 10000 : Nat) : Int) by omega]
   ·refine uF rfl (uT (by simpa using hv) (uV (uF (zn c) ?_)))
    repeat refine za ?_
    rw [aaT, show Int.tmod v 10000 = ((v.natAbs % 10000 : Nat) : Int) by omega]
theorem anL {k n : Nat} (h : Bd k n) (hk : k ≤ 8) : (dig n).length ≤ 1000000000000 := zu (aAl h hk) zc
theorem asM {z : Int} (h : Bd 8 z.natAbs) : ahH (pl z, ()) = some (pl (-z), ()) := aaZ (enc := fun x : Int => (pl x, ())) z h (fun b hb => aqC (Prod.mk.inj hb).1)
theorem aAV (x : PlT) (y) (h : ahH (x, ()) = some y) : (ayB x).toO = some y := by
 obtain ⟨z, hp, hx, rfl⟩ := aaP h
 obtain ⟨rfl, -⟩ := Prod.mk.inj hx
 refine uC (pl (-z), ()) (af0 (anL hp zc) zc ?_) rfl
 by_cases h0 : z = 0
 ·left; omega
 ·right
  show (!decide (z < 0)) = decide (-z < 0)
  by_cases h1 : z < 0
  ·rw [zp h1, zn zc]; rfl
  ·rw [zn h1, zp zc]; rfl
theorem aKk {a b : Nat} (h1 : (dig a).length ≤ 1000000000000) (h2 : (dig b).length ≤ 1000000000000) : apJ (dig a, dig b, ()) = some (dig (a + b), ()) := aaZ (enc := fun p : Nat × Nat => (dig p.1, dig p.2, ())) (a, b) ⟨h1, h2⟩ (fun b hb => auY hb)
theorem avA {a b : Nat} (h1 : (dig a).length ≤ 1000000000000) (h : b ≤ a) : abN (dig a, dig b, ()) = some (dig (a - b), ()) := ai7 (adW a) (adW b) h1 (acD h) (by rw [ag3, ag3]; omega) (by rw [ag3, ag3]; omega)
theorem asN {a b : Int} (h1 : Bd 7 a.natAbs) (h2 : Bd 7 b.natAbs) : agG (pl a, pl b, ()) = some (pl (a + b), ()) := aaZ (enc := fun p : Int × Int => (pl p.1, pl p.2, ())) (a, b) ⟨h1, h2⟩ (fun b hb => alG hb)
theorem aAX (x x' : PlT) (y) (h : agG (x, x', ()) = some y) : (aqA x x').toO = some y := by
 obtain ⟨⟨a, b⟩, hp, hx, rfl⟩ := aaP h
 obtain ⟨rfl, hx2⟩ := Prod.mk.inj hx; obtain ⟨rfl, -⟩ := Prod.mk.inj hx2; dsimp only
 obtain ⟨l1, l2⟩ := hp
 simp only at l1 l2
 have d1 := anL l1 zc
 have d2 := anL l2 zc
 have d3 := anL (aa7 l1 l2) zc
 unfold aqA
 dsimp only
 by_cases hs : (decide (a < 0) == decide (b < 0)) = true
 ·refine uT hs ?_
  have hs' : (a < 0 ↔ b < 0) := by simpa using hs
  refine uC _ (aKk d1 d2) ?_
  refine uC (pl (a + b), ()) (af0 d3 zc (Or.inr (decide_eq_decide.2 zc))) rfl
 ·have hs' : ¬ (a < 0 ↔ b < 0) := by simpa using hs
  refine uF (by simpa using hs) ?_
  refine uC _ (anN _ _ (adW _) (adW _) d1 d2) ?_
  obtain ⟨o1, o2⟩ := aCp a.natAbs b.natAbs
  by_cases hc : a.natAbs < b.natAbs
  ·refine uF (zn (by have := o1.2 hc; dsimp only; omega)) ?_
   refine uC _ (avA d2 zc) ?_
   have d4 : (dig (b.natAbs - a.natAbs)).length ≤ 1000000000000 := zu (acD (Nat.sub_le _ _)) d2
   refine uC (pl (a + b), ()) (af0 d4 zc (Or.inr (decide_eq_decide.2 zc))) rfl
  ·refine uT (zp (by
    rcases zL (aK2 (dig a.natAbs) (dig b.natAbs)) 0 with h | h
    ·exact absurd (o1.1 h) hc
    ·exact h)) ?_
   refine uC _ (avA d1 zc) ?_
   have d4 : (dig (a.natAbs - b.natAbs)).length ≤ 1000000000000 := zu (acD (Nat.sub_le _ _)) d1
   refine uC (pl (a + b), ()) (af0 d4 zc ?_) rfl
   by_cases h0 : a + b = 0
   ·exact Or.inl h0
   ·exact Or.inr (decide_eq_decide.2 zc)
theorem aEN {a b : Int} (h1 : Bd 7 a.natAbs) (h2 : Bd 7 b.natAbs) : ajQ (pl a, pl b, ()) = some (pl (a - b), ()) := aaZ (enc := fun p : Int × Int => (pl p.1, pl p.2, ())) (a, b) ⟨h1, h2⟩ (fun b hb => alG hb)
theorem ayD (x x' : PlT) (y) (h : ajQ (x, x', ()) = some y) : (at5 x x').toO = some y := by
 obtain ⟨⟨a, b⟩, hp, hx, rfl⟩ := aaP h
 obtain ⟨rfl, hx2⟩ := Prod.mk.inj hx; obtain ⟨rfl, -⟩ := Prod.mk.inj hx2; dsimp only
 obtain ⟨l1, l2⟩ := hp
 refine uC _ (asM (aaS l2 zc)) (uC _ (asN l1 (aaY l2)) ?_)
 rw [Int.sub_eq_add_neg]; rfl
theorem aO0 {a b : Int} : a * b = 0 ∨ (!(decide (a < 0) == decide (b < 0))) = decide (a * b < 0) := by
 by_cases hz : a * b = 0
 ·exact Or.inl hz
 ·right
  have z1 : a ≠ 0 := fun h => hz (by rw [h]; simp)
  have z2 : b ≠ 0 := fun h => hz (by rw [h]; simp)
  rcases zL a 0 with c1 | c1 <;> rcases zL b 0 with c2 | c2
  ·have := Int.mul_pos_of_neg_of_neg c1 c2
   rw [zp c1, zp c2, zn zc]; rfl
  ·have := wi c1 (show 0 < b by omega)
   rw [zp c1, zn zc, zp zc]; rfl
  ·have := wj (show 0 < a by omega) c2
   rw [zn zc, zp c2, zp zc]; rfl
  ·have := Int.mul_pos (show 0 < a by omega) (show 0 < b by omega)
   rw [zn zc, zn zc, zn zc]; rfl
theorem au9 {a b : Nat} (h1 : (dig a).length ≤ 200000000000) (h2 : (dig b).length ≤ 200000000000) (h3 : b ≠ 0) : ahG (dig a, dig b, ()) = some (dig (a / b), dig (a % b), ()) := aaZ (enc := fun p : Nat × Nat => (dig p.1, dig p.2, ())) (a, b) ⟨h1, h2, h3⟩ (fun b hb => auY hb)
theorem aoO {a b : Int} (h1 : Bd 8 a.natAbs) (h2 : Bd 8 b.natAbs) : afM (pl a, pl b, ()) = some (pl (Nat.gcd a.natAbs b.natAbs), ()) := aaZ (enc := fun p : Int × Int => (pl p.1, pl p.2, ())) (a, b) ⟨h1, h2⟩ (fun b hb => alG hb)
theorem as7 (x x' : PlT) (y) (h : afM (x, x', ()) = some y) : (anX x x').toO = some y := by
 obtain ⟨⟨a, b⟩, hp, hx, rfl⟩ := aaP h
 obtain ⟨rfl, hx2⟩ := Prod.mk.inj hx; obtain ⟨rfl, -⟩ := Prod.mk.inj hx2; dsimp only
 obtain ⟨l1, l2⟩ := hp
 dsimp only at l1 l2
 have d1 := aAl l1 zc
 have d2 := aAl l2 zc
 refine uO (dig b.natAbs, dig a.natAbs, ()) rfl ?_
 have hres : (pl ((Nat.gcd a.natAbs b.natAbs : Nat) : Int), ()) = ((false, dig (Nat.gcd a.natAbs b.natAbs), ()), ()) := by
  unfold pl
  rw [zn zc, yK]
 rw [hres]
 refine abH (fun i : List Int × List Int × Unit => ∃ p q : Nat, i = (dig q, dig p, ()) ∧ (dig p).length ≤ 200000000000 ∧ (dig q).length ≤ 200000000000 ∧ Nat.gcd p q = Nat.gcd a.natAbs b.natAbs) (fun i => (V 10000 i.1).toNat) (fun _ => ((false, dig (Nat.gcd a.natAbs b.natAbs), ()), ())) ?_ _ ⟨a.natAbs, b.natAbs, rfl, d1, d2, rfl⟩
 rintro i ⟨p, q, rfl, lp, lq, hg⟩
 unfold alF
 dsimp only
 by_cases hq : q = 0
 ·right
  subst hq
  refine uF (by rw [dig_zero]; rfl) ?_
  rw [← hg, Nat.gcd_zero_right]; rfl
 ·left
  have hql : 1 ≤ (dig q).length := by
   rcases zC (dig q).length with h5 | h5
   ·exact absurd (dig_nil_iff.1 (zW.1 h5)) hq
   ·exact h5
  refine ⟨(dig (p % q), dig q, ()), ?_, ⟨q, p % q, rfl, lq, ?_, ?_⟩, ?_, ze⟩
  ·refine uT sd (uC _ (au9 lp lq hq) ?_)
   repeat refine za ?_
   rfl
  ·exact zu (acD (Nat.le_of_lt (xb p (show 0 < q by omega)))) lq
  ·rw [← hg, xG p q, Nat.gcd_rec q p, xG]
  ·simp only [ag3, zk]
   exact xb p zc
theorem ajU {a b : Int} (h1 : Bd 6 a.natAbs) (h2 : Bd 6 b.natAbs) (h3 : b ≠ 0) : ae7 (pl a, pl b, ()) = some (pl (a / b), pl (a % b), ()) := aaZ (enc := fun p : Int × Int => (pl p.1, pl p.2, ())) (a, b) ⟨h1, h2, h3⟩ (fun b hb => alG hb)
theorem aPp {a b : Int} (hb : b ≠ 0) : ∃ q r : Int, q.natAbs = a.natAbs / b.natAbs ∧ r.natAbs = a.natAbs % b.natAbs ∧ (q = 0 ∨ (!(decide (a < 0) == decide (b < 0))) = decide (q < 0)) ∧ (r = 0 ∨ decide (a < 0) = decide (r < 0)) ∧ (r < 0 → a / b = (if b < 0 then q + 1 else q - 1) ∧ a % b = r + b.natAbs) ∧ (¬ r < 0 → a / b = q ∧ a % b = r) := by
 refine ⟨Int.tdiv a b, Int.tmod a b, Int.natAbs_tdiv a b, wR a b, ?_, ?_, ?_, ?_⟩
 ·by_cases hz : Int.tdiv a b = 0
  ·exact Or.inl hz
  ·right
   rcases zL a 0 with c1 | c1 <;> rcases zL b 0 with c2 | c2
   ·have : 0 ≤ Int.tdiv a b := by
     rw [← Int.neg_tdiv_neg]; exact xm zc zc
    rw [zp c1, zp c2, zn zc]; rfl
   ·have : Int.tdiv a b ≤ 0 := by
     have := xm (a := -a) (b := b) zc c2
     rw [Int.neg_tdiv] at this; omega
    rw [zp c1, zn zc, zp zc]; rfl
   ·have : Int.tdiv a b ≤ 0 := by
     have := xm (a := a) (b := -b) c1 zc
     rw [Int.tdiv_neg] at this; omega
    rw [zn zc, zp c2, zp zc]; rfl
   ·have := xm c1 c2
    rw [zn zc, zn zc, zn zc]; rfl
 ·by_cases hz : Int.tmod a b = 0
  ·exact Or.inl hz
  ·right
   refine decide_eq_decide.2 ?_
   rcases zL a 0 with c1 | c1
   ·have : Int.tmod a b ≤ 0 := by
     have := xX (a := -a) b zc
     rw [Int.neg_tmod] at this; omega
    omega
   ·have := xX (a := a) b c1
    omega
 ·intro hr
  have ha : a < 0 := by
   rcases zL a 0 with c | c
   ·exact c
   ·have := xX (a := a) b c; omega
  have h1 := xN a b
  have h2 : (Int.tmod a b).natAbs < b.natAbs := by rw [wR]; exact xb _ zc
  generalize Int.tdiv a b = q at *
  generalize Int.tmod a b = r at *
  have key : ∀ q' r' : Int, r' + b * q' = a → 0 ≤ r' → r' < b.natAbs → a / b = q' ∧ a % b = r' := by
   intro q' r' e e1 e2
   have hr' : r' / b = 0 := by
    rcases zL b 0 with c | c
    ·have : r' / (-(-b)) = -(r' / -b) := Int.ediv_neg _ _
     rw [Int.neg_neg] at this
     rw [this, xh e1 zc]; rfl
    ·exact xh e1 zc
   have d1 : a / b = q' := by rw [← e, wI _ _ hb, hr', Int.zero_add]
   refine ⟨d1, ?_⟩
   have := yc a b
   rw [d1] at this
   omega
  rcases zL b 0 with c | c
  ·rw [if_pos c]
   exact key _ _ (by rw [xJ]; omega) zc zc
  ·rw [if_neg zc]
   exact key _ _ (by rw [Int.mul_sub]; omega) zc zc
 ·intro hr
  have h1 := xN a b
  have h2 : (Int.tmod a b).natAbs < b.natAbs := by rw [wR]; exact xb _ zc
  generalize Int.tdiv a b = q at *
  generalize Int.tmod a b = r at *
  have hr' : r / b = 0 := by
   rcases zL b 0 with c | c
   ·have : r / (-(-b)) = -(r / -b) := Int.ediv_neg _ _
    rw [Int.neg_neg] at this
    rw [this, xh zc zc]; rfl
   ·exact xh zc zc
  have d1 : a / b = q := by rw [← h1, wI _ _ hb, hr', Int.zero_add]
  refine ⟨d1, ?_⟩
  have := yc a b
  rw [d1] at this
  omega
theorem ayC (x x' : PlT) (y) (h : ae7 (x, x', ()) = some y) : (amU x x').toO = some y := by
 obtain ⟨⟨a, b⟩, hp, hx, rfl⟩ := aaP h
 obtain ⟨rfl, hx2⟩ := Prod.mk.inj hx; obtain ⟨rfl, -⟩ := Prod.mk.inj hx2; dsimp only
 obtain ⟨l1, l2, l3⟩ := hp
 dsimp only at l1 l2 l3
 have d1 := aAl l1 zc
 have d2 := aAl l2 zc
 obtain ⟨q, r, hq, hr, sq, sr, hneg, hpos⟩ := aPp (a := a) l3
 have bq : Bd 6 q.natAbs := by rw [hq]; exact aaV _ l1
 have br : Bd 6 r.natAbs := by rw [hr]; exact abA _ l1
 have i1 : aeW 1 := ⟨by omega, by omega⟩
 have b1 : Bd 7 (1 : Int).natAbs := aaS (aaJ zd) zc
 unfold amU
 dsimp only
 refine uC _ (au9 d1 d2 zc) ?_
 refine uC (pl q, ()) (af0 (by rw [← hq]; exact anL bq zc) hq.symm sq) ?_
 refine uC (pl r, ()) (af0 (by rw [← hr]; exact anL br zc) hr.symm sr) ?_
 dsimp only
 by_cases c : r < 0
 ·obtain ⟨e1, e2⟩ := hneg c
  refine uT (zp c) ?_
  have hpb : agG (pl r, (false, dig b.natAbs, ()), ()) = some (pl (r + b.natAbs), ()) := by
   have := asN (a := r) (b := (b.natAbs : Int)) (aaS br zc) (aaS l2 zc)
   unfold pl at this ⊢
   rwa [zn (show ¬ ((b.natAbs : Int) < 0) by omega), yK] at this
  refine uC _ hpb ?_
  rw [e1, e2]
  by_cases c2 : b < 0
  ·rw [if_pos c2]
   exact uT (zp c2) (uC _ (agX i1) (uC _ (asN (aaS bq zc) b1) rfl))
  ·rw [if_neg c2]
   exact uF (zn c2) (uC _ (agX i1) (uC _ (aEN (aaS bq zc) b1) rfl))
 ·obtain ⟨e1, e2⟩ := hpos c
  rw [e1, e2]
  exact uF (zn c) rfl
theorem au7 {l : List Int} (h : Dg 10000 l) (k : Nat) : V 10000 (l.drop k) = V 10000 l / 10000 ^ k := by
 have h1 := acH 10000 l k
 have h2 := adC zc h k
 have h3 := aaQ zc (acF h k)
 rw [h1, wI _ _ (by have := av0 (show (1 : Int) ≤ 10000 by omega) k; omega), xh h3 h2, Int.zero_add]
theorem aAY {R b top first P : Int} (hP : 0 < P) (hb0 : 0 < b) (htop : 10000 ≤ top) (hb1 : top * P ≤ b) (hb2 : b < (top + 1) * P) (hf1 : first * P ≤ R) (hf2 : R < (first + 1) * P) (hR0 : 0 ≤ R) (hR : R < b * 10000) (hf0 : 0 ≤ first) :
  (first / (top + 1)) * b ≤ R ∧ R < (first / top + 1) * b ∧ first / top + 1 ≤ 10001 ∧ 0 ≤ first / (top + 1) ∧ first ≤ 100000000000000 * top := by
 have g1 := yc first (top + 1)
 have g2 := xn first (show top + 1 ≠ 0 by omega)
 have g3 := yc first top
 have g4 := xi first (show 0 < top by omega)
 have g7 := xn first (show top ≠ 0 by omega)
 have g5 := xr hf0 (show 0 ≤ top + 1 by omega)
 have g6 := xr hf0 (show 0 ≤ top by omega)
 generalize first / (top + 1) = L at *
 generalize first / top = H at *
 generalize first % (top + 1) = m1 at *
 generalize first % top = m2 at *
 refine ⟨?_, ?_, ?_, g5, ?_⟩
 ·have a1 : L * b ≤ L * ((top + 1) * P) := zy zc g5
  have a2 : L * ((top + 1) * P) = ((top + 1) * L) * P := by grind
  have a3 : ((top + 1) * L) * P ≤ first * P := zD zc zc
  omega
 ·have a1 : (H + 1) * (top * P) ≤ (H + 1) * b := zy hb1 zc
  have a2 : (H + 1) * (top * P) = (top * H + top) * P := by grind
  have a3 : (first + 1) * P ≤ (top * H + top) * P := zD zc zc
  omega
 ·have a1 : first * P < ((top + 1) * 10000) * P := by
   have : b * 10000 < ((top + 1) * P) * 10000 := zc
   have e : ((top + 1) * P) * 10000 = ((top + 1) * 10000) * P := by grind
   omega
  have a2 : first < (top + 1) * 10000 := zT a1 zc
  have a3 : top * H < top * 10001 := zc
  have := yC a3 zc
  omega
 ·have a1 : first * P < ((top + 1) * 10000) * P := by
   have : b * 10000 < ((top + 1) * P) * 10000 := zc
   have e : ((top + 1) * P) * 10000 = ((top + 1) * 10000) * P := by grind
   omega
  have a2 : first < (top + 1) * 10000 := zT a1 zc
  omega
theorem ax7 (m o : List Int) (y) (h : ahG (m, o, ()) = some y) : (amP m o).toO = some y := by
 obtain ⟨⟨a, b⟩, hn, hx, rfl⟩ := aaP h
 obtain ⟨rfl, hx2⟩ := Prod.mk.inj hx; obtain ⟨rfl, -⟩ := Prod.mk.inj hx2; dsimp only
 obtain ⟨la, lb, hb0⟩ := hn
 simp only at la lb hb0
 clear h hx hx2
 have hda := adW a
 have hdb := adW b
 have hVa := ag3 a
 have hVb := ag3 b
 have hbl : 1 ≤ (dig b).length := by
  rcases zC (dig b).length with h5 | h5
  ·exact absurd (dig_nil_iff.1 (zW.1 h5)) hb0
  ·exact h5
 unfold amP
 by_cases h1 : (dig b).length = 1
 ·-- one digit
  refine uT sd (uN ⟨by simp [asT], by exact sn⟩ ?_)
  have hb1 : b < 10000 := by have := dig_length_le_iff.1 (xC h1); simpa using this
  have hdb1 : dig b = [(b : Int)] := aHo hb0 hb1
  have hg : gi (dig b) 0 0 = (b : Int) := by rw [hdb1]; rfl
  rw [hg]
  refine uC _ (aH5 zc zc hb1) ?_
  have hm := xb a (show 0 < b by omega)
  generalize a % b = r at hm ⊢
  refine uC (dig r, ()) (afC (akI (show (0 : Int) ≤ (r : Int) by omega) (show (r : Int) < 10000 by omega)) zh (by simp [V])) rfl
 obtain ⟨n, hnl⟩ : ∃ n, (dig b).length = n + 2 := ⟨(dig b).length - 2, by omega⟩
 have w1 : w64 (len (dig b) - 1) = ((n + 1 : Nat) : Int) := by rw [aaN, hnl, aaB zc]; omega
 have w2 : w64 (((n + 1 : Nat) : Int) - 1) = ((n : Nat) : Int) := by rw [aaB zc]; omega
 have bge : 10000 ^ (n + 1) ≤ b := by have := aqB (B := 10000) zc hb0; rw [show (aoU 10000 b).length = n + 2 from hnl] at this; exact this
 refine uF sd ?_
 simp only [w1]
 by_cases h2 : (dig a).length ≤ n + 1
 ·-- the dividend is shorter
  refine uT sd (uN zc ?_)
  have hab : a < b := zR (dig_length_le_iff.1 h2) bge
  rw [aaT, yN hab, yj hab, dig_zero]
  simp
 have hq : ∃ M, (dig a).length = M + (n + 1) ∧ 0 < M := ⟨(dig a).length - (n + 1), by omega, by omega⟩
 obtain ⟨M, hM, hM0⟩ := hq
 have w3 : w64 (len (dig a) - ((n + 1 : Nat) : Int)) = (M : Int) := by rw [aaN, hM, aaB zc]; omega
 refine uF sd ?_
 simp only [w2, w3]
 refine uN sd (uN sd (uN zc (uN sd ?_)))
 simp only [zk]
 have htk : List.take ((dig a).length - M) ((dig a).drop M) = (dig a).drop M := zr zh
 simp only [htk]
 have htk2 : List.take (0 + ((dig a).drop M).length) (List.take 0 ([] : List Int) ++ (dig a).drop M) = (dig a).drop M := by rw [zl, List.take_zero, yS, zt]
 simp only [htk2]
 refine uN zg ?_
 have w4 : w64 ((M : Int) - 1) = (M : Int) - 1 := aaB zc
 refine uO ((M : Int) - 1, (dig a).drop M, List.replicate M 0, ()) ?_ ?_
 ·repeat refine za ?_
  rw [aaT, w4]
 -- the first two digits of the divisor
 have dB1 := aa4 zc hdb (n + 1)
 have dB0 := aa4 zc hdb n
 have hBtop : 1 ≤ (dig b).getD (n + 1) 0 := by
  have hc := aCW b
  unfold Cn at hc
  rw [yB, hnl, show n + 2 - 1 = n + 1 by omega, zG zc] at hc
  rw [ahZ zc] at *
  rcases zL 0 (dig b)[n + 1] with h | h
  ·exact h
  ·exact absurd (by congr 1; omega) hc
 have htopV : V 10000 ((dig b).drop n) = (dig b).getD (n + 1) 0 * 10000 + (dig b).getD n 0 := by
  have e1 := aaR 10000 (dig b) n
  have e2 := aaR 10000 (dig b) (n + 1)
  have e3 := ac4 10000 (l := dig b) (k := n + 1 + 1) zc
  omega
 have htop2 := au7 hdb n
 rw [hVb] at htop2
 have hwtop : w64 (w64 (gi (dig b) ((n + 1 : Nat) : Int) 0 * 10000) + gi (dig b) (n : Int) 0) = (dig b).getD (n + 1) 0 * 10000 + (dig b).getD n 0 := by
  rw [aaU, aaU, aaB (x := (dig b).getD (n + 1) 0 * 10000) zc, aaB zc]
 have hwtop1 : w64 ((dig b).getD (n + 1) 0 * 10000 + (dig b).getD n 0 + 1) = (dig b).getD (n + 1) 0 * 10000 + (dig b).getD n 0 + 1 := aaB zc
 have htop3 : 10000 ≤ (dig b).getD (n + 1) 0 * 10000 + (dig b).getD n 0 ∧ (dig b).getD (n + 1) 0 * 10000 + (dig b).getD n 0 < 100000000 := zc
 rw [← htopV] at htop3
 have hP : (0 : Int) < 10000 ^ n := yx zc
 have hbt1 : V 10000 ((dig b).drop n) * 10000 ^ n ≤ (b : Int) := by
  rw [htop2]; exact Int.ediv_mul_le _ zc
 have hbt2 : (b : Int) < (V 10000 ((dig b).drop n) + 1) * 10000 ^ n := by
  rw [htop2]; exact Int.lt_ediv_add_one_mul_self _ hP
 rw [← htopV] at hwtop hwtop1
 generalize htv : V 10000 ((dig b).drop n) = top at *
 clear htopV htop2 dB1 dB0 hBtop htv
 have hR0 : V 10000 ((dig a).drop M) < (b : Int) := by
  have := aEK zc (acV hda M)
  rw [zZ, show (dig a).length - M = n + 1 by omega] at this
  have hb2 : ((10000 ^ (n + 1) : Nat) : Int) ≤ (b : Int) := Int.ofNat_le.2 bge
  rw [Int.natCast_pow] at hb2
  exact Int.lt_of_lt_of_le this hb2
 have hcR0 : Cn ((dig a).drop M) := by
  have hc := aCW a
  unfold Cn at hc ⊢
  rw [List.getLast?_drop, if_neg zc]
  exact hc
 refine abH (fun i : Int × List Int × List Int × Unit => ∃ (k : Nat) (R : Nat), k ≤ M ∧ i.1 = (k : Int) - 1 ∧ i.2.1 = dig R ∧ R < b ∧ i.2.2.1.length = M ∧ Dg 10000 i.2.2.1 ∧ V 10000 ((dig a).drop k) = V 10000 (i.2.2.1.drop k) * b + R) (fun i => (i.1 + 1).toNat) (fun _ => (dig (a / b), dig (a % b), ())) ?_ _ ?_
 case refine_2 =>
  obtain ⟨R, hR⟩ := zI (aaQ zc (acV hda M))
  refine ⟨M, R, zi _, rfl, awX (acV hda M) hcR0 hR, by omega, by simp, afW zc _, ?_⟩
  rw [hR, ac4 _ zh]; simp
 rintro ⟨i, r, q, u⟩ ⟨k, R, g1, g2, g3, g4, g5, g6, g7⟩
 dsimp only at g2 g3 g5 g6 g7
 subst g2 g3
 cases k with
 | zero =>
  right
  simp only [yp, hVa] at g7
  obtain ⟨v, hv⟩ := zI (aaQ zc g6)
  rw [hv] at g7
  have h8 : a = v * b + R := by
   have : (a : Int) = ((v * b + R : Nat) : Int) := by simpa using g7
   exact Int.ofNat.inj this
  have h9 : a / b = v := by rw [h8, yO, xP _ _ zc, yN zc, zl]
  have h10 : a % b = R := by rw [h8, yO, xv, yj zc]
  simp only [akL, w1, w3, zk]
  refine uF sd (uC (dig v, ()) ?_ ?_)
  ·rw [zr zc]
   exact afC g6 zc hv
  ·rw [aaT, h9, h10]
 | succ j =>
  left
  have e6 : ((j + 1 : Nat) : Int) - 1 = (j : Int) := zc
  rw [e6]
  have da := aa4 zc hda j
  obtain ⟨d, hd⟩ := zI da.1
  have lR : (dig R).length ≤ n + 2 := by rw [← hnl]; exact acD zc
  -- the next rest
  obtain ⟨R', hR'⟩ : ∃ R', R' = d + 10000 * R := ⟨_, rfl⟩
  have hR'b : R' < b * 10000 := zc
  have hcut : acX ((dig a).getD j 0 :: dig R, ()) = some (dig R', ()) := by
   rw [hd]
   refine afC (axM ⟨by omega, by omega⟩ (adW R)) zg ?_
   simp only [V, ag3, hR']; simp
  have lR' : (dig R').length ≤ n + 3 := by
   rw [dig_length_le_iff]
   have := dig_length_le_iff.1 (xC hnl)
   rw [show n + 3 = (n + 2) + 1 by omega, yA]
   exact zR hR'b (zH _ (Nat.le_of_lt this))
  have hdR := adW R'
  have hVR := ag3 R'
  -- its first three digits
  have hf := au7 hdR n
  rw [hVR] at hf
  have hf1 : V 10000 ((dig R').drop n) * 10000 ^ n ≤ (R' : Int) := by rw [hf]; exact Int.ediv_mul_le _ zc
  have hf2 : (R' : Int) < (V 10000 ((dig R').drop n) + 1) * 10000 ^ n := by rw [hf]; exact Int.lt_ediv_add_one_mul_self _ hP
  have hf0 := aaQ zc (acV hdR n)
  obtain ⟨k1, k2, k3, k4, k5⟩ := aAY hP zc htop3.1 hbt1 hbt2 hf1 hf2 zc zc hf0
  have hfirst : ae1 (fun i1 => (ad7 (dig a) (dig b) ((j : Int), dig R, q, ()) (dig R', ()) i1).toO) (((n + 2 : Nat) : Int), 0, ()) = ae1 (fun i1 => (ad7 (dig a) (dig b) ((j : Int), dig R, q, ()) (dig R', ()) i1).toO) ((n : Int) - 1, V 10000 ((dig R').drop n), ()) := by
   have st : ∀ (t : Nat) (v : Int), n ≤ t → t ≤ n + 2 → v = V 10000 ((dig R').drop (t + 1)) → (ad7 (dig a) (dig b) ((j : Int), dig R, q, ()) (dig R', ()) ((t : Int), v, ())).toO = some (.inl ((t : Int) - 1, V 10000 ((dig R').drop t), ())) := by
    intro t v ht1 ht2 hv
    have e1 := aaR 10000 (dig R') t
    have e2 := aa4 zc hdR t
    have e3 := aaQ zc (acV hdR (t + 1))
    have e4 : V 10000 ((dig R').drop (t + 1)) < 10000 ^ 2 := by
     have := aEK zc (acV hdR (t + 1))
     have h7 : (10000 : Int) ^ ((dig R').drop (t + 1)).length ≤ 10000 ^ 2 := aA0 zc (by rw [zZ]; omega)
     omega
    subst hv
    simp only [ad7, w1, w2, aaU]
    refine uT sd ?_
    by_cases ct : t < (dig R').length
    ·refine uT sd (uN sd ?_)
     repeat refine za ?_
     rw [aaT, aaB (x := (t : Int) - 1) zc, aaB (x := V 10000 ((dig R').drop (t + 1)) * 10000) zc, aaB zc, e1, Int.add_comm, yV]
    ·refine uF sd ?_
     repeat refine za ?_
     rw [af9 zc] at e1
     rw [aaT, aaB (x := (t : Int) - 1) zc, aaB zc, e1, Int.zero_add, yV]
   have s1 := st (n + 2) 0 zc zc (by rw [ac4 _ zc])
   rw [show (((n + 2 : Nat) : Int)) - 1 = ((n + 1 : Nat) : Int) by omega] at s1
   rw [ahA s1]
   have s2 := st (n + 1) _ zc zc rfl
   rw [show (((n + 1 : Nat) : Int)) - 1 = ((n : Nat) : Int) by omega] at s2
   rw [ahA s2]
   rw [ahA (st n _ zc zc rfl)]
  -- the search
  obtain ⟨Q, hQ⟩ : ∃ Q : Nat, Q = R' / b := ⟨_, rfl⟩
  have hQm := Nat.mod_add_div R' b
  have hQl := xb R' (show 0 < b by omega)
  rw [← hQ] at hQm
  have hQ4 : Q < 10000 := by
   rw [hQ, yG zc, xa]; exact hR'b
  have hRQ : (R' : Int) = (Q : Int) * b + ((R' % b : Nat) : Int) := by
   have : (R' : Int) = ((R' % b + b * Q : Nat) : Int) := by rw [hQm]
   rw [this]; simp; rw [yV]; omega
  have res : ae1 (fun i1 => (ad7 (dig a) (dig b) ((j : Int), dig R, q, ()) (dig R', ()) i1).toO) (((n + 2 : Nat) : Int), 0, ()) = some (Sum.inl ((j : Int) - 1, dig (R' % b), q.set j (Q : Int), ())) := by
   rw [hfirst]
   refine am0 ?_
   simp only [ad7, w1, w2, hwtop, hwtop1]
   refine uF sd (uN zc (uN zc ?_))
   have hd1 : Int.tdiv (V 10000 ((dig R').drop n)) top = V 10000 ((dig R').drop n) / top := zJ hf0
   have hd2 : Int.tdiv (V 10000 ((dig R').drop n)) (top + 1) = V 10000 ((dig R').drop n) / (top + 1) := zJ hf0
   simp only [hd1, hd2]
   have hn1 := xr hf0 (show 0 ≤ top by omega)
   have hlow : V 10000 ((dig R').drop n) / (top + 1) ≤ Q := by
    have : V 10000 ((dig R').drop n) / (top + 1) * b < ((Q : Int) + 1) * b := by
     rw [Int.add_mul]; omega
    have := zT this zc
    omega
   have hhigh : (Q : Int) < V 10000 ((dig R').drop n) / top + 1 := by
    have : (Q : Int) * b < (V 10000 ((dig R').drop n) / top + 1) * b := zc
    exact zT this zc
   have wH : w64 (w64 (V 10000 ((dig R').drop n) / top) + 1) = V 10000 ((dig R').drop n) / top + 1 := by
    rw [aaB (x := V 10000 ((dig R').drop n) / top) zc, aaB zc]
   have wL : w64 (V 10000 ((dig R').drop n) / (top + 1)) = V 10000 ((dig R').drop n) / (top + 1) := aaB zc
   simp only [wH, wL]
   generalize V 10000 ((dig R').drop n) / top + 1 = H at *
   generalize V 10000 ((dig R').drop n) / (top + 1) = L at *
   refine uO (H, L, ()) (by repeat refine za ?_; rfl) ?_
   refine abH (fun i2 : Int × Int × Unit => 0 ≤ i2.2.1 ∧ i2.2.1 ≤ Q ∧ (Q : Int) < i2.1 ∧ i2.1 ≤ 10001) (fun i2 => (i2.1 - i2.2.1).toNat) (fun _ => (.inr (.inl ((j : Int) - 1, dig (R' % b), q.set j (Q : Int), ())) : (Int × Int × Unit) ⊕ ((Int × List Int × List Int × Unit) ⊕ (List Int × List Int × Unit)))) ?_ _ ⟨k4, hlow, hhigh, k3⟩
   rintro ⟨hi, lo, u3⟩ ⟨c1, c2, c3, c4⟩
   dsimp only at c1 c2 c3 c4
   have wd : w64 (hi - lo) = hi - lo := aaB zc
   simp only [ap4, wd]
   by_cases hgap : hi - lo > 1
   ·left
    have wm : w64 (Int.tdiv (w64 (lo + hi)) 2) = (lo + hi) / 2 := by
     rw [aaB (x := lo + hi) zc, zJ zc, aaB zc]
    simp only [wm]
    obtain ⟨mm, hmm⟩ := zI (show 0 ≤ (lo + hi) / 2 by omega)
    rw [hmm]
    have hmB : mm ≤ 10000 ∧ 1 ≤ mm := zc
    have hprod : acN (dig b, [(mm : Int)], ()) = some (dig (b * mm), ()) := by
     refine aoN hdb ?_ zc zh (by rw [hVb]; simp [V])
     by_cases cm : mm = 10000
     ·right; rw [cm]; rfl
     ·left; exact akI zc zc
    have lbm : (dig (b * mm)).length ≤ 1000000000000 := by
     have : (dig (b * mm)).length ≤ (dig b).length + 2 := by
      rw [dig_length_le_iff, Nat.pow_add]
      have q1 := dig_length_le_iff.1 (zi (dig b).length)
      exact Nat.mul_lt_mul'' q1 zc
     omega
    have hcutp : acX (dig (b * mm), ()) = some (dig (b * mm), ()) := afC (adW _) lbm (ag3 _)
    obtain ⟨o1, o2⟩ := aCp (b * mm) R'
    have hle : aK2 (dig (b * mm)) (dig R') ≤ 0 ↔ b * mm ≤ R' := zc
    have hmQ : b * mm ≤ R' ↔ mm ≤ Q := by
     rw [hQ, Nat.le_div_iff_mul_le zc, xa]
    by_cases cm : mm ≤ Q
    ·refine ⟨(hi, (mm : Int), ()), ?_, ⟨by dsimp only; omega, by dsimp only; omega, c3, c4⟩, by dsimp only; omega, ze⟩
     refine uT (zp hgap) (uV ?_)
     refine uC _ hprod (uC _ hcutp (uC _ (anN _ _ (adW _) (adW _) lbm zc) (uT (zp (hle.2 (hmQ.2 cm))) ?_)))
     repeat refine za ?_
     rfl
    ·refine ⟨((mm : Int), lo, ()), ?_, ⟨c1, c2, by dsimp only; omega, by dsimp only; omega⟩, by dsimp only; omega, ze⟩
     refine uT (zp hgap) (uV ?_)
     refine uC _ hprod (uC _ hcutp (uC _ (anN _ _ (adW _) (adW _) lbm zc) (uF (zn (fun h => cm (hmQ.1 (hle.1 h)))) ?_)))
     repeat refine za ?_
     rfl
   ·right
    have hlQ : lo = Q := zc
    subst hlQ
    refine uF (zn hgap) ?_
    simp only [w1, w3, zk]
    refine uN ⟨by omega, by omega⟩ ?_
    have hprod : acN (dig b, [(Q : Int)], ()) = some (dig (b * Q), ()) := aoN hdb (Or.inl (akI zc zc)) zc zh (by rw [hVb]; simp [V])
    have hdiff : abN (dig R', dig (b * Q), ()) = some (dig (R' % b), ()) := by
     have := ai7 (a := dig R') (b := dig (b * Q)) (n := R' % b) (adW _) (adW _) zc (acD zc) (by rw [ag3, ag3]; omega) (by rw [ag3, ag3]; omega)
     exact this
    refine uC _ hprod (uC _ hdiff ?_)
    repeat refine za ?_
    rw [aaT, aaB (x := (j : Int) - 1) zc, zl]
  refine ⟨((j : Int) - 1, dig (R' % b), q.set j (Q : Int), ()), ?_, ⟨j, R' % b, by omega, rfl, rfl, hQl, by simp; omega, ahK g6 ⟨by omega, by omega⟩ _, ?_⟩, by dsimp only; omega, ze⟩
  ·simp only [akL, aaU, w1]
   have htk3 : List.take (1 + (dig R).length) ([(dig a).getD j 0] ++ dig R) = (dig a).getD j 0 :: dig R := by
    rw [zr zg]; rfl
   simp only [htk3]
   have w5 : w64 (((n + 1 : Nat) : Int) + 1) = ((n + 2 : Nat) : Int) := by rw [aaB zc]; omega
   simp only [w5]
   refine uT sd (uN sd (uN zc (uC _ hcut ?_)))
   refine uO (((n + 2 : Nat) : Int), 0, ()) (by repeat refine za ?_; rfl) ?_
   exact res
  ·dsimp only
   rw [aaR 10000 (dig a) j, hd, g7, aaR 10000 (q.set j _) j, akT zc, agC _ zc]
   have : (d : Int) + 10000 * (V 10000 (q.drop (j + 1)) * b + R) = 10000 * (V 10000 (q.drop (j + 1)) * b) + R' := by rw [hR']; simp; grind
   rw [this, hRQ]
   grind
set_option maxRecDepth 100000
open Go Go.Vg Go.Proofs
noncomputable section
def aAR : LTab := []
def akK (n : Bool × List Int × Unit) (d : Bool × List Int × Unit) : TT ((vJ × vJ × Unit) × Unit) :=
 .ite (d.1)
 (.call (ahH ((n.1, n.2.1, ()), ())) atK fun y =>
 .call (ahH ((d.1, d.2.1, ()), ())) atK fun y1 =>
 .call (afM ((y.1.1, y.1.2.1, ()), (y1.1.1, y1.1.2.1, ()), ())) atK fun y2 =>
 .call (ae7 ((y.1.1, y.1.2.1, ()), (y2.1.1, y2.1.2.1, ()), ())) aPl fun y3 =>
 .call (ae7 ((y1.1.1, y1.1.2.1, ()), (y2.1.1, y2.1.2.1, ()), ())) aPl fun y4 =>
 .ok ((((y3.1.1, y3.1.2.1, ()), (y4.1.1, y4.1.2.1, ()), ()), ())))
 (.call (afM ((n.1, n.2.1, ()), (d.1, d.2.1, ()), ())) atK fun y5 =>
 .call (ae7 ((n.1, n.2.1, ()), (y5.1.1, y5.1.2.1, ()), ())) aPl fun y6 =>
 .call (ae7 ((d.1, d.2.1, ()), (y5.1.1, y5.1.2.1, ()), ())) aPl fun y7 =>
 .ok ((((y6.1.1, y6.1.2.1, ()), (y7.1.1, y7.1.2.1, ()), ()), ())))
def aDu : LTab := []
def at3 (n : Int) (d : Int) : TT ((vJ × vJ × Unit) × Unit) :=
 .call (acO (n, ())) atK fun y =>
 .call (acO (d, ())) atK fun y1 =>
 .call (aiC (y.1, y1.1, ())) aQz fun y2 =>
 .ok ((((y2.1.1.1, y2.1.1.2.1, ()), (y2.1.2.1.1, y2.1.2.1.2.1, ()), ()), ()))
def aIQ : LTab := []
def aCh (r : vJ × vJ × Unit) : TT vX :=
 .call (al9 ((r.1.1, r.1.2.1, ()), ())) aQh fun y =>
 .call (al9 ((r.2.1.1, r.2.1.2.1, ()), ())) aQh fun y1 =>
 .ite (y.2.1 != 0)
 (.ok (((#[].toList, #[].toList, ()), 6, ())))
 (.ite (y1.2.1 != 0)
 (.ok (((#[].toList, #[].toList, ()), 6, ())))
 (.ok (((y.1, y1.1, ()), 0, ()))))
def aLK : LTab := []
def aAQ (n : Int) (d : Int) : TT vX :=
 .ite (d == 0)
 (.ok (((#[].toList, #[].toList, ()), 7, ())))
 (.call (ajP (n, d, ())) aQz fun y =>
 .call (apI (y.1, ())) aME fun y1 =>
 .ok (((y1.1.1, y1.1.2.1, ()), y1.2.1, ())))
end
theorem aoE (n d : Int) (hd : d ≠ 0) : ∃ s : Int, s.natAbs = n.natAbs ∧ Rat.divInt n d = mkRat s d.natAbs ∧ s = (if d < 0 then -n else n) := by
 rcases zL d 0 with c | c
 ·refine ⟨-n, by omega, ?_, by rw [if_pos c]⟩
  rw [← Rat.neg_divInt_neg, ← xU]
  congr 1; omega
 ·refine ⟨n, rfl, ?_, by rw [if_neg zc]⟩
  rw [← xU]
  congr 1; omega
theorem aED {k : Nat} {n d : Int} (hd : d ≠ 0) (h1 : Bd k n.natAbs) (h2 : Bd k d.natAbs) : BdQ k (Rat.divInt n d) := by
 obtain ⟨s, e1, e2, -⟩ := aoE n d hd
 obtain ⟨g, t, hg, g0, e0, f1, f2⟩ := ad8 s (d := d.natAbs) zc
 rw [e2]
 refine ⟨?_, ?_⟩
 ·rw [f1, ← ac3 e0 g0, e1]; exact aaV _ h1
 ·rw [f2]; exact aaV _ h2
theorem aBU {n d : Int} (h1 : Bd 6 n.natAbs) (h2 : Bd 6 d.natAbs) (h3 : d ≠ 0) : aiC (pl n, pl d, ()) = some (ra (Rat.divInt n d), ()) := aaZ (enc := fun x : Int × Int => (pl x.1, pl x.2, ())) (n, d) ⟨h1, h2, h3⟩ (fun b hb => alG hb)
theorem aBc {s : Int} {d : Nat} (hd : d ≠ 0) (h1 : Bd 6 s.natAbs) (h2 : Bd 6 d) : ∃ g : Nat, g = Nat.gcd s.natAbs d ∧ g ≠ 0 ∧ Bd 6 g ∧ s / (g : Int) = (mkRat s d).num ∧ (d : Int) / (g : Int) = ((mkRat s d).den : Int) := by
 obtain ⟨g, t, hg, g0, e0, f1, f2⟩ := ad8 s hd
 refine ⟨g, hg, g0, by rw [hg]; exact aa6 h1 h2, ?_, ?_⟩
 ·rw [f1, e0, Int.mul_ediv_cancel_left _ zc]
 ·rw [f2]; simp
theorem avY (x x' : PlT) (y) (h : aiC (x, x', ()) = some y) : (akK x x').toO = some y := by
 obtain ⟨⟨n, d⟩, hp, hx, rfl⟩ := aaP h
 obtain ⟨rfl, hx2⟩ := Prod.mk.inj hx; obtain ⟨rfl, -⟩ := Prod.mk.inj hx2; dsimp only
 obtain ⟨l1, l2, l3⟩ := hp
 dsimp only at l1 l2 l3
 obtain ⟨s, e1, e2, e3⟩ := aoE n d l3
 obtain ⟨g, hg, g0, bg, q1, q2⟩ := aBc (s := s) (d := d.natAbs) zc (by rw [e1]; exact l1) l2
 rw [e2]
 unfold akK
 dsimp only
 have hgcd : Nat.gcd s.natAbs d.natAbs = g := hg.symm
 have g0' : (g : Int) ≠ 0 := zc
 by_cases c : d < 0
 ·rw [if_pos c] at e3
  subst e3
  refine uT (zp c) ?_
  refine uC _ (asM (aaS l1 zc)) (uC _ (asM (aaS l2 zc)) ?_)
  have hdv := aoO (a := -n) (b := -d) (aaY (aaS l1 zc)) (aaY (aaS l2 zc))
  rw [Int.natAbs_neg d, hgcd] at hdv
  refine uC _ hdv ?_
  refine uC _ (ajU (b := (g : Int)) (aaY l1) bg g0') ?_
  refine uC _ (ajU (b := (g : Int)) (aaY l2) bg g0') ?_
  rw [q1, show -d = (d.natAbs : Int) by omega, q2]; rfl
 ·rw [if_neg c] at e3
  subst e3
  refine uF (zn c) ?_
  have hdv := aoO (a := s) (b := d) (aaS l1 zc) (aaS l2 zc)
  rw [hgcd] at hdv
  refine uC _ hdv ?_
  refine uC _ (ajU (b := (g : Int)) l1 bg g0') ?_
  refine uC _ (ajU (b := (g : Int)) l2 bg g0') ?_
  rw [q1, show d = (d.natAbs : Int) by omega, yK, q2]; rfl
theorem aCG {n : Int} (h : aeW n) : Bd 0 n.natAbs := aaJ (by have := h.1; have := h.2; omega)
theorem aEM {n d : Int} (h1 : aeW n) (h2 : aeW d) (h3 : d ≠ 0) : ajP (n, d, ()) = some (ra (Rat.divInt n d), ()) := aaZ (enc := fun x : Int × Int => (x.1, x.2, ())) (n, d) ⟨h1, h2, h3⟩ (fun b hb => by
 obtain ⟨e1, e2⟩ := Prod.mk.inj hb
 obtain ⟨e2, -⟩ := Prod.mk.inj e2
 exact Prod.ext e1 e2)
theorem ax5 (n d : Int) (y) (h : ajP (n, d, ()) = some y) : (at3 n d).toO = some y := by
 obtain ⟨⟨n', d'⟩, hp, hx, rfl⟩ := aaP h
 obtain ⟨rfl, hx2⟩ := Prod.mk.inj hx; obtain ⟨rfl, -⟩ := Prod.mk.inj hx2; dsimp only
 obtain ⟨l1, l2, l3⟩ := hp
 exact uC _ (agX l1) (uC _ (agX l2) (uC _ (aBU (aaS (aCG l1) zc) (aaS (aCG l2) zc) l3) rfl))
theorem aKj {q : Rat} (h : BdQ 6 q) : apI (ra q, ()) = some (wrF q) := aaZ (enc := fun x : Rat => (ra x, ())) q h (fun b hb => aNn (Prod.mk.inj hb).1)
theorem aDv (x : RaT) (y) (h : apI (x, ()) = some y) : (aCh x).toO = some y := by
 obtain ⟨q, hp, hx, rfl⟩ := aaP h
 obtain ⟨rfl, -⟩ := Prod.mk.inj hx
 refine uC _ (aC7 hp.1) (uC _ (aC7 (z := (q.den : Int)) hp.2) ?_)
 by_cases c1 : Fit q.num
 ·rw [avG c1]
  by_cases c2 : Fit q.den
  ·rw [aAE ⟨c1, c2⟩, avG c2]
   refine uF rfl (uF rfl ?_)
   rw [aaT, arV]
  ·rw [avI (fun h => c2 h.2), avH c2]
   exact uF rfl (uT rfl rfl)
 ·rw [avH c1, avI (fun h => c1 h.1)]
  exact uT rfl rfl
theorem aFq (n d : Int) (y) (h : aa0 (n, d, ()) = some y) : (aAQ n d).toO = some y := by
 unfold aa0 aaH at h
 split at h
 case isFalse => cases h
 case isTrue hp =>
 obtain ⟨i1, i2⟩ := hp
 dsimp only at i1 i2 h
 unfold ofQ at h
 unfold aAQ
 by_cases c : d = 0
 ·rw [if_pos c] at h
  exact uT (by rw [c]; rfl) h
 ·rw [if_neg c] at h
  refine uF (by simpa using c) (uC _ (aEM i1 i2 c) (uC _ (aKj (aED c (aaS (aCG i1) zc) (aaS (aCG i2) zc))) h))
set_option maxRecDepth 100000
open Go Go.Vg Go.Proofs
noncomputable section
def aBp : LTab := [(166, 8186, 49153, ⟨0, (Int) × (List Int) × (List Int) × Unit, .dat (.s 12) vz <| .row 41 vB <| .row 26 vB <| .nil, [4, 11, 10, 9, 8, 5], [41, 26], 0⟩), (254, 63, 95232, ⟨1, (Int) × Unit, .dat (.s 8) vN <| .nil, [5, 4, 0, 1], [41, 26], 0⟩), (254, 252, 95232, ⟨2, (Int) × (Int) × Unit, .dat (.s 9) vN <| .dat (.s 8) vN <| .nil, [6, 5, 4, 0, 1], [41, 26], 0⟩), (254, 2042, 100352, ⟨3, (Int) × (Int) × (Int) × (List Int) × Unit, .dat (.s 77) vz <| .dat (.s 11) vz <| .dat (.s 10) vN <| .row 26 vB <| .nil, [76, 75, 8, 5, 4, 0, 1], [41, 26], 0⟩), (254, 65454, 118784, ⟨4, (Int) × (Int) × (List Int) × Unit, .dat (.s 125) vz <| .dat (.s 15) vB <| .row 26 vB <| .nil, [124, 123, 8, 5, 4, 0], [41, 26], 0⟩)]
def agA (i1 : (Int) × (Int) × Unit) (y3 : List Int × Unit) (i : Int × List Int × List Int × Unit) : TT (vO ⊕ (vZ ⊕ vD)) :=
 .ite (decide (abZ (i1.1 + abZ (gi y3.1 (w64 (len y3.1 - 1)) 0)) ≥ 1000000000))
 (.tt <| .lt (abZ (i1.2.1 - 1) : Int) fun z5 => .wT (vl z5 (len y3.1) (0 : Int) <| (wY 26 (0 + Int.toNat i.1) (Int.toNat (w64 (w64 (i.1 + len y3.1) + 1)) - Int.toNat i.1) true) ∧ vj y3.1) <| .wT (wS (wX 170 i.2.1) <| wS (wX 170 i.2.2.1) True) <| .ok (.inr (.inl ((z5, ())))))
 (.tt <| .lt (abZ (i1.1 + abZ (gi y3.1 (w64 (len y3.1 - 1)) 0)) : Int) fun z6 => .lt (abZ (i1.2.1 - 1) : Int) fun z7 => .wT (wZ z7 z6 (abZ (gi y3.1 (w64 (len y3.1 - 1)) 0) : Int) (len y3.1) (0 : Int) <| (wY 26 (0 + Int.toNat i.1) (Int.toNat (w64 (w64 (i.1 + len y3.1) + 1)) - Int.toNat i.1) true) ∧ vj y3.1) <| .wT (wS (wX 170 i.2.1) <| wS (wX 170 i.2.2.1) True) <| .ok (.inl ((z6, z7, ()))))
def afG (m : List Int) (o : List Int) (y : Int × Unit) (y3 : List Int × Unit) (y4 : List Int × Unit) (i : Int × List Int × List Int × Unit) (i1 : (Int) × (Int) × Unit) : TT (vO ⊕ (vZ ⊕ vD)) :=
 .ite (decide (i1.2.1 ≥ 1000000000))
 (agA i1 y3 i)
 (.need (inb (w64 (len y3.1 - 2)) (len y3.1)) <| .need (inb (w64 (len y3.1 - 2)) (↑(Int.toNat (w64 (w64 (i.1 + len y3.1) + 1)) - Int.toNat i.1) : Int)) <| .ite (decide (abZ (i1.2.1 * abZ (gi y3.1 (w64 (len y3.1 - 2)) 0)) > abZ (abZ (i1.1 * 1000000000) + abZ (List.getD i.2.2.1 (0 + Int.toNat i.1 + Int.toNat (w64 (len y3.1 - 2))) 0))))
  (agA i1 y3 i)
  (.tt <| .lt (i1.2.1 : Int) fun z11 => .wT (vl z11 (len y3.1) (0 : Int) <| (wY 26 (0 + Int.toNat i.1) (Int.toNat (w64 (w64 (i.1 + len y3.1) + 1)) - Int.toNat i.1) true) ∧ vj y3.1) <| .wT (wS (wX 170 i.2.1) <| wS (wX 170 i.2.2.1) True) <| .ok (.inr (.inl ((z11, ()))))))
def agP (m : List Int) (o : List Int) (y : Int × Unit) (y3 : List Int × Unit) (y4 : List Int × Unit) (i : Int × List Int × List Int × Unit) (j : Int × Unit) (i2 : Int × Int × Int × List Int × Unit) (i3 : (Int) × (Int) × (List Int) × Unit) : TT (vM ⊕ uo) :=
 .ite (decide (i3.1 < len y3.1))
 (.need (inb i3.1 (len y3.1)) <| .need (inb i3.1 (↑(Int.toNat (w64 (w64 (i.1 + len y3.1) + 1)) - Int.toNat i.1) : Int)) <| .ite (decide (adY (adY (List.getD i3.2.2.1 (0 + Int.toNat i.1 + Int.toNat i3.1) 0 + gi y3.1 i3.1 0) + i3.2.1) ≥ 1000000000))
 (.need (inb i3.1 (↑(Int.toNat (w64 (w64 (i.1 + len y3.1) + 1)) - Int.toNat i.1) : Int)) <| .tt <| .lt (w64 (i3.1 + 1) : Int) fun z20 => .lt (List.set i3.2.2.1 (0 + Int.toNat i.1 + Int.toNat i3.1) (adY (adY (adY (List.getD i3.2.2.1 (0 + Int.toNat i.1 + Int.toNat i3.1) 0 + gi y3.1 i3.1 0) + i3.2.1) - 1000000000)) : List Int) fun z21 => .wT (vq (1 : Int) z20 (len y3.1) y3.1 (abZ (j.1 - 1)) (len y3.1) (0 : Int) <| (wY 26 (0 + Int.toNat i.1) (Int.toNat (w64 (w64 (i.1 + len y3.1) + 1)) - Int.toNat i.1) true) ∧ True) <| .wT (wS (wX 170 i.2.1) <| wS (wX 170 z21) True) <| .ok (.inl ((z20, 1, z21, ()))))
 (.need (inb i3.1 (↑(Int.toNat (w64 (w64 (i.1 + len y3.1) + 1)) - Int.toNat i.1) : Int)) <| .tt <| .lt (w64 (i3.1 + 1) : Int) fun z22 => .lt (List.set i3.2.2.1 (0 + Int.toNat i.1 + Int.toNat i3.1) (adY (adY (List.getD i3.2.2.1 (0 + Int.toNat i.1 + Int.toNat i3.1) 0 + gi y3.1 i3.1 0) + i3.2.1)) : List Int) fun z23 => .wT (vq (0 : Int) z22 (len y3.1) y3.1 (abZ (j.1 - 1)) (len y3.1) (0 : Int) <| (wY 26 (0 + Int.toNat i.1) (Int.toNat (w64 (w64 (i.1 + len y3.1) + 1)) - Int.toNat i.1) true) ∧ True) <| .wT (wS (wX 170 i.2.1) <| wS (wX 170 z23) True) <| .ok (.inl ((z22, 0, z23, ())))))
 (.need (inb (len y3.1) (↑(Int.toNat (w64 (w64 (i.1 + len y3.1) + 1)) - Int.toNat i.1) : Int)) <| .need (inb i.1 (↑(Int.toNat (w64 (w64 (len m - len y3.1) + 1))) : Int)) <| .tt <| .lt (w64 (i.1 - 1) : Int) fun z24 => .lt (List.set i.2.1 (0 + Int.toNat i.1) (adY (abZ (j.1 - 1))) : List Int) fun z25 => .lt (List.set i3.2.2.1 (0 + Int.toNat i.1 + Int.toNat (len y3.1)) 0 : List Int) fun z26 => .wT (wU z24 <| (wY 41 0 (Int.toNat (w64 (w64 (len m - len y3.1) + 1))) true) ∧ (wU (len y3.1) <| (wY 26 0 (Int.toNat (w64 (len m + 1))) true) ∧ (ve y3.1 (adY (Int.tdiv 1000000000 (adY (gi o (w64 (len o - 1)) 0 + 1))) : Int) <| True ∧ True))) <| .wT (wS (wX 170 z25) <| wS (wX 170 z26) True) <| .ok (.inr (.inr (.inl ((z24, z25, z26, ()))))))
def afF (m : List Int) (o : List Int) (y : Int × Unit) (y3 : List Int × Unit) (y4 : List Int × Unit) (i : Int × List Int × List Int × Unit) (j : Int × Unit) (i2 : (Int) × (Int) × (Int) × (List Int) × Unit) : TT uo :=
 .ite (decide (i2.1 < len y3.1))
 (.need (inb i2.1 (len y3.1)) <| .need (inb i2.1 (↑(Int.toNat (w64 (w64 (i.1 + len y3.1) + 1)) - Int.toNat i.1) : Int)) <| .triv (asT Int 1000000000 ≠ 0) zd <| .triv (asT Int 1000000000 ≠ 0) zd <| .ite (decide (w64 (w64 (w64 (List.getD i2.2.2.2.1 (0 + Int.toNat i.1 + Int.toNat i2.1) 0) - i2.2.1) - w64 (Int.tmod (abZ (i2.2.2.1 + abZ (j.1 * abZ (gi y3.1 i2.1 0)))) 1000000000)) < 0))
 (.need (inb i2.1 (↑(Int.toNat (w64 (w64 (i.1 + len y3.1) + 1)) - Int.toNat i.1) : Int)) <| .tt <| .lt (w64 (i2.1 + 1) : Int) fun z13 => .lt (abZ (Int.tdiv (abZ (i2.2.2.1 + abZ (j.1 * abZ (gi y3.1 i2.1 0)))) 1000000000) : Int) fun z14 => .lt (List.set i2.2.2.2.1 (0 + Int.toNat i.1 + Int.toNat i2.1) (adY (w64 (w64 (w64 (w64 (List.getD i2.2.2.2.1 (0 + Int.toNat i.1 + Int.toNat i2.1) 0) - i2.2.1) - w64 (Int.tmod (abZ (i2.2.2.1 + abZ (j.1 * abZ (gi y3.1 i2.1 0)))) 1000000000)) + 1000000000))) : List Int) fun z15 => .wT (vk z14 (1 : Int) z13 (len y3.1) y3.1 j.1 (len y3.1) (0 : Int) <| (wY 26 (0 + Int.toNat i.1) (Int.toNat (w64 (w64 (i.1 + len y3.1) + 1)) - Int.toNat i.1) true) ∧ vj y3.1) <| .wT (wS (wX 170 i.2.1) <| wS (wX 170 z15) True) <| .ok (.inl ((z13, 1, z14, z15, ()))))
 (.need (inb i2.1 (↑(Int.toNat (w64 (w64 (i.1 + len y3.1) + 1)) - Int.toNat i.1) : Int)) <| .tt <| .lt (w64 (i2.1 + 1) : Int) fun z16 => .lt (abZ (Int.tdiv (abZ (i2.2.2.1 + abZ (j.1 * abZ (gi y3.1 i2.1 0)))) 1000000000) : Int) fun z17 => .lt (List.set i2.2.2.2.1 (0 + Int.toNat i.1 + Int.toNat i2.1) (adY (w64 (w64 (w64 (List.getD i2.2.2.2.1 (0 + Int.toNat i.1 + Int.toNat i2.1) 0) - i2.2.1) - w64 (Int.tmod (abZ (i2.2.2.1 + abZ (j.1 * abZ (gi y3.1 i2.1 0)))) 1000000000)))) : List Int) fun z18 => .wT (vk z17 (0 : Int) z16 (len y3.1) y3.1 j.1 (len y3.1) (0 : Int) <| (wY 26 (0 + Int.toNat i.1) (Int.toNat (w64 (w64 (i.1 + len y3.1) + 1)) - Int.toNat i.1) true) ∧ vj y3.1) <| .wT (wS (wX 170 i.2.1) <| wS (wX 170 z18) True) <| .ok (.inl ((z16, 0, z17, z18, ())))))
 (.need (inb (len y3.1) (↑(Int.toNat (w64 (w64 (i.1 + len y3.1) + 1)) - Int.toNat i.1) : Int)) <| .ite (decide (w64 (w64 (List.getD i2.2.2.2.1 (0 + Int.toNat i.1 + Int.toNat (len y3.1)) 0) - i2.2.1) < w64 i2.2.2.1))
 (.loop 4 (.tt <| .lt (i2.2.2.2.1 : List Int) fun z19 => .wT (vq (0 : Int) (0 : Int) (len y3.1) y3.1 (abZ (j.1 - 1)) (len y3.1) (0 : Int) <| (wY 26 (0 + Int.toNat i.1) (Int.toNat (w64 (w64 (i.1 + len y3.1) + 1)) - Int.toNat i.1) true) ∧ True) <| .wT (wS (wX 170 i.2.1) <| wS (wX 170 z19) True) <| .ok ((0, 0, z19, ()))) (agP m o y y3 y4 i j i2))
 (.need (inb (len y3.1) (↑(Int.toNat (w64 (w64 (i.1 + len y3.1) + 1)) - Int.toNat i.1) : Int)) <| .need (inb i.1 (↑(Int.toNat (w64 (w64 (len m - len y3.1) + 1))) : Int)) <| .tt <| .lt (w64 (i.1 - 1) : Int) fun z27 => .lt (List.set i.2.1 (0 + Int.toNat i.1) (adY j.1) : List Int) fun z28 => .lt (List.set i2.2.2.2.1 (0 + Int.toNat i.1 + Int.toNat (len y3.1)) 0 : List Int) fun z29 => .wT (wU z27 <| (wY 41 0 (Int.toNat (w64 (w64 (len m - len y3.1) + 1))) true) ∧ (wU (len y3.1) <| (wY 26 0 (Int.toNat (w64 (len m + 1))) true) ∧ (ve y3.1 (adY (Int.tdiv 1000000000 (adY (gi o (w64 (len o - 1)) 0 + 1))) : Int) <| True ∧ True))) <| .wT (wS (wX 170 z28) <| wS (wX 170 z29) True) <| .ok (.inr (.inl ((z27, z28, z29, ()))))))
def an8 (m : List Int) (o : List Int) (y : Int × Unit) (y3 : List Int × Unit) (y4 : List Int × Unit) (i : Int × List Int × List Int × Unit) (j : (Int) × Unit) : TT vD :=
 .loop 3 (.tt <| .lt (i.2.2.1 : List Int) fun z12 => .wT (vk (0 : Int) (0 : Int) (0 : Int) (len y3.1) y3.1 j.1 (len y3.1) (0 : Int) <| (wY 26 (0 + Int.toNat i.1) (Int.toNat (w64 (w64 (i.1 + len y3.1) + 1)) - Int.toNat i.1) true) ∧ vj y3.1) <| .wT (wS (wX 170 i.2.1) <| wS (wX 170 z12) True) <| .ok ((0, 0, 0, z12, ()))) (afF m o y y3 y4 i j)
def agQ (m : List Int) (o : List Int) (y : Int × Unit) (y3 : List Int × Unit) (y4 : List Int × Unit) (i : (Int) × (List Int) × (List Int) × Unit) : TT vD :=
 .ite (decide (i.1 ≥ 0))
 (.need (inc (w64 (w64 (i.1 + len y3.1) + 1)) (↑(Int.toNat (w64 (len m + 1))) : Int)) <| .need (inc i.1 (↑(Int.toNat (w64 (w64 (i.1 + len y3.1) + 1))) : Int)) <| .tt <| .tt <| .need (inb (w64 (len y3.1 - 1)) (len y3.1)) <| .need (inb (len y3.1) (↑(Int.toNat (w64 (w64 (i.1 + len y3.1) + 1)) - Int.toNat i.1) : Int)) <| .need (inb (w64 (len y3.1 - 1)) (↑(Int.toNat (w64 (w64 (i.1 + len y3.1) + 1)) - Int.toNat i.1) : Int)) <| .need (abZ (gi y3.1 (w64 (len y3.1 - 1)) 0) ≠ 0) <| .need (abZ (gi y3.1 (w64 (len y3.1 - 1)) 0) ≠ 0) <| .join 1 (ι := (Int) × Unit) (.loop 2 (.tt <| .lt (Int.tmod (abZ (abZ (abZ (List.getD i.2.2.1 (0 + Int.toNat i.1 + Int.toNat (len y3.1)) 0) * 1000000000) + abZ (List.getD i.2.2.1 (0 + Int.toNat i.1 + Int.toNat (w64 (len y3.1 - 1))) 0))) (abZ (gi y3.1 (w64 (len y3.1 - 1)) 0)) : Int) fun z3 => .lt (abZ (Int.tdiv (abZ (abZ (abZ (List.getD i.2.2.1 (0 + Int.toNat i.1 + Int.toNat (len y3.1)) 0) * 1000000000) + abZ (List.getD i.2.2.1 (0 + Int.toNat i.1 + Int.toNat (w64 (len y3.1 - 1))) 0))) (abZ (gi y3.1 (w64 (len y3.1 - 1)) 0))) : Int) fun z4 => .wT (wZ z4 z3 (abZ (gi y3.1 (w64 (len y3.1 - 1)) 0) : Int) (len y3.1) (0 : Int) <| (wY 26 (0 + Int.toNat i.1) (Int.toNat (w64 (w64 (i.1 + len y3.1) + 1)) - Int.toNat i.1) true) ∧ vj y3.1) <| .wT (wS (wX 170 i.2.1) <| wS (wX 170 i.2.2.1) True) <| .ok ((z3, z4, ()))) (afG m o y y3 y4 i)) (an8 m o y y3 y4 i))
 (.need (inc (len y3.1) (↑(Int.toNat (w64 (len m + 1))) : Int)) <| .call (acP (List.take (Int.toNat (len y3.1)) i.2.2.1, ())) Dd0 fun y5 =>
 .call (ahI (y5.1, adY (Int.tdiv 1000000000 (adY (gi o (w64 (len o - 1)) 0 + 1))), ())) aQC fun y6 =>
 .call (acP (List.take (Int.toNat (w64 (w64 (len m - len y3.1) + 1))) i.2.1, ())) Dd0 fun y7 =>
 .ok (.inr ((y7.1, y6.1, ()))))
def akX (m : List Int) (o : List Int) : TT (List Int × List Int × Unit) :=
 .call (adQ (m, o, ())) Dd6 fun y =>
 .ite (decide (y.1 < 0))
 (.ok (([], m, ())))
 (.ite (len o == 1)
 (.need (asT Int 0 ≤ 0 ∧ 0 < len o) <| .call (ahI (m, gi o 0 0, ())) aQC fun y1 =>
 .call (ac8 (abZ y1.2.1, ())) Dd0 fun y2 =>
 .ok ((y1.1, y2.1, ())))
 (.need (inb (w64 (len o - 1)) (len o)) <| .need (adY (gi o (w64 (len o - 1)) 0 + 1) ≠ 0) <| .call (adF (o, [adY (Int.tdiv 1000000000 (adY (gi o (w64 (len o - 1)) 0 + 1)))], ())) Dd0 fun y3 =>
 .need (0 ≤ w64 (len m + 1) ∧ w64 (len m + 1) ≤ w64 (len m + 1) ∧ w64 (len m + 1) * (↑4 : Int) ≤ 140737488355328) <| .call (adF (m, [adY (Int.tdiv 1000000000 (adY (gi o (w64 (len o - 1)) 0 + 1)))], ())) Dd0 fun y4 =>
 .need (0 ≤ w64 (w64 (len m - len y3.1) + 1) ∧ w64 (w64 (len m - len y3.1) + 1) ≤ w64 (w64 (len m - len y3.1) + 1) ∧ w64 (w64 (len m - len y3.1) + 1) * (↑4 : Int) ≤ 140737488355328) <| .loop 0 (.tt <| .lt (w64 (len m - len y3.1) : Int) fun z => .lt (List.replicate (Int.toNat (w64 (z + 1))) 0 : List Int) fun z1 => .lt (over (List.replicate (Int.toNat (w64 (len m + 1))) 0) 0 (List.take (Int.toNat (w64 (len m + 1))) y4.1) : List Int) fun z2 => .wT (wU z <| (wY 41 0 (Int.toNat (w64 (z + 1))) true) ∧ (wU (len y3.1) <| (wY 26 0 (Int.toNat (w64 (len m + 1))) true) ∧ (ve y3.1 (adY (Int.tdiv 1000000000 (adY (gi o (w64 (len o - 1)) 0 + 1))) : Int) <| True ∧ True))) <| .wT (wS (wX 170 z1) <| wS (wX 170 z2) True) <| .ok ((z, z1, z2, ()))) (agQ m o y y3 y4)))
end
end Go.Vs
