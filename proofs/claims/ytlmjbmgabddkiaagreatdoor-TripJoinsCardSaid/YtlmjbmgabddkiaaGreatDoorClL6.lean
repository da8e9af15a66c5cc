/-
  Trees of what the functions compute, and their laws. Own work; no condition.
-/
import Derived.Test.YtlmjbmgabddkiaaGreatDoorClL5
import Derived.Test.YtlmjbmgabddkiaaGreatDoorProg
import Derived.KernelRfl
set_option linter.unusedVariables false
set_option linter.unusedSimpArgs false
namespace Go.Vs
open Go Go.Vg
theorem al3 (m o : List Int) (a b : Nat) (la : (mag a).length ≤ 1000000000000) (hl : (mag b).length ≤ (mag a).length) : (ap7 m o (mag a, mag b, ())).toO = some (mag (a + b), ()) := by
 have hda := ahG a
 have hdb := ahG b
 have hVa := anA a
 have hVb := anA b
 unfold ap7
 dsimp only
 refine uN ?_ ?_
 ·(try simp only [aaI, inb, inc, ge_iff_le, gt_iff_lt, zm, asT, ne_eq])
  simp (disch := omega) only [aaA, aaM, aa4, acE, aaP, zp, zm, aaI]
  omega
 refine uO (0, 0, [], ()) rfl ?_
 refine aaS (fun i => ∃ k : Nat, k ≤ (mag a).length ∧ i.1 = (k : Int) ∧ 0 ≤ i.2.1 ∧ i.2.1 ≤ 1 ∧ i.2.2.1.length = k ∧ Dg 1000000000 i.2.2.1 ∧ V 1000000000 i.2.2.1 + 1000000000 ^ k * i.2.1 = V 1000000000 ((mag a).take k) + V 1000000000 ((mag b).take k)) (fun i => (((mag a).length : Int) - i.1).toNat) (fun _ => (mag (a + b), ())) ?_ _ ⟨0, zL _, rfl, by simp, by simp, rfl, arR _, by simp [V]⟩
 rintro ⟨i, c, s, u⟩ ⟨k, h1, h2, h3, h4, h5, h6, h7⟩
 simp only at h2 h3 h4 h5 h6 h7
 subst h2
 simp only [ayE, aaP]
 have ea := aa7 1000000000 (mag a) k
 have eb := aa7 1000000000 (mag b) k
 have da := aa5 zb hda k
 have db := aa5 zb hdb k
 rcases zv k (mag a).length with hk | hk
 ·left
  have key : ∀ x c' : Int, 0 ≤ x ∧ x < 1000000000 → x + 1000000000 * c' = (mag a).getD k 0 + (mag b).getD k 0 + c → V 1000000000 (s ++ [x]) + 1000000000 ^ (k + 1) * c' = V 1000000000 ((mag a).take (k + 1)) + V 1000000000 ((mag b).take (k + 1)) := by
   intro x c' _ hx
   rw [aeL, aw1, h5, ea, eb, yu]
   have : (1000000000 : Int) ^ k * (x + 1000000000 * c') = 1000000000 ^ k * ((mag a).getD k 0 + (mag b).getD k 0 + c) := by rw [hx]
   grind
  have fin : ∀ x c' : Int, 0 ≤ x ∧ x < 1000000000 → 0 ≤ c' ∧ c' ≤ 1 → x + 1000000000 * c' = (mag a).getD k 0 + (mag b).getD k 0 + c → (∃ k_1 : Nat, k_1 ≤ (mag a).length ∧ ((k + 1 : Nat) : Int) = (k_1 : Int) ∧ 0 ≤ c' ∧ c' ≤ 1 ∧ (s ++ [x]).length = k_1 ∧ Dg 1000000000 (s ++ [x]) ∧ V 1000000000 (s ++ [x]) + 1000000000 ^ k_1 * c' = V 1000000000 ((mag a).take k_1) + V 1000000000 ((mag b).take k_1)) ∧ (((mag a).length : Int) - ((k + 1 : Nat) : Int)).toNat < (((mag a).length : Int) - (k : Int)).toNat :=
   fun x c' hx hc he => ⟨⟨k + 1, by omega, rfl, hc.1, hc.2, by simp; omega, aeZ h6 (ak6 hx.1 hx.2), key x c' hx he⟩, by omega⟩
  rcases zv k (mag b).length with hkb | hkb
  ·rcases zP ((mag a).getD k 0 + c + (mag b).getD k 0) 1000000000 with hc | hc
   ·obtain ⟨g1, g2⟩ := fin ((mag a).getD k 0 + c + (mag b).getD k 0) 0 zb zb zb
    refine ⟨(((k + 1 : Nat) : Int), 0, s ++ [(mag a).getD k 0 + c + (mag b).getD k 0], ()), ?_, g1, g2, trivial⟩
    repeat refine za ?_
    simp (disch := omega) only [aaQ, aaA, aaM, aa4, acE, aaP, zp, zm, aaI, zu]
    rfl
   ·obtain ⟨g1, g2⟩ := fin ((mag a).getD k 0 + c + (mag b).getD k 0 - 1000000000) 1 zb zb zb
    refine ⟨(((k + 1 : Nat) : Int), 1, s ++ [(mag a).getD k 0 + c + (mag b).getD k 0 - 1000000000], ()), ?_, g1, g2, trivial⟩
    repeat refine za ?_
    simp (disch := omega) only [aaQ, aaA, aaM, aa4, acE, aaP, zp, zm, aaI, zu]
    rfl
  ·have hz : (mag b).getD k 0 = 0 := ahK hkb 0
   rcases zP ((mag a).getD k 0 + c) 1000000000 with hc | hc
   ·obtain ⟨g1, g2⟩ := fin ((mag a).getD k 0 + c) 0 zb zb zb
    refine ⟨(((k + 1 : Nat) : Int), 0, s ++ [(mag a).getD k 0 + c], ()), ?_, g1, g2, trivial⟩
    repeat refine za ?_
    simp (disch := omega) only [aaQ, aaA, aaM, aa4, acE, aaP, zp, zm, aaI, zu]
    rfl
   ·obtain ⟨g1, g2⟩ := fin ((mag a).getD k 0 + c - 1000000000) 1 zb zb zb
    refine ⟨(((k + 1 : Nat) : Int), 1, s ++ [(mag a).getD k 0 + c - 1000000000], ()), ?_, g1, g2, trivial⟩
    repeat refine za ?_
    simp (disch := omega) only [aaQ, aaA, aaM, aa4, acE, aaP, zp, zm, aaI, zu]
    rfl
 ·right
  have hkk : k = (mag a).length := zb
  rw [hkk, abN _ (zj _), abN _ hl, hVa, hVb] at h7
  rcases zP 0 c with hc | hc
  ·have hc1 : c = 1 := zb
   subst hc1
   repeat refine za ?_
   simp (disch := omega) only [aaQ, aaA, aaM, aa4, acE, aaP, zp, zm, aaI, zu]
   rw [zr zh]
   rw [ar9 (l := s ++ [1]) (n := a + b) (aeZ h6 (ak6 zb zb)) (by simp [Cn]) (by rw [aeL, aw1, h5, hkk]; omega)]
  ·have hc1 : c = 0 := zb
   subst hc1
   repeat refine za ?_
   simp (disch := omega) only [aaQ, aaA, aaM, aa4, acE, aaP, zp, zm, aaI, zu]
   rw [ar9 (l := s) (n := a + b) h6 (aOM zb h6 ?_) zb]
   rcases zC a with ha | ha
   ·left
    subst ha
    rw [mag_zero] at hkk
    exact zU.1 (by rw [h5, hkk]; rfl)
   ·right
    have := atS (B := 1000000000) zb (n := a) zb
    have h8 : (1000000000 : Int) ^ ((mag a).length - 1) ≤ a := by
     have : ((1000000000 ^ ((mag a).length - 1) : Nat) : Int) ≤ (a : Int) := Int.ofNat_le.2 this
     simpa using this
    rw [h5, hkk]
    omega
theorem aEF (m o : List Int) (y) (h : ak2 (m, o, ()) = some y) : (auP m o).toO = some y := by
 obtain ⟨⟨a, b⟩, hn, hx, rfl⟩ := aaH h
 obtain ⟨rfl, hx2⟩ := Prod.mk.inj hx; obtain ⟨rfl, -⟩ := Prod.mk.inj hx2; dsimp only
 obtain ⟨l1, l2⟩ := hn
 simp only at l1 l2
 unfold auP
 rcases zv (mag a).length (mag b).length with hl | hl
 ·refine uL (mag b, mag a, ()) ?_ ?_
  ·repeat refine za ?_
   rfl
  ·rw [yO]
   exact al3 _ _ b a l2 zb
 ·refine uL (mag a, mag b, ()) ?_ ?_
  ·repeat refine za ?_
   rfl
  ·exact al3 _ _ a b l1 hl
theorem aKy {a b B : Int} (ha : 0 ≤ a ∧ a < B) (hb : 0 ≤ b ∧ b < B) : 0 ≤ a * b ∧ a * b ≤ (B - 1) * (B - 1) := by
 refine ⟨xr ha.1 hb.1, ?_⟩
 have h1 : a * b ≤ a * (B - 1) := zy zb ha.1
 have h2 : a * (B - 1) ≤ (B - 1) * (B - 1) := zI zb zb
 omega
theorem aL3 (Vs P c A K x T X Y d e Q B : Int) (h : Vs + P * c = A + K * (x * T)) (h2 : X + B * Y = c + (d + x * e)) (hP : P = K * Q) : Vs + P * (X - d) + P * B * Y = A + K * (x * (T + Q * e)) := by
 subst hP
 have h3 : K * Q * (X + B * Y) = K * Q * (c + (d + x * e)) := by rw [h2]
 grind
theorem aCE (m o : List Int) (y) (h : ac0 (m, o, ()) = some y) : (ap5 m o).toO = some y := by
 obtain ⟨⟨a, b⟩, hn, hx, rfl⟩ := aaH h
 obtain ⟨rfl, hx2⟩ := Prod.mk.inj hx; obtain ⟨rfl, -⟩ := Prod.mk.inj hx2; dsimp only
 obtain ⟨la, lb⟩ := hn
 simp only at la lb
 have hda := ahG a
 have hdb := ahG b
 have hVa := anA a
 have hVb := anA b
 have hw : w64 (len (mag a) + len (mag b)) = (((mag a).length + (mag b).length : Nat) : Int) := by
  simp only [aaI]; rw [aaA (x := ((mag a).length : Int) + (mag b).length) zb]; omega
 unfold ap5
 simp only [hw]
 refine uN zb ?_
 refine uO (0, List.replicate ((mag a).length + (mag b).length) 0, ()) ?_ ?_
 ·repeat refine za ?_
  simp (disch := omega) only [aaQ, aaA, aaM, aa4, acE, aaP, zp, zm, aaI, zu]
 have hBb : V 1000000000 (mag b) < 1000000000 ^ (mag b).length := aIz zb hdb
 refine aaS (fun i => ∃ k : Nat, k ≤ (mag a).length ∧ i.1 = (k : Int) ∧ i.2.1.length = (mag a).length + (mag b).length ∧ Dg 1000000000 i.2.1 ∧ V 1000000000 i.2.1 = V 1000000000 ((mag a).take k) * b) (fun i => (((mag a).length : Int) - i.1).toNat) (fun _ => (mag (a * b), ())) ?_ _ ⟨0, zL _, rfl, by simp, agZ zb _, by simp [V, av0]⟩
 rintro ⟨i, s, u⟩ ⟨k, h1, h2, h3, h4, h5⟩
 simp only at h2 h3 h4 h5
 subst h2
 simp only [auN, aaP, hw]
 have ea := aa7 1000000000 (mag a) k
 have da := aa5 zb hda k
 rcases zv k (mag a).length with hk | hk
 ·left
  have hs : V 1000000000 s < 1000000000 ^ (k + (mag b).length) := by
   rw [h5, xP]
   have e1 := adQ zb hda k
   have e2 := aaO zb (acT hda k)
   rw [hVb] at hBb
   have e3 : V 1000000000 ((mag a).take k) * b ≤ V 1000000000 ((mag a).take k) * 1000000000 ^ (mag b).length := zy zb e2
   have e4 : V 1000000000 ((mag a).take k) * 1000000000 ^ (mag b).length < 1000000000 ^ k * 1000000000 ^ (mag b).length := Int.mul_lt_mul_of_pos_right e1 (yM zb)
   omega
  have hz := akP zb h4 hs
  -- the inner loop
  obtain ⟨r, hin, s', rfl, q1, q2, q3⟩ : ∃ r : ((Int × List Int × Unit) ⊕ (List Int × Unit)), abX (fun i1 => (amV (mag a) (mag b) ((k : Int), s, ()) i1).toO) (0, 0, s, ()) = some r ∧ ∃ s', r = Sum.inl (((k + 1 : Nat) : Int), s', ()) ∧ s'.length = (mag a).length + (mag b).length ∧ Dg 1000000000 s' ∧ V 1000000000 s' = V 1000000000 ((mag a).take (k + 1)) * b := by
   refine aiQ (fun j => ∃ q : Nat, q ≤ (mag b).length ∧ j.1 = (q : Int) ∧ 0 ≤ j.2.1 ∧ j.2.1 < 1000000000 ∧ j.2.2.1.length = (mag a).length + (mag b).length ∧ Dg 1000000000 j.2.2.1 ∧ (∀ t, k + (mag b).length ≤ t → j.2.2.1.getD t 0 = 0) ∧ V 1000000000 j.2.2.1 + 1000000000 ^ (k + q) * j.2.1 = V 1000000000 ((mag a).take k) * b + 1000000000 ^ k * ((mag a).getD k 0 * V 1000000000 ((mag b).take q))) (fun j => (((mag b).length : Int) - j.1).toNat) _ ?_ _ ⟨0, zL _, rfl, by simp, by simp, h3, h4, hz, by simp [V, h5]⟩
   rintro ⟨j, c, s1, u1⟩ ⟨q, g1, g2, g3, g4, g5, g6, g7, g8⟩
   simp only at g2 g3 g4 g5 g6 g7 g8
   subst g2
   have hkq : w64 ((k : Int) + q) = ((k + q : Nat) : Int) := by rw [aaA (x := (k : Int) + q) zb]; omega
   have hkl : w64 ((k : Int) + len (mag b)) = ((k + (mag b).length : Nat) : Int) := by rw [aaI, aaA (x := (k : Int) + ((mag b).length : Int)) zb]; omega
   simp only [amV, aaP, hw, hkq, hkl, zm, zp]
   have eb := aa7 1000000000 (mag b) q
   have db := aa5 zb hdb q
   have ds := aa5 zb g6 (k + q)
   have hm := aKy da db
   rcases zv q (mag b).length with hq | hq
   ·left
    have hsum : 0 ≤ c + (s1.getD (k + q) 0 + (mag a).getD k 0 * (mag b).getD q 0) := zb
    have e1 := yq (c + (s1.getD (k + q) 0 + (mag a).getD k 0 * (mag b).getD q 0)) 1000000000
    have e2 : 0 ≤ (c + (s1.getD (k + q) 0 + (mag a).getD k 0 * (mag b).getD q 0)) % 1000000000 ∧ (c + (s1.getD (k + q) 0 + (mag a).getD k 0 * (mag b).getD q 0)) % 1000000000 < 1000000000 := zb
    have e3 : 0 ≤ (c + (s1.getD (k + q) 0 + (mag a).getD k 0 * (mag b).getD q 0)) / 1000000000 ∧ (c + (s1.getD (k + q) 0 + (mag a).getD k 0 * (mag b).getD q 0)) / 1000000000 < 1000000000 := zb
    refine ⟨(((q + 1 : Nat) : Int), (c + (s1.getD (k + q) 0 + (mag a).getD k 0 * (mag b).getD q 0)) / 1000000000, s1.set (k + q) ((c + (s1.getD (k + q) 0 + (mag a).getD k 0 * (mag b).getD q 0)) % 1000000000), ()), ?_, ⟨q + 1, by omega, rfl, e3.1, e3.2, by simp; omega, ai5 g6 e2 _, ?_, ?_⟩, by simp only; omega⟩
    ·repeat refine za ?_
     simp (disch := omega) only [aaQ, aaA, aaM, aa4, acE, aaP, zp, zm, aaI, zu]
     rw [yd hsum, zQ hsum]
     simp (disch := omega) only [aaQ, aaA, aaM, aa4, acE, aaP, zp, zm, aaI, zu]
     rfl
    ·intro t ht
     rw [amT _ zb]; exact g7 t ht
    ·simp only
     rw [aw0 _ zb, eb, show k + (q + 1) = k + q + 1 by omega, yu]
     exact aL3 _ _ _ _ _ _ _ _ _ _ _ _ _ g8 e1 (xP _ _ _)
   ·right
    have hqq : q = (mag b).length := zb
    subst hqq
    rw [abN _ (zj _), hVb] at g8
    refine ⟨.inl (((k + 1 : Nat) : Int), s1.set (k + (mag b).length) c, ()), ?_, _, rfl, by simp; omega, ai5 g6 ⟨g3, g4⟩ _, ?_⟩
    ·repeat refine za ?_
     simp (disch := omega) only [aaQ, aaA, aaM, aa4, acE, aaP, zp, zm, aaI, zu]
     rfl
    ·rw [aw0 _ zb, g7 _ zb, ea, Int.add_mul]
     simp only [wS]
     rw [g8]
     grind
  refine ⟨(((k + 1 : Nat) : Int), s', ()), ?_, ⟨k + 1, by omega, rfl, q1, q2, q3⟩, by simp only; omega, trivial⟩
  refine uT sd ?_
  refine uN sd ?_
  refine uO (0, 0, s, ()) ?_ ?_
  ·repeat refine za ?_
   rfl
  ·exact hin
 ·right
  have hkk : k = (mag a).length := zb
  rw [hkk, abN _ (zj _), hVa] at h5
  refine uF sd ?_
  refine uC (mag (a * b), ()) ?_ ?_
  ·rw [zr zg]
   exact asS h4 zb (by rw [h5]; simp)
  ·rfl
theorem aL4 (Vm Vq P d R m X Y B W : Int) (h : Vm = Vq * d + R) (h2 : Y + d * X = R * B + m) (hW : W = m + B * Vm) (hP : P = X + B * Vq) : W = P * d + Y := by
 subst hW hP h
 grind
theorem aCG (m : List Int) (d : Int) (y) (h : ai2 (m, d, ()) = some y) : (ap6 m d).toO = some y := by
 obtain ⟨⟨a, e⟩, hn, hx, rfl⟩ := aaH h
 obtain ⟨rfl, hx2⟩ := Prod.mk.inj hx; obtain ⟨rfl, -⟩ := Prod.mk.inj hx2; dsimp only
 obtain ⟨la, he, he2⟩ := hn
 simp only at la he he2
 have hda := ahG a
 have hVa := anA a
 unfold ap6
 refine uN sn ?_
 have hd : ab6 (e : Int) = e := aaM zb
 refine uO (((mag a).length : Int) - 1, 0, List.replicate (mag a).length 0, ()) ?_ ?_
 ·repeat refine za ?_
  simp only [aaI]
  rw [aaA (x := ((mag a).length : Int) - 1) zb]
  rfl
 refine aaS (fun i : Int × Int × List Int × Unit => ∃ k : Nat, k ≤ (mag a).length ∧ i.1 = (k : Int) - 1 ∧ 0 ≤ i.2.1 ∧ i.2.1 < e ∧ i.2.2.1.length = (mag a).length ∧ Dg 1000000000 i.2.2.1 ∧ V 1000000000 ((mag a).drop k) = V 1000000000 (i.2.2.1.drop k) * e + i.2.1) (fun i => (i.1 + 1).toNat) (fun _ => (mag (a / e), ((a % e : Nat) : Int), ())) ?_ _ ⟨_, zj _, rfl, by simp, by simp; omega, by simp, agZ zb _, by rw [adK _ (zj _), adK _ zh]; simp⟩
 rintro ⟨i, r, q, u⟩ ⟨k, h1, h2, h3, h4, h5, h6, h7⟩
 simp only at h2 h3 h4 h5 h6 h7
 subst h2
 rcases zC k with h0 | h0
 ·subst h0
  right
  simp only [yE, hVa] at h7
  obtain ⟨v, hv⟩ := zE (aaO zb h6)
  obtain ⟨r', rfl⟩ := zE h3
  rw [hv] at h7
  have h8 : a = v * e + r' := by
   have : (a : Int) = ((v * e + r' : Nat) : Int) := by simpa using h7
   exact Int.ofNat.inj this
  have h9 : a / e = v := by rw [h8, yO, wz _ _ he, yQ zb, zp]
  have h10 : a % e = r' := by rw [h8, yO, xM, yv zb]
  simp only [amW]
  refine uF sd ?_
  refine uC (mag v, ()) ?_ ?_
  ·rw [zr (by simp [len]; omega)]
   exact asS h6 zb hv
  ·simp (disch := omega) only [aaQ, aaA, aaM, aa4, acE, aaP, zp, zm, aaI, zu]
   rw [h9, h10]
 ·left
  obtain ⟨j, rfl⟩ : ∃ j, k = j + 1 := ⟨k - 1, by omega⟩
  have e6 : ((j + 1 : Nat) : Int) - 1 = (j : Int) := zb
  rw [e6]
  simp only [amW, aaP, hd]
  have e1 := aaR 1000000000 (mag a) j
  have e2 := aa5 zb hda j
  have g1 : 0 ≤ r * 1000000000 + (mag a).getD j 0 := zb
  have g0 : (0 : Int) < e := zb
  have g2 := yq (r * 1000000000 + (mag a).getD j 0) e
  have g3 := xE (r * 1000000000 + (mag a).getD j 0) (show (e : Int) ≠ 0 by omega)
  have g4 := xy (r * 1000000000 + (mag a).getD j 0) g0
  have g5 : 0 ≤ (r * 1000000000 + (mag a).getD j 0) / e := xK g1 zb
  have g6 : (r * 1000000000 + (mag a).getD j 0) / e < 1000000000 := by
   refine Int.ediv_lt_of_lt_mul g0 ?_
   have : (r + 1) * 1000000000 ≤ e * 1000000000 := zI zb zb
   omega
  have hw1 : ab6 (ab6 (r * 1000000000) + ab6 ((mag a).getD j 0)) = r * 1000000000 + (mag a).getD j 0 := by
   rw [aaM (x := r * 1000000000) zb, aaM (x := (mag a).getD j 0) zb, aaM zb]
  simp only [hw1]
  refine ⟨((j : Int) - 1, (r * 1000000000 + (mag a).getD j 0) % e, q.set j ((r * 1000000000 + (mag a).getD j 0) / e), ()), ?_, ⟨j, by omega, rfl, g3, g4, by simp; omega, ai5 h6 ⟨g5, g6⟩ _, ?_⟩, by simp only; omega, trivial⟩
  ·repeat refine za ?_
   rw [yd g1, zQ g1]
   rw [aaM (x := (r * 1000000000 + (mag a).getD j 0) / e) zb, aa4 (x := (r * 1000000000 + (mag a).getD j 0) / e) zb]
   simp (disch := omega) only [aaQ, aaA, aaM, aa4, acE, aaP, zp, zm, aaI, zu]
  ·simp only
   refine aL4 _ _ _ _ _ _ _ _ 1000000000 _ h7 g2 e1 ?_
   rw [aaR 1000000000 (q.set j _) j, amU zb, ahN _ zb]
theorem au0 (v : Int) (y) (h : adO (v, ()) = some y) : (an7 v).toO = some y := by
 unfold adO at h
 split at h
 ·rename_i hp
  obtain ⟨h0, h1⟩ := hp
  simp only at h0 h1
  injection h with h
  subst h
  obtain ⟨n, rfl⟩ := zE h0
  simp only [zm]
  refine uO (true, [], (n : Int), ()) rfl ?_
  refine aaS (fun i => ∃ w : Nat, i.2.2.1 = (w : Int) ∧ w ≤ n ∧ Dg 1000000000 i.2.1 ∧ V 1000000000 i.2.1 + 1000000000 ^ i.2.1.length * w = n ∧ (i.1 = true → i.2.1 = []) ∧ (w = 0 → Cn i.2.1) ∧ (i.2.1.length ≤ 3) ∧ (w ≠ 0 → w < 1000000000 ^ (3 - i.2.1.length))) (fun i => i.2.2.1.toNat) (fun _ => (mag n, ())) ?_ _ ⟨n, rfl, zj _, arR _, by simp [V], fun _ => rfl, fun _ => arS, by simp, fun _ => by simp; omega⟩
  rintro ⟨f, l, w', u⟩ ⟨w, g1, g2, g3, g4, g5, g6, g7, g8⟩
  simp only at g1 g3 g4 g5 g6 g7 g8
  subst g1
  rcases zC w with hw | hw
  ·subst hw
   right
   have : l = mag n := ar9 g3 (g6 rfl) zb
   cases f
   ·unfold aeU
    repeat refine za ?_
    simp (disch := omega) only [aaQ, aaA, aaM, aa4, acE, aaP, zp, zm, aaI, zu]
    rw [this]
   ·unfold aeU
    repeat refine za ?_
    simp (disch := omega) only [aaQ, aaA, aaM, aa4, acE, aaP, zp, zm, aaI, zu]
    rw [← this, g5 rfl]
  ·left
   have hl : l.length ≤ 2 := by
    rcases zv 2 l.length with h | h
    ·have h3 : l.length = 3 := zb
     have := g8 zb
     rw [h3] at this
     simp at this
     omega
    ·exact h
   have e1 : ((w % 1000000000 : Nat) : Int) + 1000000000 * ((w / 1000000000 : Nat) : Int) = w := zb
   refine ⟨(false, l ++ [((w % 1000000000 : Nat) : Int)], ((w / 1000000000 : Nat) : Int), ()), ?_, ⟨w / 1000000000, rfl, by omega, aeZ g3 (ak6 zb zb), ?_, by simp, ?_, by simp; omega, ?_⟩, by simp only; omega, zd⟩
   ·have t1 : Int.tmod (w : Int) 1000000000 = ((w % 1000000000 : Nat) : Int) := by rw [yd zb]; omega
    have t2 : Int.tdiv (w : Int) 1000000000 = ((w / 1000000000 : Nat) : Int) := by rw [zQ zb]; omega
    cases f
    ·simp only [aeU, t1, t2]
     repeat refine za ?_
     simp (disch := omega) only [aaQ, aaA, aaM, aa4, acE, aaP, zp, zm, aaI, zu]
    ·simp only [aeU, t1, t2]
     repeat refine za ?_
     rw [g5 rfl]
     simp (disch := omega) only [aaQ, aaA, aaM, aa4, acE, aaP, zp, zm, aaI, zu]
     rfl
   ·simp only
    rw [aeL, aw1, zo, yo, yu, ← g4]
    have : (1000000000 : Int) ^ l.length * (((w % 1000000000 : Nat) : Int) + 1000000000 * ((w / 1000000000 : Nat) : Int)) = 1000000000 ^ l.length * w := by rw [e1]
    grind
   ·intro hz
    unfold Cn
    simp
    omega
   ·intro hz
    simp only [zo, yo]
    have := g8 zb
    rw [yV zb]
    have h9 : 1000000000 ^ (3 - l.length) = 1000000000 ^ (3 - (l.length + 1)) * 1000000000 := by
     rw [← yw]; congr 1; omega
    omega
 ·cases h
theorem aEu {n : Nat} (h : n ≠ 0) : ∃ t : Nat, (mag n).getD ((mag n).length - 1) 0 = (t : Int) ∧ 1 ≤ t ∧ t < 1000000000 ∧ 1000000000 ^ ((mag n).length - 1) * t ≤ n ∧ n < 1000000000 ^ ((mag n).length - 1) * (t + 1) := by
 have hd := ahG n
 have hV := anA n
 have hl : 1 ≤ (mag n).length := by
  rcases zC (mag n).length with h0 | h0
  ·exact absurd (mag_nil_iff.1 (zU.1 h0)) h
  ·exact h0
 have e1 := acU 1000000000 (mag n) ((mag n).length - 1)
 have e2 := aaR 1000000000 (mag n) ((mag n).length - 1)
 rw [adK (k := (mag n).length - 1 + 1) _ zb] at e2
 have e3 := adQ zb hd ((mag n).length - 1)
 have e4 := aaO zb (acT hd ((mag n).length - 1))
 have e5 := aa5 zb hd ((mag n).length - 1)
 obtain ⟨t, ht⟩ := zE e5.1
 have h1 : 1 ≤ t := by
  rcases zC t with h0 | h0
  ·have hc := aR7 n
   unfold Cn at hc
   rw [yR, zJ zb] at hc
   rw [ajL zb, h0] at ht
   rw [ht] at hc
   exact absurd rfl hc
  ·exact h0
 have hp : (1000000000 : Int) ^ ((mag n).length - 1) = ((1000000000 ^ ((mag n).length - 1) : Nat) : Int) := zh
 rw [hV, e2, ht, hp] at e1
 rw [hp] at e3
 refine ⟨t, ht, h1, by omega, ?_, ?_⟩
 ·have : ((1000000000 ^ ((mag n).length - 1) * t : Nat) : Int) ≤ n := by
   rw [yH]
   simp only [wU, wT] at e1
   omega
  exact Int.ofNat_le.1 this
 ·have : (n : Int) < ((1000000000 ^ ((mag n).length - 1) * (t + 1) : Nat) : Int) := by
   rw [yH]
   simp only [wU, wT] at e1
   rw [Int.natCast_add, wi]
   omega
  exact Int.ofNat_lt.1 this
theorem avD {n t L : Nat} (h1 : 1 ≤ t) (h3 : 1000000000 ^ L * t ≤ n) (h4 : n < 1000000000 ^ L * (t + 1)) : (aa3 n).length = L * 9 + (aa3 t).length := by
 have a1 := ahH t
 have a2 := aEg (n := t) zb
 have a3 := afL t
 have e : (1000000000 : Nat) ^ L = 10 ^ (L * 9) := by rw [show 1000000000 = 10 ^ 9 by decide, ← Nat.pow_mul, yW]
 rw [e] at h3 h4
 obtain ⟨q, hq⟩ : ∃ q, (aa3 t).length = q + 1 := ⟨(aa3 t).length - 1, by omega⟩
 rw [hq] at a1 a2 ⊢
 have h5 : 10 ^ (L * 9 + q) ≤ n := by
  rw [wY]
  have := yf (10 ^ (L * 9)) a2
  simp at this
  omega
 have h6 : n < 10 ^ (L * 9 + q + 1) := by
  rw [show L * 9 + q + 1 = L * 9 + (q + 1) by omega, wY]
  have : 10 ^ (L * 9) * (t + 1) ≤ 10 ^ (L * 9) * 10 ^ (q + 1) := yf _ zb
  omega
 rw [al6 h5 h6]
 omega
theorem aAl (m : List Int) (y) (h : ahT (m, ()) = some y) : (amX m).toO = some y := by
 obtain ⟨n, hn, hx, rfl⟩ := aaH h
 obtain ⟨rfl, -⟩ := Prod.mk.inj hx
 unfold amX
 refine uC (len (mag n) == 0, ()) rfl ?_
 by_cases h0 : n = 0
 ·subst h0
  refine uT (by simp [mag_zero, len]) ?_
  simp [aaQ, ab2]
 ·obtain ⟨t, ht, h1, h2, h3, h4⟩ := aEu h0
  have hl : 1 ≤ (mag n).length := by
   rcases zC (mag n).length with h5 | h5
   ·exact absurd (mag_nil_iff.1 (zU.1 h5)) h0
   ·exact h5
  have hw : w64 (len (mag n) - 1) = (((mag n).length - 1 : Nat) : Int) := by rw [aaI, aaA (x := ((mag n).length : Int) - 1) zb]; omega
  refine uF sd ?_
  simp only [hw, aaP, ht]
  refine uN sd ?_
  have hdl : (aa3 t).length ≤ 9 := (aaZ zb).2 zb
  refine uC (aa3 t, ()) ?_ ?_
  ·rw [aaA (x := (t : Int)) zb]
   unfold ak1
   rw [if_pos (by simp only; omega)]
   simp only [ajR]
  ·rw [avD h1 h3 h4]
   simp only [aaQ, aaI]
   rw [aaA (x := ((((mag n).length - 1 : Nat)) : Int) * 9) zb, aaA zb]
   simp
theorem aHZ (m o : List Int) (y) (h : agW (m, o, ()) = some y) : (aAm m o).toO = some y := by
 obtain ⟨⟨a, b⟩, hn, hx, rfl⟩ := aaH h
 obtain ⟨rfl, hx2⟩ := Prod.mk.inj hx; obtain ⟨rfl, -⟩ := Prod.mk.inj hx2; dsimp only
 obtain ⟨la, lb⟩ := hn
 simp only at la lb
 unfold aAm
 refine uO (mag a, mag b, ()) rfl ?_
 refine aaS (fun i : List Int × List Int × Unit => ∃ p q : Nat, i = (mag p, mag q, ()) ∧ (mag p).length ≤ 100000000000 ∧ (mag q).length ≤ 100000000000 ∧ Nat.gcd p q = Nat.gcd a b) (fun i => (V 1000000000 i.2.1).toNat) (fun _ => (mag (Nat.gcd a b), ())) ?_ _ ⟨a, b, rfl, la, lb, rfl⟩
 rintro i ⟨p, q, rfl, lp, lq, hg⟩
 simp only [aCJ]
 by_cases hq : q = 0
 ·right
  subst hq
  refine uC (len (mag 0) == 0, ()) rfl ?_
  refine uF (by simp [mag_zero, len]) ?_
  rw [← hg]
  simp [aaQ]
 ·have hql : 1 ≤ (mag q).length := by
   rcases zC (mag q).length with h5 | h5
   ·exact absurd (mag_nil_iff.1 (zU.1 h5)) hq
   ·exact h5
  by_cases hs : (mag p).length ≤ 2 ∧ (mag q).length ≤ 2
  ·right
   have bp : p < 1000000000000000000 := by have := mag_length_le_iff.1 hs.1; omega
   have bq : q < 1000000000000000000 := by have := mag_length_le_iff.1 hs.2; omega
   refine uC (len (mag q) == 0, ()) rfl ?_
   refine uT (by simp [len]; intro h; simp [h] at hql) ?_
   refine uL (true, ()) ?_ ?_
   ·refine uT sd ?_
    repeat refine za ?_
    show some (Sum.inl (decide (len (mag q) ≤ 2), ())) = _
    rw [zl (show len (mag q) ≤ 2 by exact sn)]
   ·simp only [auR]
    refine uT rfl ?_
    refine uC ((p : Int), ()) (aaN (enc := fun n : Nat => (mag n, ())) p bp (fun b hb => agP (Prod.mk.inj hb).1)) ?_
    refine uC ((q : Int), ()) (aaN (enc := fun n : Nat => (mag n, ())) q bq (fun b hb => agP (Prod.mk.inj hb).1)) ?_
    refine uO ((q : Int), (p : Int), ()) rfl ?_
    refine aaS (fun i : Int × Int × Unit => ∃ r s : Nat, i = ((r : Int), (s : Int), ()) ∧ s < 1000000000000000000 ∧ r < 1000000000000000000 ∧ Nat.gcd s r = Nat.gcd a b) (fun i => i.1.toNat) (fun _ => (Sum.inr (mag (Nat.gcd a b), ()) : (List Int × List Int × Unit) ⊕ (List Int × Unit))) ?_ _ ⟨q, p, rfl, bp, bq, hg⟩
    rintro i ⟨r, s, rfl, h1, h2, h3⟩
    simp only [aCI]
    rcases zC r with hr | hr
    ·subst hr
     right
     refine uF sd ?_
     refine uC (mag s, ()) ?_ ?_
     ·unfold adO
      rw [if_pos (by simp only; omega)]
      simp
     ·rw [← h3]
      simp [aaQ]
    ·left
     have hm := yy s hr
     refine ⟨(((s % r : Nat) : Int), (r : Int), ()), ?_, ⟨s % r, r, rfl, by omega, by omega, ?_⟩, by simp only; omega, zd⟩
     ·repeat refine za ?_
      rw [yd zb]
      rfl
     ·rw [← h3, xX s r, Nat.gcd_rec r s, xX]
  ·left
   refine ⟨(mag q, mag (p % q), ()), ?_, ⟨q, p % q, rfl, lq, ?_, ?_⟩, ?_, zd⟩
   ·refine uC (len (mag q) == 0, ()) rfl ?_
    refine uT (by simp [len]; intro h; simp [h] at hql) ?_
    refine uL (false, ()) ?_ ?_
    ·rcases zv 2 (mag p).length with h5 | h5
     ·repeat refine za ?_
      rfl
     ·repeat refine za ?_
      show some (Sum.inl (decide (len (mag q) ≤ 2), ())) = _
      rw [zk (show ¬ len (mag q) ≤ 2 by exact sn)]
    ·simp only [auR]
     refine uF rfl ?_
     refine uC (mag (p / q), mag (p % q), ()) (aaN (enc := fun p : Nat × Nat => (mag p.1, mag p.2, ())) (p, q) ⟨lp, lq, hq⟩ (fun b hb => agS hb)) ?_
     repeat refine za ?_
     rfl
   ·have := ab3 (Nat.le_of_lt (yy p (show 0 < q by omega))); omega
   ·rw [← hg, xX p q, Nat.gcd_rec q p, xX]
   ·simp only [anA, zm]
    exact yy p zb
set_option maxRecDepth 100000
open Go Go.Vg Go.Proofs
noncomputable section
def aEH : LTab := [(152, 8186, 49153, ⟨0, (Int) × (List Int) × (List Int) × Unit, .dat (.s 12) vU <| .row 41 vV <| .row 26 vV <| .nil, [4, 11, 10, 9, 8, 5], [41, 26], 0⟩), (196, 63, 95232, ⟨1, (Int) × Unit, .dat (.s 8) uo <| .nil, [5, 4, 0, 1], [41, 26], 0⟩), (196, 252, 95232, ⟨2, (Int) × (Int) × Unit, .dat (.s 9) uo <| .dat (.s 8) uo <| .nil, [6, 5, 4, 0, 1], [41, 26], 0⟩), (196, 2042, 100352, ⟨3, (Int) × (Int) × (Int) × (List Int) × Unit, .dat (.s 77) vU <| .dat (.s 11) vU <| .dat (.s 10) uo <| .row 26 vV <| .nil, [76, 75, 8, 5, 4, 0, 1], [41, 26], 0⟩), (196, 65454, 118784, ⟨4, (Int) × (Int) × (List Int) × Unit, .dat (.s 125) vU <| .dat (.s 15) vV <| .row 26 vV <| .nil, [124, 123, 8, 5, 4, 0], [41, 26], 0⟩)]
def ahL (i1 : (Int) × (Int) × Unit) (y3 : List Int × Unit) (i : Int × List Int × List Int × Unit) : TT (uj ⊕ (um ⊕ vX)) :=
 .ite (decide (ab6 (i1.1 + ab6 (gi y3.1 (w64 (len y3.1 - 1)) 0)) ≥ 1000000000))
 (.tt <| .lt (ab6 (i1.2.1 - 1) : Int) fun z5 => .vA (vF z5 (len y3.1) (0 : Int) <| (vJ 26 (0 + Int.toNat i.1) (Int.toNat (w64 (w64 (i.1 + len y3.1) + 1)) - Int.toNat i.1) true) ∧ vE y3.1) <| .vA (vz (vI 180 i.2.1) <| vz (vI 180 i.2.2.1) True) <| .ok (.inr (.inl ((z5, ())))))
 (.tt <| .lt (ab6 (i1.1 + ab6 (gi y3.1 (w64 (len y3.1 - 1)) 0)) : Int) fun z6 => .lt (ab6 (i1.2.1 - 1) : Int) fun z7 => .vA (vK z7 z6 (ab6 (gi y3.1 (w64 (len y3.1 - 1)) 0) : Int) (len y3.1) (0 : Int) <| (vJ 26 (0 + Int.toNat i.1) (Int.toNat (w64 (w64 (i.1 + len y3.1) + 1)) - Int.toNat i.1) true) ∧ vE y3.1) <| .vA (vz (vI 180 i.2.1) <| vz (vI 180 i.2.2.1) True) <| .ok (.inl ((z6, z7, ()))))
def agF (m : List Int) (o : List Int) (y : Int × Unit) (y3 : List Int × Unit) (y4 : List Int × Unit) (i : Int × List Int × List Int × Unit) (i1 : (Int) × (Int) × Unit) : TT (uj ⊕ (um ⊕ vX)) :=
 .ite (decide (i1.2.1 ≥ 1000000000))
 (ahL i1 y3 i)
 (.need (inb (w64 (len y3.1 - 2)) (len y3.1)) <| .need (inb (w64 (len y3.1 - 2)) (↑(Int.toNat (w64 (w64 (i.1 + len y3.1) + 1)) - Int.toNat i.1) : Int)) <| .ite (decide (ab6 (i1.2.1 * ab6 (gi y3.1 (w64 (len y3.1 - 2)) 0)) > ab6 (ab6 (i1.1 * 1000000000) + ab6 (List.getD i.2.2.1 (0 + Int.toNat i.1 + Int.toNat (w64 (len y3.1 - 2))) 0))))
  (ahL i1 y3 i)
  (.tt <| .lt (i1.2.1 : Int) fun z11 => .vA (vF z11 (len y3.1) (0 : Int) <| (vJ 26 (0 + Int.toNat i.1) (Int.toNat (w64 (w64 (i.1 + len y3.1) + 1)) - Int.toNat i.1) true) ∧ vE y3.1) <| .vA (vz (vI 180 i.2.1) <| vz (vI 180 i.2.2.1) True) <| .ok (.inr (.inl ((z11, ()))))))
def ah2 (m : List Int) (o : List Int) (y : Int × Unit) (y3 : List Int × Unit) (y4 : List Int × Unit) (i : Int × List Int × List Int × Unit) (j : Int × Unit) (i2 : Int × Int × Int × List Int × Unit) (i3 : (Int) × (Int) × (List Int) × Unit) : TT (ul ⊕ uZ) :=
 .ite (decide (i3.1 < len y3.1))
 (.need (inb i3.1 (len y3.1)) <| .need (inb i3.1 (↑(Int.toNat (w64 (w64 (i.1 + len y3.1) + 1)) - Int.toNat i.1) : Int)) <| .ite (decide (aeP (aeP (List.getD i3.2.2.1 (0 + Int.toNat i.1 + Int.toNat i3.1) 0 + gi y3.1 i3.1 0) + i3.2.1) ≥ 1000000000))
 (.need (inb i3.1 (↑(Int.toNat (w64 (w64 (i.1 + len y3.1) + 1)) - Int.toNat i.1) : Int)) <| .tt <| .lt (w64 (i3.1 + 1) : Int) fun z20 => .lt (List.set i3.2.2.1 (0 + Int.toNat i.1 + Int.toNat i3.1) (aeP (aeP (aeP (List.getD i3.2.2.1 (0 + Int.toNat i.1 + Int.toNat i3.1) 0 + gi y3.1 i3.1 0) + i3.2.1) - 1000000000)) : List Int) fun z21 => .vA (vO (1 : Int) z20 (len y3.1) y3.1 (ab6 (j.1 - 1)) (len y3.1) (0 : Int) <| (vJ 26 (0 + Int.toNat i.1) (Int.toNat (w64 (w64 (i.1 + len y3.1) + 1)) - Int.toNat i.1) true) ∧ True) <| .vA (vz (vI 180 i.2.1) <| vz (vI 180 z21) True) <| .ok (.inl ((z20, 1, z21, ()))))
 (.need (inb i3.1 (↑(Int.toNat (w64 (w64 (i.1 + len y3.1) + 1)) - Int.toNat i.1) : Int)) <| .tt <| .lt (w64 (i3.1 + 1) : Int) fun z22 => .lt (List.set i3.2.2.1 (0 + Int.toNat i.1 + Int.toNat i3.1) (aeP (aeP (List.getD i3.2.2.1 (0 + Int.toNat i.1 + Int.toNat i3.1) 0 + gi y3.1 i3.1 0) + i3.2.1)) : List Int) fun z23 => .vA (vO (0 : Int) z22 (len y3.1) y3.1 (ab6 (j.1 - 1)) (len y3.1) (0 : Int) <| (vJ 26 (0 + Int.toNat i.1) (Int.toNat (w64 (w64 (i.1 + len y3.1) + 1)) - Int.toNat i.1) true) ∧ True) <| .vA (vz (vI 180 i.2.1) <| vz (vI 180 z23) True) <| .ok (.inl ((z22, 0, z23, ())))))
 (.need (inb (len y3.1) (↑(Int.toNat (w64 (w64 (i.1 + len y3.1) + 1)) - Int.toNat i.1) : Int)) <| .need (inb i.1 (↑(Int.toNat (w64 (w64 (len m - len y3.1) + 1))) : Int)) <| .tt <| .lt (w64 (i.1 - 1) : Int) fun z24 => .lt (List.set i.2.1 (0 + Int.toNat i.1) (aeP (ab6 (j.1 - 1))) : List Int) fun z25 => .lt (List.set i3.2.2.1 (0 + Int.toNat i.1 + Int.toNat (len y3.1)) 0 : List Int) fun z26 => .vA (vD z24 <| (vJ 41 0 (Int.toNat (w64 (w64 (len m - len y3.1) + 1))) true) ∧ (vD (len y3.1) <| (vJ 26 0 (Int.toNat (w64 (len m + 1))) true) ∧ (vL y3.1 (aeP (Int.tdiv 1000000000 (aeP (gi o (w64 (len o - 1)) 0 + 1))) : Int) <| True ∧ True))) <| .vA (vz (vI 180 z25) <| vz (vI 180 z26) True) <| .ok (.inr (.inr (.inl ((z24, z25, z26, ()))))))
def agE (m : List Int) (o : List Int) (y : Int × Unit) (y3 : List Int × Unit) (y4 : List Int × Unit) (i : Int × List Int × List Int × Unit) (j : Int × Unit) (i2 : (Int) × (Int) × (Int) × (List Int) × Unit) : TT uZ :=
 .ite (decide (i2.1 < len y3.1))
 (.need (inb i2.1 (len y3.1)) <| .need (inb i2.1 (↑(Int.toNat (w64 (w64 (i.1 + len y3.1) + 1)) - Int.toNat i.1) : Int)) <| .triv (asT Int 1000000000 ≠ 0) zf <| .triv (asT Int 1000000000 ≠ 0) zf <| .ite (decide (w64 (w64 (w64 (List.getD i2.2.2.2.1 (0 + Int.toNat i.1 + Int.toNat i2.1) 0) - i2.2.1) - w64 (Int.tmod (ab6 (i2.2.2.1 + ab6 (j.1 * ab6 (gi y3.1 i2.1 0)))) 1000000000)) < 0))
 (.need (inb i2.1 (↑(Int.toNat (w64 (w64 (i.1 + len y3.1) + 1)) - Int.toNat i.1) : Int)) <| .tt <| .lt (w64 (i2.1 + 1) : Int) fun z13 => .lt (ab6 (Int.tdiv (ab6 (i2.2.2.1 + ab6 (j.1 * ab6 (gi y3.1 i2.1 0)))) 1000000000) : Int) fun z14 => .lt (List.set i2.2.2.2.1 (0 + Int.toNat i.1 + Int.toNat i2.1) (aeP (w64 (w64 (w64 (w64 (List.getD i2.2.2.2.1 (0 + Int.toNat i.1 + Int.toNat i2.1) 0) - i2.2.1) - w64 (Int.tmod (ab6 (i2.2.2.1 + ab6 (j.1 * ab6 (gi y3.1 i2.1 0)))) 1000000000)) + 1000000000))) : List Int) fun z15 => .vA (vM z14 (1 : Int) z13 (len y3.1) y3.1 j.1 (len y3.1) (0 : Int) <| (vJ 26 (0 + Int.toNat i.1) (Int.toNat (w64 (w64 (i.1 + len y3.1) + 1)) - Int.toNat i.1) true) ∧ vE y3.1) <| .vA (vz (vI 180 i.2.1) <| vz (vI 180 z15) True) <| .ok (.inl ((z13, 1, z14, z15, ()))))
 (.need (inb i2.1 (↑(Int.toNat (w64 (w64 (i.1 + len y3.1) + 1)) - Int.toNat i.1) : Int)) <| .tt <| .lt (w64 (i2.1 + 1) : Int) fun z16 => .lt (ab6 (Int.tdiv (ab6 (i2.2.2.1 + ab6 (j.1 * ab6 (gi y3.1 i2.1 0)))) 1000000000) : Int) fun z17 => .lt (List.set i2.2.2.2.1 (0 + Int.toNat i.1 + Int.toNat i2.1) (aeP (w64 (w64 (w64 (List.getD i2.2.2.2.1 (0 + Int.toNat i.1 + Int.toNat i2.1) 0) - i2.2.1) - w64 (Int.tmod (ab6 (i2.2.2.1 + ab6 (j.1 * ab6 (gi y3.1 i2.1 0)))) 1000000000)))) : List Int) fun z18 => .vA (vM z17 (0 : Int) z16 (len y3.1) y3.1 j.1 (len y3.1) (0 : Int) <| (vJ 26 (0 + Int.toNat i.1) (Int.toNat (w64 (w64 (i.1 + len y3.1) + 1)) - Int.toNat i.1) true) ∧ vE y3.1) <| .vA (vz (vI 180 i.2.1) <| vz (vI 180 z18) True) <| .ok (.inl ((z16, 0, z17, z18, ())))))
 (.need (inb (len y3.1) (↑(Int.toNat (w64 (w64 (i.1 + len y3.1) + 1)) - Int.toNat i.1) : Int)) <| .ite (decide (w64 (w64 (List.getD i2.2.2.2.1 (0 + Int.toNat i.1 + Int.toNat (len y3.1)) 0) - i2.2.1) < w64 i2.2.2.1))
 (.loop 4 (.tt <| .lt (i2.2.2.2.1 : List Int) fun z19 => .vA (vO (0 : Int) (0 : Int) (len y3.1) y3.1 (ab6 (j.1 - 1)) (len y3.1) (0 : Int) <| (vJ 26 (0 + Int.toNat i.1) (Int.toNat (w64 (w64 (i.1 + len y3.1) + 1)) - Int.toNat i.1) true) ∧ True) <| .vA (vz (vI 180 i.2.1) <| vz (vI 180 z19) True) <| .ok ((0, 0, z19, ()))) (ah2 m o y y3 y4 i j i2))
 (.need (inb (len y3.1) (↑(Int.toNat (w64 (w64 (i.1 + len y3.1) + 1)) - Int.toNat i.1) : Int)) <| .need (inb i.1 (↑(Int.toNat (w64 (w64 (len m - len y3.1) + 1))) : Int)) <| .tt <| .lt (w64 (i.1 - 1) : Int) fun z27 => .lt (List.set i.2.1 (0 + Int.toNat i.1) (aeP j.1) : List Int) fun z28 => .lt (List.set i2.2.2.2.1 (0 + Int.toNat i.1 + Int.toNat (len y3.1)) 0 : List Int) fun z29 => .vA (vD z27 <| (vJ 41 0 (Int.toNat (w64 (w64 (len m - len y3.1) + 1))) true) ∧ (vD (len y3.1) <| (vJ 26 0 (Int.toNat (w64 (len m + 1))) true) ∧ (vL y3.1 (aeP (Int.tdiv 1000000000 (aeP (gi o (w64 (len o - 1)) 0 + 1))) : Int) <| True ∧ True))) <| .vA (vz (vI 180 z28) <| vz (vI 180 z29) True) <| .ok (.inr (.inl ((z27, z28, z29, ()))))))
def arB (m : List Int) (o : List Int) (y : Int × Unit) (y3 : List Int × Unit) (y4 : List Int × Unit) (i : Int × List Int × List Int × Unit) (j : (Int) × Unit) : TT vX :=
 .loop 3 (.tt <| .lt (i.2.2.1 : List Int) fun z12 => .vA (vM (0 : Int) (0 : Int) (0 : Int) (len y3.1) y3.1 j.1 (len y3.1) (0 : Int) <| (vJ 26 (0 + Int.toNat i.1) (Int.toNat (w64 (w64 (i.1 + len y3.1) + 1)) - Int.toNat i.1) true) ∧ vE y3.1) <| .vA (vz (vI 180 i.2.1) <| vz (vI 180 z12) True) <| .ok ((0, 0, 0, z12, ()))) (agE m o y y3 y4 i j)
def ah3 (m : List Int) (o : List Int) (y : Int × Unit) (y3 : List Int × Unit) (y4 : List Int × Unit) (i : (Int) × (List Int) × (List Int) × Unit) : TT vX :=
 .ite (decide (i.1 ≥ 0))
 (.need (inc (w64 (w64 (i.1 + len y3.1) + 1)) (↑(Int.toNat (w64 (len m + 1))) : Int)) <| .need (inc i.1 (↑(Int.toNat (w64 (w64 (i.1 + len y3.1) + 1))) : Int)) <| .tt <| .tt <| .need (inb (w64 (len y3.1 - 1)) (len y3.1)) <| .need (inb (len y3.1) (↑(Int.toNat (w64 (w64 (i.1 + len y3.1) + 1)) - Int.toNat i.1) : Int)) <| .need (inb (w64 (len y3.1 - 1)) (↑(Int.toNat (w64 (w64 (i.1 + len y3.1) + 1)) - Int.toNat i.1) : Int)) <| .need (ab6 (gi y3.1 (w64 (len y3.1 - 1)) 0) ≠ 0) <| .need (ab6 (gi y3.1 (w64 (len y3.1 - 1)) 0) ≠ 0) <| .join 1 (ι := (Int) × Unit) (.loop 2 (.tt <| .lt (Int.tmod (ab6 (ab6 (ab6 (List.getD i.2.2.1 (0 + Int.toNat i.1 + Int.toNat (len y3.1)) 0) * 1000000000) + ab6 (List.getD i.2.2.1 (0 + Int.toNat i.1 + Int.toNat (w64 (len y3.1 - 1))) 0))) (ab6 (gi y3.1 (w64 (len y3.1 - 1)) 0)) : Int) fun z3 => .lt (ab6 (Int.tdiv (ab6 (ab6 (ab6 (List.getD i.2.2.1 (0 + Int.toNat i.1 + Int.toNat (len y3.1)) 0) * 1000000000) + ab6 (List.getD i.2.2.1 (0 + Int.toNat i.1 + Int.toNat (w64 (len y3.1 - 1))) 0))) (ab6 (gi y3.1 (w64 (len y3.1 - 1)) 0))) : Int) fun z4 => .vA (vK z4 z3 (ab6 (gi y3.1 (w64 (len y3.1 - 1)) 0) : Int) (len y3.1) (0 : Int) <| (vJ 26 (0 + Int.toNat i.1) (Int.toNat (w64 (w64 (i.1 + len y3.1) + 1)) - Int.toNat i.1) true) ∧ vE y3.1) <| .vA (vz (vI 180 i.2.1) <| vz (vI 180 i.2.2.1) True) <| .ok ((z3, z4, ()))) (agF m o y y3 y4 i)) (arB m o y y3 y4 i))
 (.need (inc (len y3.1) (↑(Int.toNat (w64 (len m + 1))) : Int)) <| .call (ac5 (List.take (Int.toNat (len y3.1)) i.2.2.1, ())) Dd0 fun y5 =>
 .call (ai2 (y5.1, aeP (Int.tdiv 1000000000 (aeP (gi o (w64 (len o - 1)) 0 + 1))), ())) aTE fun y6 =>
 .call (ac5 (List.take (Int.toNat (w64 (w64 (len m - len y3.1) + 1))) i.2.1, ())) Dd0 fun y7 =>
 .ok (.inr ((y7.1, y6.1, ()))))
def amY (m : List Int) (o : List Int) : TT (List Int × List Int × Unit) :=
 .call (aeC (m, o, ())) Dd6 fun y =>
 .ite (decide (y.1 < 0))
 (.ok (([], m, ())))
 (.ite (len o == 1)
 (.need (asT Int 0 ≤ 0 ∧ 0 < len o) <| .call (ai2 (m, gi o 0 0, ())) aTE fun y1 =>
 .call (adO (ab6 y1.2.1, ())) Dd0 fun y2 =>
 .ok ((y1.1, y2.1, ())))
 (.need (inb (w64 (len o - 1)) (len o)) <| .need (aeP (gi o (w64 (len o - 1)) 0 + 1) ≠ 0) <| .call (ac0 (o, [aeP (Int.tdiv 1000000000 (aeP (gi o (w64 (len o - 1)) 0 + 1)))], ())) Dd0 fun y3 =>
 .need (0 ≤ w64 (len m + 1) ∧ w64 (len m + 1) ≤ w64 (len m + 1) ∧ w64 (len m + 1) * (↑4 : Int) ≤ 140737488355328) <| .call (ac0 (m, [aeP (Int.tdiv 1000000000 (aeP (gi o (w64 (len o - 1)) 0 + 1)))], ())) Dd0 fun y4 =>
 .need (0 ≤ w64 (w64 (len m - len y3.1) + 1) ∧ w64 (w64 (len m - len y3.1) + 1) ≤ w64 (w64 (len m - len y3.1) + 1) ∧ w64 (w64 (len m - len y3.1) + 1) * (↑4 : Int) ≤ 140737488355328) <| .loop 0 (.tt <| .lt (w64 (len m - len y3.1) : Int) fun z => .lt (List.replicate (Int.toNat (w64 (z + 1))) 0 : List Int) fun z1 => .lt (over (List.replicate (Int.toNat (w64 (len m + 1))) 0) 0 (List.take (Int.toNat (w64 (len m + 1))) y4.1) : List Int) fun z2 => .vA (vD z <| (vJ 41 0 (Int.toNat (w64 (z + 1))) true) ∧ (vD (len y3.1) <| (vJ 26 0 (Int.toNat (w64 (len m + 1))) true) ∧ (vL y3.1 (aeP (Int.tdiv 1000000000 (aeP (gi o (w64 (len o - 1)) 0 + 1))) : Int) <| True ∧ True))) <| .vA (vz (vI 180 z1) <| vz (vI 180 z2) True) <| .ok ((z, z1, z2, ()))) (ah3 m o y y3 y4)))
end
theorem aLp {H v1 V P U Q : Int} (hP : 0 < P) (h1 : 0 < v1) (hV : v1 * P ≤ V) (hU : U < (H + 1) * P) (hQ : Q * V ≤ U) (hQ0 : 0 ≤ Q) : Q ≤ H / v1 := by
 rw [Int.le_ediv_iff_mul_le h1]
 have a1 : Q * (v1 * P) ≤ Q * V := zy hV hQ0
 have a2 : Q * v1 * P < (H + 1) * P := by rw [Int.mul_assoc]; omega
 have := ye a2 zb
 omega
theorem aOq {q r H v1 v2 V P U Q u2 B : Int} (hV0 : 0 ≤ V) (hP : 0 < P) (hinv : q * v1 + r = H) (hV : (v1 * B + v2) * P ≤ V) (hU : U < (H * B + u2 + 1) * P) (hQ : Q * V ≤ U) (hq : 0 ≤ q) (h : q * v2 > r * B + u2) : Q ≤ q - 1 := by
 have a1 : H * B + u2 + 1 ≤ q * (v1 * B + v2) := by
  have : q * (v1 * B + v2) = (q * v1 + r) * B - r * B + q * v2 := by grind
  rw [this, hinv]; omega
 have a2 : (H * B + u2 + 1) * P ≤ (q * (v1 * B + v2)) * P := zI a1 zb
 have a3 : q * ((v1 * B + v2) * P) ≤ q * V := zy hV hq
 rw [Int.mul_assoc] at a2
 have a4 : Q * V < q * V := zb
 have := ye a4 hV0
 omega
theorem aGl {q r H v1 v2 V V3 P U u2 B Q : Int} (hP : 0 < P) (hinv : q * v1 + r = H) (hVe : V = (v1 * B + v2) * P + V3) (hV3 : V3 < P) (hV30 : 0 ≤ V3) (hU : (H * B + u2) * P ≤ U) (hq : 0 ≤ q) (hqB : q < B) (hVB : B * P ≤ V) (hUQ : U < (Q + 1) * V) (h : q * v2 ≤ r * B + u2) : q ≤ Q + 1 := by
 have a1 : q * (v1 * B + v2) ≤ H * B + u2 := by
  have : q * (v1 * B + v2) = (q * v1 + r) * B - r * B + q * v2 := by grind
  rw [this, hinv]; omega
 have a2 : (q * (v1 * B + v2)) * P ≤ (H * B + u2) * P := zI a1 zb
 have a3 : q * V3 ≤ B * P := by
  have b1 : q * V3 ≤ q * P := zy zb hq
  have b2 : q * P ≤ B * P := zI zb zb
  omega
 have a4 : q * V = (q * (v1 * B + v2)) * P + q * V3 := by rw [hVe]; grind
 have a5 : q * V < (Q + 2) * V := by
  have : (Q + 2) * V = (Q + 1) * V + V := by grind
  omega
 have hVpos : 0 < V := by
  have : 0 < B * P := Int.mul_pos zb hP
  omega
 have := ye a5 zb
 omega
theorem aEJ {u w : List Int} {j n : Nat} {Q Vv e U : Int} (hlen : w.length = u.length) (hjn : j + n < u.length) (hw : Dg 1000000000 w)
  (htk : w.take j = u.take j) (hdr : w.drop (j + n) = u.drop (j + n)) (hz : V 1000000000 (u.drop (j + n + 1)) = 0) (hU : U = V 1000000000 (u.drop j)) (hX0 : 0 ≤ U - Q * Vv) (hX1 : U - Q * Vv < 1000000000 ^ n)
  (hV : V 1000000000 w = V 1000000000 u - 1000000000 ^ j * (Q * Vv) + 1000000000 ^ (j + n) * e) :
  V 1000000000 (w.set (j + n) 0) = V 1000000000 u - 1000000000 ^ j * (Q * Vv) ∧ V 1000000000 ((w.set (j + n) 0).drop j) = U - Q * Vv ∧ e = u.getD (j + n) 0 := by
 have sw := acU 1000000000 w j
 have su := acU 1000000000 u j
 rw [htk] at sw
 have hPj : (0 : Int) < 1000000000 ^ j := yM zb
 have hPn : (0 : Int) < 1000000000 ^ n := yM zb
 have e1 : V 1000000000 (w.drop j) = U - Q * Vv + 1000000000 ^ n * e := by
  have : 1000000000 ^ j * V 1000000000 (w.drop j) = 1000000000 ^ j * (U - Q * Vv + 1000000000 ^ n * e) := by
   rw [xP] at hV
   rw [hU]
   have : (1000000000 : Int) ^ j * (V 1000000000 (u.drop j) - Q * Vv + 1000000000 ^ n * e) = 1000000000 ^ j * V 1000000000 (u.drop j) - 1000000000 ^ j * (Q * Vv) + 1000000000 ^ j * 1000000000 ^ n * e := by grind
   omega
  exact Int.eq_of_mul_eq_mul_left zb this
 have s2 := acU 1000000000 (w.drop j) n
 rw [zW, hdr] at s2
 have s3 := aaR 1000000000 u (j + n)
 rw [hz, wU, wT] at s3
 rw [s3] at s2
 have l1 := adQ zb (ac8 hw j) n
 have l2 := aaO zb (acT (ac8 hw j) n)
 have hget : w.getD (j + n) 0 = u.getD (j + n) 0 := by
  have h1 : (w.drop (j + n)).getD 0 0 = (u.drop (j + n)).getD 0 0 := by rw [hdr]
  simpa [yz, yD] using h1
 have he : e = u.getD (j + n) 0 := by
  have h1 : 1000000000 ^ n * (u.getD (j + n) 0 - e) = (U - Q * Vv) - V 1000000000 ((w.drop j).take n) := by
   rw [Int.mul_sub]; omega
  have h2 : u.getD (j + n) 0 - e < 1 := by
   have : 1000000000 ^ n * (u.getD (j + n) 0 - e) < 1000000000 ^ n * 1 := zb
   exact yS this zb
  have h3 : -1 < u.getD (j + n) 0 - e := by
   have : 1000000000 ^ n * (-1) < 1000000000 ^ n * (u.getD (j + n) 0 - e) := zb
   exact yS this zb
  omega
 refine ⟨?_, ?_, he⟩
 ·rw [aw0 _ zb, hget, hV, he, Int.mul_sub]
  omega
 ·have s4 : (w.set (j + n) 0).drop j = (w.drop j).set n 0 := by
   rw [List.drop_set, if_neg zb]; congr 1; omega
  rw [s4, aw0 _ (by rw [yb]; omega)]
  have : (w.drop j).getD n 0 = u.getD (j + n) 0 := by
   rw [← hget]; simp [yz, yD]
  rw [this, e1, he, Int.mul_sub]
  omega
theorem aQo {u w : List Int} {j n : Nat} {q Vv e U : Int} (hw : Dg 1000000000 w)
  (htk : w.take j = u.take j) (hdr : w.drop (j + n) = u.drop (j + n)) (hz : V 1000000000 (u.drop (j + n + 1)) = 0) (hU : U = V 1000000000 (u.drop j)) (hX0 : U - q * Vv < 0)
  (hV : V 1000000000 w = V 1000000000 u - 1000000000 ^ j * (q * Vv) + 1000000000 ^ (j + n) * e) : u.getD (j + n) 0 < e := by
 have sw := acU 1000000000 w j
 have su := acU 1000000000 u j
 rw [htk] at sw
 have hPj : (0 : Int) < 1000000000 ^ j := yM zb
 have hPn : (0 : Int) < 1000000000 ^ n := yM zb
 have e1 : V 1000000000 (w.drop j) = U - q * Vv + 1000000000 ^ n * e := by
  have : 1000000000 ^ j * V 1000000000 (w.drop j) = 1000000000 ^ j * (U - q * Vv + 1000000000 ^ n * e) := by
   rw [xP] at hV
   rw [hU]
   have : (1000000000 : Int) ^ j * (V 1000000000 (u.drop j) - q * Vv + 1000000000 ^ n * e) = 1000000000 ^ j * V 1000000000 (u.drop j) - 1000000000 ^ j * (q * Vv) + 1000000000 ^ j * 1000000000 ^ n * e := by grind
   omega
  exact Int.eq_of_mul_eq_mul_left zb this
 have s2 := acU 1000000000 (w.drop j) n
 rw [zW, hdr] at s2
 have s3 := aaR 1000000000 u (j + n)
 rw [hz, wU, wT] at s3
 rw [s3] at s2
 have l2 := aaO zb (acT (ac8 hw j) n)
 have : 1000000000 ^ n * u.getD (j + n) 0 < 1000000000 ^ n * e := zb
 exact yS this zb
theorem au7 (l : List Int) {k j : Nat} (h : j ≤ k) (x : Int) : (l.set (k) x).take j = l.take j := by
 rw [List.take_set_of_le h]
theorem aK3 (m o : List Int) (y : Int × Unit) (y4 : List Int × Unit) (v ql u w0 : List Int) (j n : Nat) (q : Int) (i2 : Int × Int × Int × List Int × Unit) (hv : Dg 1000000000 v) (hn : v.length = n) (hN : w0.length ≤ 1000000000000) (hjn : j + n < w0.length) (hw : Dg 1000000000 w0) (hq : 1 ≤ q ∧ q < 1000000000) (hK : inb (j : Int) (↑(Int.toNat (w64 (w64 (len m - len v) + 1))) : Int)) :
  ∃ w' e, abX (fun i3 => (ah2 m o y (v, ()) y4 ((j : Int), ql, u, ()) (q, ()) i2 i3).toO) (0, 0, w0, ()) = some (.inr (.inl ((j : Int) - 1, ql.set j (q - 1), w'.set (j + n) 0, ()))) ∧ w'.length = w0.length ∧ Dg 1000000000 w' ∧ w'.take j = w0.take j ∧ w'.drop (j + n) = w0.drop (j + n) ∧ V 1000000000 w' = V 1000000000 w0 + 1000000000 ^ j * V 1000000000 v - 1000000000 ^ (j + n) * e := by
 have wa : w64 (w64 ((j : Int) + len v) + 1) = ((j + n + 1 : Nat) : Int) := by rw [aaI, hn, aaA (x := (j : Int) + n) zb, aaA zb]; omega
 have wb : ((((j + n + 1 : Nat) : Int).toNat - (j : Int).toNat : Nat) : Int) = ((n + 1 : Nat) : Int) := zb
 refine Exists.elim (aiQ (R := fun i3 => (ah2 m o y (v, ()) y4 ((j : Int), ql, u, ()) (q, ()) i2 i3).toO) (fun i : Int × Int × List Int × Unit => ∃ k : Nat, k ≤ n ∧ i.1 = (k : Int) ∧ 0 ≤ i.2.1 ∧ i.2.1 ≤ 1 ∧ i.2.2.1.length = w0.length ∧ Dg 1000000000 i.2.2.1 ∧ i.2.2.1.take j = w0.take j ∧ i.2.2.1.drop (j + k) = w0.drop (j + k) ∧ V 1000000000 i.2.2.1 = V 1000000000 w0 + 1000000000 ^ j * V 1000000000 (v.take k) - 1000000000 ^ (j + k) * i.2.1) (fun i => ((n : Int) - i.1).toNat)
  (fun r => ∃ w' e, r = Sum.inr (Sum.inl ((j : Int) - 1, ql.set j (q - 1), w'.set (j + n) 0, ())) ∧ w'.length = w0.length ∧ Dg 1000000000 w' ∧ w'.take j = w0.take j ∧ w'.drop (j + n) = w0.drop (j + n) ∧ V 1000000000 w' = V 1000000000 w0 + 1000000000 ^ j * V 1000000000 v - 1000000000 ^ (j + n) * e) ?step (0, 0, w0, ()) ⟨0, by omega, rfl, by simp, by simp, rfl, hw, rfl, rfl, by simp [V]⟩) ?fin
 case fin =>
  rintro a ⟨h1, w', e, rfl, h3⟩
  exact ⟨w', e, h1, h3⟩
 rintro ⟨i, c, w, u5⟩ ⟨k, g1, g2, g3, g4, g5, g6, g7, g8, g9⟩
 dsimp only at g2 g3 g4 g5 g6 g7 g8 g9
 subst g2
 have dv := aa5 zb hv k
 have dw := aa5 zb g6 (j + k)
 have ev := aa7 1000000000 v k
 simp only [ah2, aaP, wa, wb, zm, zp]
 rcases zv k n with hk | hk
 ·left
  have w1 : aeP (aeP (w.getD (j + k) 0 + v.getD k 0) + c) = w.getD (j + k) 0 + v.getD k 0 + c := by rw [aa4 (x := w.getD (j + k) 0 + v.getD k 0) zb, aa4 zb]
  have w5 : w64 ((k : Int) + 1) = ((k + 1 : Nat) : Int) := by rw [aaA (x := (k : Int) + 1) zb]; omega
  simp only [w1, w5]
  have fin : ∀ x c' : Int, 0 ≤ x ∧ x < 1000000000 → 0 ≤ c' ∧ c' ≤ 1 → x + 1000000000 * c' = w.getD (j + k) 0 + v.getD k 0 + c → ∃ k_1 : Nat, k_1 ≤ n ∧ ((k + 1 : Nat) : Int) = (k_1 : Int) ∧ 0 ≤ c' ∧ c' ≤ 1 ∧ (w.set (j + k) x).length = w0.length ∧ Dg 1000000000 (w.set (j + k) x) ∧ (w.set (j + k) x).take j = w0.take j ∧ (w.set (j + k) x).drop (j + k_1) = w0.drop (j + k_1) ∧ V 1000000000 (w.set (j + k) x) = V 1000000000 w0 + 1000000000 ^ j * V 1000000000 (v.take k_1) - 1000000000 ^ (j + k_1) * c' := by
   intro x c' hx hc he
   refine ⟨k + 1, by omega, rfl, hc.1, hc.2, by simp; omega, ai5 g6 hx _, by rw [au7 _ zb, g7], ?_, ?_⟩
   ·rw [ahN _ zb, show j + (k + 1) = j + k + 1 by omega, ← zW (i := 1), g8, zW]
   ·rw [aw0 _ zb, g9, ev, show j + (k + 1) = j + k + 1 by omega, yu, xP]
    have : (1000000000 : Int) ^ j * 1000000000 ^ k * (x + 1000000000 * c') = 1000000000 ^ j * 1000000000 ^ k * (w.getD (j + k) 0 + v.getD k 0 + c) := by rw [he]
    grind
  by_cases cc : w.getD (j + k) 0 + v.getD k 0 + c ≥ 1000000000
  ·refine ⟨(((k + 1 : Nat) : Int), 1, w.set (j + k) (w.getD (j + k) 0 + v.getD k 0 + c - 1000000000), ()), ?_, fin _ 1 zb zb zb, by dsimp only; omega⟩
   refine uT sd (uN sd (uN ⟨by omega, by omega⟩ (uT (zl cc) (uN ⟨by omega, by omega⟩ ?_))))
   repeat refine za ?_
   rw [aa4 (x := w.getD (j + k) 0 + v.getD k 0 + c - 1000000000) zb]
   rfl
  ·refine ⟨(((k + 1 : Nat) : Int), 0, w.set (j + k) (w.getD (j + k) 0 + v.getD k 0 + c), ()), ?_, fin _ 0 zb zb zb, by dsimp only; omega⟩
   refine uT sd (uN sd (uN ⟨by omega, by omega⟩ (uF (zk cc) (uN ⟨by omega, by omega⟩ ?_))))
   repeat refine za ?_
   rfl
 ·right
  have hkn : k = n := zb
  subst hkn
  rw [abN _ zb] at g9
  refine ⟨_, ?_, w, c, rfl, g5, g6, g7, g8, g9⟩
  refine uF sd (uN ⟨by simp [len], by rw [aaI, hn]; omega⟩ (uN hK ?_))
  repeat refine za ?_
  have w6 : aeP (ab6 (q - 1)) = q - 1 := by rw [aaM (x := q - 1) zb, aa4 zb]
  rw [aaQ, w6, aaA (x := (j : Int) - 1) zb, aaI, hn, zm]
theorem apY {a b B : Int} (ha : 0 ≤ a ∧ a < B) (hb : 0 ≤ b ∧ b < B) : 0 ≤ a * b ∧ a * b ≤ (B - 1) * (B - 1) := by
 refine ⟨xr ha.1 hb.1, ?_⟩
 have h1 : a * b ≤ a * (B - 1) := zy zb ha.1
 have h2 : a * (B - 1) ≤ (B - 1) * (B - 1) := zI zb zb
 omega
theorem aK4 (m o : List Int) (y : Int × Unit) (y4 : List Int × Unit) (v ql u : List Int) (j n : Nat) (q Q : Int) (hv : Dg 1000000000 v) (hn : v.length = n) (hN : u.length ≤ 1000000000000) (hjn : j + n < u.length) (hu : Dg 1000000000 u) (hq : 0 ≤ q ∧ q < 1000000000) (hK : inb (j : Int) (↑(Int.toNat (w64 (w64 (len m - len v) + 1))) : Int))
  (hz : V 1000000000 (u.drop (j + n + 1)) = 0) (hQ : q = Q ∨ q = Q + 1) (hX0 : 0 ≤ V 1000000000 (u.drop j) - Q * V 1000000000 v) (hX1 : V 1000000000 (u.drop j) - Q * V 1000000000 v < V 1000000000 v) (hQ0 : 0 ≤ Q) :
  ∃ u', abX (fun i2 => (agE m o y (v, ()) y4 ((j : Int), ql, u, ()) (q, ()) i2).toO) (0, 0, 0, u, ()) = some (.inl ((j : Int) - 1, ql.set j Q, u', ())) ∧ u'.length = u.length ∧ Dg 1000000000 u' ∧ V 1000000000 u' = V 1000000000 u - 1000000000 ^ j * (Q * V 1000000000 v) ∧ V 1000000000 (u'.drop j) = V 1000000000 (u.drop j) - Q * V 1000000000 v := by
 have wa : w64 (w64 ((j : Int) + len v) + 1) = ((j + n + 1 : Nat) : Int) := by rw [aaI, hn, aaA (x := (j : Int) + n) zb, aaA zb]; omega
 have wb : ((((j + n + 1 : Nat) : Int).toNat - (j : Int).toNat : Nat) : Int) = ((n + 1 : Nat) : Int) := zb
 have hVn : V 1000000000 v < 1000000000 ^ n := by have := aIz zb hv; rwa [hn] at this
 refine Exists.elim (aiQ (R := fun i2 => (agE m o y (v, ()) y4 ((j : Int), ql, u, ()) (q, ()) i2).toO) (fun i : Int × Int × Int × List Int × Unit => ∃ k : Nat, k ≤ n ∧ i.1 = (k : Int) ∧ 0 ≤ i.2.1 ∧ i.2.1 ≤ 1 ∧ 0 ≤ i.2.2.1 ∧ i.2.2.1 < 1000000000 ∧ i.2.2.2.1.length = u.length ∧ Dg 1000000000 i.2.2.2.1 ∧ i.2.2.2.1.take j = u.take j ∧ i.2.2.2.1.drop (j + k) = u.drop (j + k) ∧ V 1000000000 i.2.2.2.1 = V 1000000000 u - 1000000000 ^ j * (q * V 1000000000 (v.take k)) + 1000000000 ^ (j + k) * (i.2.1 + i.2.2.1)) (fun i => ((n : Int) - i.1).toNat)
  (fun r => ∃ u', r = Sum.inl ((j : Int) - 1, ql.set j Q, u', ()) ∧ u'.length = u.length ∧ Dg 1000000000 u' ∧ V 1000000000 u' = V 1000000000 u - 1000000000 ^ j * (Q * V 1000000000 v) ∧ V 1000000000 (u'.drop j) = V 1000000000 (u.drop j) - Q * V 1000000000 v) ?step (0, 0, 0, u, ()) ⟨0, by omega, rfl, by simp, by simp, by simp, by simp, rfl, hu, rfl, rfl, by simp [V]⟩) ?fin
 case fin =>
  rintro a ⟨h1, u', rfl, h3⟩
  exact ⟨u', h1, h3⟩
 rintro ⟨i, b, c, w, u5⟩ ⟨k, g1, g2, g3, g4, g5, g6, g7, g8, g9, g10, g11⟩
 dsimp only at g2 g3 g4 g5 g6 g7 g8 g9 g10 g11
 subst g2
 have dv := aa5 zb hv k
 have dw := aa5 zb g8 (j + k)
 have ev := aa7 1000000000 v k
 have hm := apY hq dv
 have hs : 0 ≤ c + q * v.getD k 0 := zb
 simp only [agE, aaP, wa, wb, zm, zp]
 rcases zv k n with hk | hk
 ·left
  have wv : ab6 (v.getD k 0) = v.getD k 0 := aaM zb
  have wp : ab6 (c + ab6 (q * v.getD k 0)) = c + q * v.getD k 0 := by rw [aaM (x := q * v.getD k 0) zb, aaM zb]
  have em := yq (c + q * v.getD k 0) 1000000000
  have e2 : 0 ≤ (c + q * v.getD k 0) % 1000000000 ∧ (c + q * v.getD k 0) % 1000000000 < 1000000000 := zb
  have e3 : 0 ≤ (c + q * v.getD k 0) / 1000000000 ∧ (c + q * v.getD k 0) / 1000000000 < 1000000000 := zb
  have tm : Int.tmod (c + q * v.getD k 0) 1000000000 = (c + q * v.getD k 0) % 1000000000 := yd hs
  have td : Int.tdiv (c + q * v.getD k 0) 1000000000 = (c + q * v.getD k 0) / 1000000000 := zQ hs
  have wr : w64 (w64 (w64 (w.getD (j + k) 0) - b) - w64 ((c + q * v.getD k 0) % 1000000000)) = w.getD (j + k) 0 - b - (c + q * v.getD k 0) % 1000000000 := by
   rw [aaA (x := w.getD (j + k) 0) zb, aaA (x := w.getD (j + k) 0 - b) zb, aaA (x := (c + q * v.getD k 0) % 1000000000) zb, aaA zb]
  have w5 : w64 ((k : Int) + 1) = ((k + 1 : Nat) : Int) := by rw [aaA (x := (k : Int) + 1) zb]; omega
  have wd : ab6 ((c + q * v.getD k 0) / 1000000000) = (c + q * v.getD k 0) / 1000000000 := aaM zb
  simp only [wv, wp, tm, td, wr, w5, wd]
  generalize (c + q * v.getD k 0) % 1000000000 = D at *
  generalize (c + q * v.getD k 0) / 1000000000 = C at *
  have fin : ∀ x b' : Int, 0 ≤ x ∧ x < 1000000000 → 0 ≤ b' ∧ b' ≤ 1 → x = w.getD (j + k) 0 - b - D + 1000000000 * b' → ∃ k_1 : Nat, k_1 ≤ n ∧ ((k + 1 : Nat) : Int) = (k_1 : Int) ∧ 0 ≤ b' ∧ b' ≤ 1 ∧ 0 ≤ C ∧ C < 1000000000 ∧ (w.set (j + k) x).length = u.length ∧ Dg 1000000000 (w.set (j + k) x) ∧ (w.set (j + k) x).take j = u.take j ∧ (w.set (j + k) x).drop (j + k_1) = u.drop (j + k_1) ∧ V 1000000000 (w.set (j + k) x) = V 1000000000 u - 1000000000 ^ j * (q * V 1000000000 (v.take k_1)) + 1000000000 ^ (j + k_1) * (b' + C) := by
   intro x b' hx hb he
   refine ⟨k + 1, by omega, rfl, hb.1, hb.2, e3.1, e3.2, by simp; omega, ai5 g8 hx _, by rw [au7 _ zb, g9], ?_, ?_⟩
   ·rw [ahN _ zb, show j + (k + 1) = j + k + 1 by omega, ← zW (i := 1), g10, zW]
   ·rw [aw0 _ zb, g11, ev, show j + (k + 1) = j + k + 1 by omega, yu, xP, he]
    have : (1000000000 : Int) ^ j * 1000000000 ^ k * (D + 1000000000 * C) = 1000000000 ^ j * 1000000000 ^ k * (c + q * v.getD k 0) := by rw [em]
    grind
  by_cases cc : w.getD (j + k) 0 - b - D < 0
  ·refine ⟨(((k + 1 : Nat) : Int), 1, C, w.set (j + k) (w.getD (j + k) 0 - b - D + 1000000000), ()), ?_, fin _ 1 zb zb zb, by dsimp only; omega⟩
   refine uT sd (uN sd (uN ⟨by omega, by omega⟩ (uV (uV (uT (zl cc) (uN ⟨by omega, by omega⟩ ?_))))))
   repeat refine za ?_
   rw [aaA (x := w.getD (j + k) 0 - b - D + 1000000000) zb, aa4 zb]
   rfl
  ·refine ⟨(((k + 1 : Nat) : Int), 0, C, w.set (j + k) (w.getD (j + k) 0 - b - D), ()), ?_, fin _ 0 zb zb zb, by dsimp only; omega⟩
   refine uT sd (uN sd (uN ⟨by omega, by omega⟩ (uV (uV (uF (zk cc) (uN ⟨by omega, by omega⟩ ?_))))))
   repeat refine za ?_
   rw [aa4 (x := w.getD (j + k) 0 - b - D) zb]
   rfl
 ·right
  have hkn : k = n := zb
  subst hkn
  rw [abN _ zb] at g11
  have hun := aa5 zb hu (j + k)
  have hget : w.getD (j + k) 0 = u.getD (j + k) 0 := by
   have h1 : (w.drop (j + k)).getD 0 0 = (u.drop (j + k)).getD 0 0 := by rw [g10]
   simpa [yz, yD] using h1
  have wl : len v = (k : Int) := by rw [aaI, hn]
  have wt : w64 (w64 (u.getD (j + k) 0) - b) = u.getD (j + k) 0 - b := by rw [aaA (x := u.getD (j + k) 0) zb, aaA zb]
  have wc : w64 c = c := aaA zb
  simp only [wl, zm, hget, wt, wc]
  by_cases cb : u.getD (j + k) 0 - b < c
  ·-- one too great
   have hq1 : q = Q + 1 := by
    rcases hQ with h | h
    ·subst h
     obtain ⟨-, -, he⟩ := aEJ (Q := q) g7 hjn g8 g9 g10 hz rfl hX0 zb g11
     omega
    ·exact h
   obtain ⟨w', e, r1, r2, r3, r4, r5, r6⟩ := aK3 m o y y4 v ql u w j k q ((k : Int), b, c, w, ()) hv hn zb zb g8 zb hK
   obtain ⟨f1, f2, -⟩ := aEJ (u := u) (w := w') (Q := Q) (Vv := V 1000000000 v) (e := b + c - e) (by rw [r2, g7]) hjn r3 (by rw [r4, g9]) (by rw [r5, g10]) hz rfl hX0 zb (by
    rw [r6, g11, hq1]
    grind)
   refine ⟨_, ?_, w'.set (j + k) 0, rfl, by simp; omega, ai5 r3 zb _, f1, f2⟩
   refine uF sd (uN ⟨by omega, by omega⟩ (uT (zl cb) ?_))
   refine uO (0, 0, w, ()) (by repeat refine za ?_; rfl) ?_
   rw [r1, hq1, Int.add_sub_cancel]
  ·have hq1 : q = Q := by
    rcases hQ with h | h
    ·exact h
    ·exfalso
     have := aQo (q := q) g8 g9 g10 hz rfl (by rw [h, Int.add_mul]; omega) g11
     omega
   subst hq1
   obtain ⟨f1, f2, -⟩ := aEJ (Q := q) g7 hjn g8 g9 g10 hz rfl hX0 zb g11
   refine ⟨_, ?_, w.set (j + k) 0, rfl, by simp; omega, ai5 g8 zb _, f1, f2⟩
   refine uF sd (uN ⟨by omega, by omega⟩ (uF (zk cb) (uN ⟨by omega, by omega⟩ (uN (by rw [wl] at hK; exact hK) ?_))))
   repeat refine za ?_
   rw [aaQ, aa4 (x := q) zb, aaA (x := (j : Int) - 1) zb]
theorem apS {N : Nat} {s : List Int} (h : s.length ≤ N) : over (List.replicate N 0) 0 s = s ++ List.replicate (N - s.length) 0 := by
 unfold over
 simp
theorem aSF {N : Nat} {s : List Int} (h : s.length ≤ N) : V 1000000000 (over (List.replicate N 0) 0 s) = V 1000000000 s := by
 rw [apS h, aeL, av0]; omega
theorem aK5 (m o : List Int) (y : Int × Unit) (y4 : List Int × Unit) (v ql u : List Int) (j n : Nat) (U Q : Int) (hv : Dg 1000000000 v) (hn : v.length = n + 2) (hN : u.length ≤ 1000000000000) (hjn : j + n + 2 < u.length) (hu : Dg 1000000000 u) (hz : V 1000000000 (u.drop (j + n + 2 + 1)) = 0) (hU : U = V 1000000000 (u.drop j)) (hUB : U < V 1000000000 v * 1000000000) (hQ1 : Q * V 1000000000 v ≤ U) (hQ2 : U < (Q + 1) * V 1000000000 v) (hQ0 : 0 ≤ Q) (htop : 1 ≤ v.getD (n + 1) 0) :
  ∃ q, (q = Q ∨ q = Q + 1) ∧ 0 ≤ q ∧ q < 1000000000 ∧ abX (fun i1 => (agF m o y (v, ()) y4 ((j : Int), ql, u, ()) i1).toO) ((u.getD (j + n + 2) 0 * 1000000000 + u.getD (j + n + 1) 0) % v.getD (n + 1) 0, (u.getD (j + n + 2) 0 * 1000000000 + u.getD (j + n + 1) 0) / v.getD (n + 1) 0, ()) = some (.inl (q, ())) := by
 have wb1 : w64 (len v - 1) = ((n + 1 : Nat) : Int) := by rw [aaI, hn, aaA zb]; omega
 have wb2 : w64 (len v - 2) = ((n : Nat) : Int) := by rw [aaI, hn, aaA zb]; omega
 have wa : w64 (w64 ((j : Int) + len v) + 1) = ((j + n + 2 + 1 : Nat) : Int) := by rw [aaI, hn, aaA (x := (j : Int) + ((n + 2 : Nat) : Int)) zb, aaA zb]; omega
 have wb : ((((j + n + 2 + 1 : Nat) : Int).toNat - (j : Int).toNat : Nat) : Int) = ((n + 3 : Nat) : Int) := zb
 have dv1 := aa5 zb hv (n + 1)
 have dv2 := aa5 zb hv n
 have du0 := aa5 zb hu (j + n + 2)
 have du1 := aa5 zb hu (j + n + 1)
 have du2 := aa5 zb hu (j + n)
 -- the divisor
 have hP : (0 : Int) < 1000000000 ^ n := yM zb
 have hP1 : (0 : Int) < 1000000000 ^ (n + 1) := yM zb
 have s1 := acU 1000000000 v n
 have s2 := aaR 1000000000 v n
 have s3 := aaR 1000000000 v (n + 1)
 rw [adK (k := n + 1 + 1) _ zb, wU, wT] at s3
 rw [s3] at s2
 have s4 := adQ zb hv n
 have s5 := aaO zb (acT hv n)
 have s6 := acU 1000000000 v (n + 1)
 rw [s3] at s6
 have s7 := aaO zb (acT hv (n + 1))
 -- the window
 have t1 := acU 1000000000 (u.drop j) n
 have t2 : V 1000000000 ((u.drop j).drop n) = (u.getD (j + n + 2) 0 * 1000000000 + u.getD (j + n + 1) 0) * 1000000000 + u.getD (j + n) 0 := by
  rw [zW]
  have a1 := aaR 1000000000 u (j + n)
  have a2 := aaR 1000000000 u (j + n + 1)
  have a3 := aaR 1000000000 u (j + n + 1 + 1)
  rw [show j + n + 1 + 1 + 1 = j + n + 2 + 1 by omega, hz] at a3
  rw [a1, a2, a3]
  show _ + 1000000000 * (_ + 1000000000 * (u.getD (j + n + 2) 0 + 1000000000 * 0)) = _
  omega
 have t3 := adQ zb (ac8 hu j) n
 have t4 := aaO zb (acT (ac8 hu j) n)
 rw [← hU, t2] at t1
 generalize hH : u.getD (j + n + 2) 0 * 1000000000 + u.getD (j + n + 1) 0 = H at *
 have hH0 : 0 ≤ H ∧ H < 1000000000000000000 := zb
 generalize hv1 : v.getD (n + 1) 0 = v1 at *
 generalize hv2 : v.getD n 0 = v2 at *
 generalize hu2 : u.getD (j + n) 0 = u2 at *
 generalize V 1000000000 (v.take n) = V3 at *
 generalize V 1000000000 ((u.drop j).take n) = U3 at *
 generalize V 1000000000 (v.take (n + 1)) = V4 at *
 have hVe : V 1000000000 v = (v1 * 1000000000 + v2) * 1000000000 ^ n + V3 := by rw [s1, s2]; grind
 have hVv : v1 * 1000000000 ^ (n + 1) ≤ V 1000000000 v := by
  have : (1000000000 : Int) ^ (n + 1) * v1 = v1 * 1000000000 ^ (n + 1) := xg _ _
  omega
 have hVB : 1000000000 * 1000000000 ^ n ≤ V 1000000000 v := by
  have a1 : 1 * 1000000000 ^ (n + 1) ≤ v1 * 1000000000 ^ (n + 1) := zI htop zb
  have a2 : (1000000000 : Int) ^ (n + 1) = 1000000000 * 1000000000 ^ n := by rw [yu, xg]
  omega
 have hUlo : (H * 1000000000 + u2) * 1000000000 ^ n ≤ U := by
  have : (1000000000 : Int) ^ n * (H * 1000000000 + u2) = (H * 1000000000 + u2) * 1000000000 ^ n := xg _ _
  omega
 have hUhi : U < (H * 1000000000 + u2 + 1) * 1000000000 ^ n := by
  have : (H * 1000000000 + u2 + 1) * 1000000000 ^ n = 1000000000 ^ n * (H * 1000000000 + u2) + 1000000000 ^ n := by grind
  omega
 have hUhi1 : U < (H + 1) * 1000000000 ^ (n + 1) := by
  have a1 : (H * 1000000000 + u2 + 1) * 1000000000 ^ n ≤ ((H + 1) * 1000000000) * 1000000000 ^ n := zI zb zb
  have a2 : ((H + 1) * 1000000000) * 1000000000 ^ n = (H + 1) * 1000000000 ^ (n + 1) := by rw [yu]; grind
  omega
 have hVpos : 0 < V 1000000000 v := by have := Int.mul_pos (show (0 : Int) < 1000000000 by omega) hP; omega
 have hQB : Q < 1000000000 := by
  have : Q * V 1000000000 v < 1000000000 * V 1000000000 v := zb
  exact ye this zb
 have hstart := aLp hP1 zb hVv hUhi1 hQ1 hQ0
 have hdm := yq H v1
 have hr0 := xE H (show v1 ≠ 0 by omega)
 have hr1 := xy H (show 0 < v1 by omega)
 refine Exists.elim (aiQ (R := fun i1 => (agF m o y (v, ()) y4 ((j : Int), ql, u, ()) i1).toO) (fun i : Int × Int × Unit => 0 ≤ i.1 ∧ i.1 < 1000000000 ∧ Q ≤ i.2.1 ∧ i.2.1 * v1 + i.1 = H) (fun i => i.2.1.toNat) (fun r => ∃ q, (q = Q ∨ q = Q + 1) ∧ 0 ≤ q ∧ q < 1000000000 ∧ r = Sum.inl (q, ())) ?step (H % v1, H / v1, ()) ⟨hr0, by dsimp only; omega, hstart, by dsimp only; rw [xg]; omega⟩) ?fin
 case fin =>
  rintro a ⟨h1, q, h2, h3, h4, rfl⟩
  exact ⟨q, h2, h3, h4, h1⟩
 rintro ⟨r, q, u5⟩ ⟨g1, g2, g3, g4⟩
 dsimp only at g1 g2 g3 g4
 have hqH : q ≤ H := by
  have : q * 1 ≤ q * v1 := zy htop zb
  omega
 have down : Q ≤ q - 1 → ((r + v1 ≥ 1000000000 → ∃ q', (q' = Q ∨ q' = Q + 1) ∧ 0 ≤ q' ∧ q' < 1000000000 ∧ q' = q - 1)) := by
  intro hdn hr
  have hqB : q - 1 < 1000000000 := by
   have a1 : (q - 1) * v1 = H - (r + v1) := by rw [Int.sub_mul]; omega
   have a2 : H < (v1 + 1) * 1000000000 := by
    have b1 : H * 1000000000 ^ (n + 1) ≤ U := by
     have a2 : (H * 1000000000) * 1000000000 ^ n = H * 1000000000 ^ (n + 1) := by rw [yu]; grind
     have a3 : (H * 1000000000) * 1000000000 ^ n ≤ (H * 1000000000 + u2) * 1000000000 ^ n := zI zb zb
     omega
    have b2 : V 1000000000 v < (v1 + 1) * 1000000000 ^ (n + 1) := by
     have a2 : (v1 + 1) * 1000000000 ^ (n + 1) = (v1 * 1000000000 + 1000000000) * 1000000000 ^ n := by rw [yu]; grind
     have a3 : (v1 * 1000000000 + v2 + 1) * 1000000000 ^ n ≤ (v1 * 1000000000 + 1000000000) * 1000000000 ^ n := zI zb zb
     have a4 : (v1 * 1000000000 + v2 + 1) * 1000000000 ^ n = (v1 * 1000000000 + v2) * 1000000000 ^ n + 1000000000 ^ n := by grind
     omega
    have b3 : H * 1000000000 ^ (n + 1) < ((v1 + 1) * 1000000000) * 1000000000 ^ (n + 1) := by
     have : ((v1 + 1) * 1000000000) * 1000000000 ^ (n + 1) = ((v1 + 1) * 1000000000 ^ (n + 1)) * 1000000000 := by grind
     omega
    exact ye b3 zb
   have a3 : (q - 1) * v1 < 1000000000 * v1 := by
    have : (v1 + 1) * 1000000000 = 1000000000 * v1 + 1000000000 := by grind
    omega
   exact ye a3 zb
  have hm := apY (a := q - 1) (b := v2) (B := 1000000000) ⟨by omega, hqB⟩ dv2
  have hmB : 1000000000 * 1000000000 ≤ (r + v1) * 1000000000 := zb
  have := aGl (q := q - 1) (r := r + v1) hP (by rw [Int.sub_mul]; omega) hVe s4 s5 hUlo zb hqB hVB hQ2 zb
  exact ⟨q - 1, by omega, by omega, hqB, rfl⟩
 have wv1 : ab6 v1 = v1 := aaM zb
 have wr : ab6 (r + v1) = r + v1 := aaM zb
 have hgi1 : gi v ((n + 1 : Nat) : Int) 0 = v1 := by rw [aaP, hv1]
 have hgi2 : gi v ((n : Nat) : Int) 0 = v2 := by rw [aaP, hv2]
 simp only [agF, ahL, wb1, wb2, hgi1, hgi2, wv1, wr, wa, wb, zm, zp, hu2]
 have stepdn : Q ≤ q - 1 → 1 ≤ q → ((r + v1 ≥ 1000000000 → ∃ q', ((q' = Q ∨ q' = Q + 1) ∧ 0 ≤ q' ∧ q' < 1000000000) ∧ ab6 (q - 1) = q') ∧ (¬ r + v1 ≥ 1000000000 → (0 ≤ r + v1 ∧ r + v1 < 1000000000 ∧ Q ≤ q - 1 ∧ (q - 1) * v1 + (r + v1) = H) ∧ ab6 (q - 1) = q - 1)) := by
  intro h1 h2
  have wq : ab6 (q - 1) = q - 1 := aaM zb
  refine ⟨fun h => ?_, fun h => ⟨⟨by omega, by omega, h1, by rw [Int.sub_mul]; omega⟩, wq⟩⟩
  obtain ⟨q', e1, e2, e3, e4⟩ := down h1 h
  exact ⟨q', ⟨e1, e2, e3⟩, by rw [wq, e4]⟩
 by_cases c1 : q ≥ 1000000000
 ·obtain ⟨d1, d2⟩ := stepdn zb zb
  by_cases c2 : r + v1 ≥ 1000000000
  ·right
   obtain ⟨q', e1, e2⟩ := d1 c2
   refine ⟨.inl (q', ()), ?_, q', e1.1, e1.2.1, e1.2.2, rfl⟩
   refine uT (zl c1) (uT (zl c2) ?_)
   repeat refine za ?_
   rw [aaQ, e2]
  ·left
   obtain ⟨e1, e2⟩ := d2 c2
   refine ⟨(r + v1, q - 1, ()), ?_, e1, by dsimp only; omega⟩
   refine uT (zl c1) (uF (zk c2) ?_)
   repeat refine za ?_
   rw [aaQ, e2]
 ·have hm := apY (a := q) (b := v2) (B := 1000000000) ⟨by omega, by omega⟩ dv2
  have wm : ab6 (q * ab6 v2) = q * v2 := by rw [aaM (x := v2) zb, aaM zb]
  have wn : ab6 (ab6 (r * 1000000000) + ab6 u2) = r * 1000000000 + u2 := by rw [aaM (x := r * 1000000000) zb, aaM (x := u2) zb, aaM zb]
  simp only [wm, wn]
  by_cases c3 : q * v2 > r * 1000000000 + u2
  ·have hdn := aOq (q := q) (r := r) (wP hVpos) hP g4 zb hUhi hQ1 zb c3
   obtain ⟨d1, d2⟩ := stepdn hdn zb
   by_cases c2 : r + v1 ≥ 1000000000
   ·right
    obtain ⟨q', e1, e2⟩ := d1 c2
    refine ⟨.inl (q', ()), ?_, q', e1.1, e1.2.1, e1.2.2, rfl⟩
    refine uF (zk c1) (uN ⟨by omega, by rw [aaI, hn]; omega⟩ (uN ⟨by omega, by omega⟩ (uT (zl c3) (uT (zl c2) ?_))))
    repeat refine za ?_
    rw [aaQ, e2]
   ·left
    obtain ⟨e1, e2⟩ := d2 c2
    refine ⟨(r + v1, q - 1, ()), ?_, e1, by dsimp only; omega⟩
    refine uF (zk c1) (uN ⟨by omega, by rw [aaI, hn]; omega⟩ (uN ⟨by omega, by omega⟩ (uT (zl c3) (uF (zk c2) ?_))))
    repeat refine za ?_
    rw [aaQ, e2]
  ·right
   have hdone := aGl (q := q) (r := r) hP g4 hVe s4 s5 hUlo zb zb hVB hQ2 zb
   refine ⟨.inl (q, ()), ?_, q, by omega, by omega, by omega, rfl⟩
   refine uF (zk c1) (uN ⟨by omega, by rw [aaI, hn]; omega⟩ (uN ⟨by omega, by omega⟩ (uF (zk c3) ?_)))
   repeat refine za ?_
   rfl
theorem aI2 {b s t L : Nat} (hs : s * (t + 1) ≤ 1000000000) (hs1 : 1 ≤ s) (h1 : 1000000000 ^ L * t ≤ b) (h2 : b < 1000000000 ^ L * (t + 1)) (ht : 1 ≤ t) : (mag (b * s)).length = L + 1 := by
 have a1 : b * s < 1000000000 ^ (L + 1) := by
  have c1 : b * s < (1000000000 ^ L * (t + 1)) * s := Nat.mul_lt_mul_of_pos_right h2 zb
  have c2 : (1000000000 ^ L * (t + 1)) * s = 1000000000 ^ L * (s * (t + 1)) := by rw [wI, yW (t + 1)]
  have c3 : 1000000000 ^ L * (s * (t + 1)) ≤ 1000000000 ^ L * 1000000000 := yf _ hs
  rw [yw]; omega
 have a2 := mag_length_le_iff.2 a1
 have a3 : 1000000000 ^ L ≤ b * s := by
  have c1 : 1000000000 ^ L * 1 ≤ 1000000000 ^ L * t := yf _ ht
  have c2 : b * 1 ≤ b * s := yf _ hs1
  omega
 rcases zv L (mag (b * s)).length with h | h
 ·omega
 ·have := mag_length_le_iff.1 h; omega
theorem aK6 (m o : List Int) (y : Int × Unit) (y4 : List Int × Unit) (v q u : List Int) (j n : Nat) (qq : Int) (X : (Int × List Int × List Int × Unit) ⊕ (List Int × List Int × Unit)) (hvd : Dg 1000000000 v) (g7 : Dg 1000000000 u) (lv : v.length = n + 2) (g6 : u.length = m.length + 1) (hN : m.length ≤ 1000000000000) (hj : j + n + 2 < u.length) (hvtop : 1 ≤ v.getD (n + 1) 0)
  (p4 : abX (fun i1 => (agF m o y (v, ()) y4 ((j : Int), q, u, ()) i1).toO) ((u.getD (j + n + 2) 0 * 1000000000 + u.getD (j + n + 1) 0) % v.getD (n + 1) 0, (u.getD (j + n + 2) 0 * 1000000000 + u.getD (j + n + 1) 0) / v.getD (n + 1) 0, ()) = some (.inl (qq, ())))
  (r1 : abX (fun i1 => (agE m o y (v, ()) y4 ((j : Int), q, u, ()) (qq, ()) i1).toO) (0, 0, 0, u, ()) = some X) : (ah3 m o y (v, ()) y4 ((j : Int), q, u, ())).toO = some X := by
 have wlv : len v = ((n + 2 : Nat) : Int) := by rw [aaI, lv]
 have wa : w64 (w64 ((j : Int) + len v) + 1) = ((j + n + 2 + 1 : Nat) : Int) := by rw [wlv, aaA (x := (j : Int) + ((n + 2 : Nat) : Int)) zb, aaA zb]; omega
 have wb : ((((j + n + 2 + 1 : Nat) : Int).toNat - (j : Int).toNat : Nat) : Int) = ((n + 3 : Nat) : Int) := zb
 have wb1 : w64 (len v - 1) = ((n + 1 : Nat) : Int) := by rw [wlv, aaA zb]; omega
 have w2 : w64 (len m + 1) = ((m.length + 1 : Nat) : Int) := by rw [aaI, aaA zb]; omega
 have dv1 := aa5 zb hvd (n + 1)
 have du0 := aa5 zb g7 (j + n + 2)
 have du1 := aa5 zb g7 (j + n + 1)
 have hgi1 : ab6 (gi v ((n + 1 : Nat) : Int) 0) = v.getD (n + 1) 0 := by rw [aaP, aaM zb]
 have wH : ab6 (ab6 (ab6 (u.getD (j + (n + 2)) 0) * 1000000000) + ab6 (u.getD (j + (n + 1)) 0)) = u.getD (j + n + 2) 0 * 1000000000 + u.getD (j + n + 1) 0 := by
  rw [show j + (n + 2) = j + n + 2 by omega, show j + (n + 1) = j + n + 1 by omega, aaM (x := u.getD (j + n + 2) 0) zb, aaM (x := u.getD (j + n + 2) 0 * 1000000000) zb, aaM (x := u.getD (j + n + 1) 0) zb, aaM zb]
 have hH0 : 0 ≤ u.getD (j + n + 2) 0 * 1000000000 + u.getD (j + n + 1) 0 := zb
 have tm := yd (b := v.getD (n + 1) 0) hH0
 have td := zQ (b := v.getD (n + 1) 0) hH0
 have hdle : (u.getD (j + n + 2) 0 * 1000000000 + u.getD (j + n + 1) 0) / v.getD (n + 1) 0 ≤ u.getD (j + n + 2) 0 * 1000000000 + u.getD (j + n + 1) 0 := Int.ediv_le_self _ hH0
 have hdge : 0 ≤ (u.getD (j + n + 2) 0 * 1000000000 + u.getD (j + n + 1) 0) / v.getD (n + 1) 0 := xK hH0 zb
 have wq : ab6 ((u.getD (j + n + 2) 0 * 1000000000 + u.getD (j + n + 1) 0) / v.getD (n + 1) 0) = (u.getD (j + n + 2) 0 * 1000000000 + u.getD (j + n + 1) 0) / v.getD (n + 1) 0 := aaM zb
 simp only [ah3, wa, wb, wb1, hgi1, w2, zm, zp]
 have wlt : (len v).toNat = n + 2 := by rw [wlv]; omega
 simp only [wlt, wH, tm, td, wq]
 refine uT sd (uN ⟨by omega, by omega⟩ (uN ⟨by omega, by omega⟩ (uN ⟨by omega, by omega⟩ (uN ⟨by omega, by omega⟩ (uN ⟨by omega, by omega⟩ (uN zb (uN zb ?_)))))))
 refine uL (qq, ()) ?_ ?_
 ·refine uO ((u.getD (j + n + 2) 0 * 1000000000 + u.getD (j + n + 1) 0) % v.getD (n + 1) 0, (u.getD (j + n + 2) 0 * 1000000000 + u.getD (j + n + 1) 0) / v.getD (n + 1) 0, ()) ?_ p4
  repeat refine za ?_
  rfl
 ·unfold arB
  refine uO (0, 0, 0, u, ()) (by repeat refine za ?_; rfl) ?_
  exact r1
set_option maxHeartbeats 1000000 in
theorem aAn (m o : List Int) (y) (h : abK (m, o, ()) = some y) : (amY m o).toO = some y := by
 obtain ⟨⟨a, b⟩, hp, hx, rfl⟩ := aaH h
 obtain ⟨rfl, hx2⟩ := Prod.mk.inj hx; obtain ⟨rfl, -⟩ := Prod.mk.inj hx2; dsimp only
 obtain ⟨la, lb, hb0⟩ := hp
 simp only at la lb hb0
 clear h hx hx2
 unfold amY
 have hcmp : aeC (mag a, mag b, ()) = some (awY a b, ()) := aaN (enc := fun p : Nat × Nat => (mag p.1, mag p.2, ())) (a, b) ⟨by dsimp only; omega, by dsimp only; omega⟩ (fun b hb => agS hb)
 refine uC _ hcmp ?_
 by_cases hab : a < b
 ·refine uT (zl (by unfold awY; rw [if_pos zb]; show (-1 : Int) < 0; omega)) ?_
  rw [yQ hab, yv hab, mag_zero]; rfl
 refine uF (zk (by unfold awY; rw [if_neg zb]; split <;> decide)) ?_
 have hbl : 1 ≤ (mag b).length := by
  rcases zC (mag b).length with h5 | h5
  ·exact absurd (mag_nil_iff.1 (zU.1 h5)) hb0
  ·exact h5
 have hshort : ∀ x d : Nat, (mag x).length ≤ 1000000000000 → 0 < d → d < 4294967296 → ai2 (mag x, (d : Int), ()) = some (mag (x / d), ((x % d : Nat) : Int), ()) := by
  intro x d h1 h2 h3
  refine aaN (enc := fun p : Nat × Nat => (mag p.1, (p.2 : Int), ())) (x, d) ⟨h1, h2, h3⟩ (fun b hb => ?_)
  obtain ⟨e1, e2⟩ := Prod.mk.inj hb
  obtain ⟨e2, -⟩ := Prod.mk.inj e2
  exact Prod.ext (agP e1) (Int.ofNat.inj e2)
 by_cases h1 : (mag b).length = 1
 ·refine uT sd (uN ⟨by simp [asT], by exact sn⟩ ?_)
  have hb1 : b < 1000000000 := by have := mag_length_le_iff.1 (xT h1); simpa using this
  have hg : gi (mag b) 0 0 = (b : Int) := by rw [an0 hb0 hb1]; rfl
  rw [hg]
  refine uC _ (hshort a b zb zb zb) ?_
  have hm := yy a (show 0 < b by omega)
  generalize a % b = r at hm ⊢
  refine uC (mag r, ()) ?_ rfl
  dsimp only
  rw [aaM (x := (r : Int)) zb]
  unfold adO
  rw [if_pos (by dsimp only; omega)]
  simp
 refine uF sd ?_
 obtain ⟨n, hnl⟩ : ∃ n, (mag b).length = n + 2 := ⟨(mag b).length - 2, by omega⟩
 have hml : n + 2 ≤ (mag a).length := by rw [← hnl]; exact ab3 zb
 obtain ⟨t, ht, t1, t2, t3, t4⟩ := aEu hb0
 have w1 : w64 (len (mag b) - 1) = ((n + 1 : Nat) : Int) := by rw [aaI, hnl, aaA zb]; omega
 rw [hnl, show n + 2 - 1 = n + 1 by omega] at ht t3 t4
 have hg : gi (mag b) ((n + 1 : Nat) : Int) 0 = (t : Int) := by rw [aaP, ht]
 have wt : aeP ((t : Int) + 1) = ((t + 1 : Nat) : Int) := by rw [aa4 zb]; omega
 obtain ⟨s, hs⟩ : ∃ s, s = 1000000000 / (t + 1) := ⟨_, rfl⟩
 have hs1 : 1 ≤ s := by rw [hs]; exact (Nat.le_div_iff_mul_le zb).2 zb
 have hs2 : s * (t + 1) ≤ 1000000000 := by rw [hs]; exact Nat.div_mul_le_self _ _
 have hs3 : s < 1000000000 := by
  have : s * 2 ≤ s * (t + 1) := yf _ zb
  omega
 have ws : aeP (Int.tdiv 1000000000 ((t + 1 : Nat) : Int)) = (s : Int) := by
  have : Int.tdiv 1000000000 ((t + 1 : Nat) : Int) = (s : Int) := by
   rw [zQ zb, hs]; rfl
  rw [this, aa4 zb]
 simp only [w1, hg, wt, ws]
 refine uN sd (uN zb ?_)
 have hms : mag s = [(s : Int)] := an0 zb hs3
 have lv : (mag (b * s)).length = n + 2 := aI2 hs2 hs1 t3 t4 t1
 have htimes : ∀ x : Nat, (mag x).length ≤ 1000000000000 → ac0 (mag x, [(s : Int)], ()) = some (mag (x * s), ()) := by
  intro x hx
  rw [← hms]
  exact aaN (enc := fun p : Nat × Nat => (mag p.1, mag p.2, ())) (x, s) ⟨hx, by rw [hms]; simp⟩ (fun b hb => agS hb)
 refine uC _ (htimes b zb) ?_
 have w2 : w64 (len (mag a) + 1) = (((mag a).length + 1 : Nat) : Int) := by rw [aaI, aaA zb]; omega
 obtain ⟨K, hK⟩ : ∃ K, (mag a).length = K + n + 2 := ⟨(mag a).length - (n + 2), by omega⟩
 have w3 : w64 (len (mag a) - len (mag (b * s))) = (K : Int) := by rw [aaI, aaI, lv, hK, aaA zb]; omega
 have w4 : w64 ((K : Int) + 1) = ((K + 1 : Nat) : Int) := by rw [aaA zb]; omega
 simp only [w2, w3, w4]
 refine uN zb ?_
 refine uC _ (htimes a zb) ?_
 refine uN zb ?_
 have las : (mag (a * s)).length ≤ (mag a).length + 1 := by
  have := af5 a s
  rw [hms] at this; simpa using this
 have htk : List.take (mag a).length.succ (mag (a * s)) = mag (a * s) := zr las
 -- the start
 have hu0d : Dg 1000000000 (over (List.replicate ((mag a).length + 1) 0) 0 (mag (a * s))) := by
  rw [apS las]; exact aeZ (ahG _) (agZ zb _)
 have hu0V : V 1000000000 (over (List.replicate ((mag a).length + 1) 0) 0 (mag (a * s))) = ((a * s : Nat) : Int) := by rw [aSF las, anA]
 have hu0l : (over (List.replicate ((mag a).length + 1) 0) 0 (mag (a * s))).length = (mag a).length + 1 := by rw [apS las]; simp; omega
 refine uO ((K : Int), List.replicate (K + 1) 0, over (List.replicate ((mag a).length + 1) 0) 0 (mag (a * s)), ()) ?_ ?_
 ·repeat refine za ?_
  simp only [zm, w4]
  rw [show List.take ((mag a).length + 1) (mag (a * s)) = mag (a * s) from htk]
  rfl
 generalize hu0 : over (List.replicate ((mag a).length + 1) 0) 0 (mag (a * s)) = u0 at *
 have hvd := ahG (b * s)
 have hvV := anA (b * s)
 have hvpos : 0 < b * s := Nat.mul_pos zb zb
 have hvtop : 1 ≤ (mag (b * s)).getD (n + 1) 0 := by
  obtain ⟨t', e1, e2, -⟩ := aEu (n := b * s) zb
  rw [lv, show n + 2 - 1 = n + 1 by omega] at e1
  omega
 generalize hv : mag (b * s) = v at *
 have hdrop0 : V 1000000000 (u0.drop (K + 1)) < V 1000000000 v := by
  have e1 := acU 1000000000 u0 (K + 1)
  have e2 := aaO zb (acT hu0d (K + 1))
  have e3 := aaO zb (ac8 hu0d (K + 1))
  rw [hu0V] at e1
  have a1 : a < 1000000000 ^ (K + 1) * b := by
   have c1 := mag_length_le_iff.1 (xT hK)
   have c2 : 1000000000 ^ (n + 1) ≤ b := by
    have : 1000000000 ^ (n + 1) * 1 ≤ 1000000000 ^ (n + 1) * t := yf _ t1
    omega
   have c3 : 1000000000 ^ (K + 1) * 1000000000 ^ (n + 1) ≤ 1000000000 ^ (K + 1) * b := yf _ c2
   rw [← wY, show K + 1 + (n + 1) = K + n + 2 by omega] at c3
   omega
  have a2 : a * s < (1000000000 ^ (K + 1) * b) * s := Nat.mul_lt_mul_of_pos_right a1 zb
  have a3 : ((a * s : Nat) : Int) < (((1000000000 ^ (K + 1) * b) * s : Nat) : Int) := Int.ofNat_lt.2 a2
  have a4 : ((((1000000000 ^ (K + 1) * b) * s : Nat)) : Int) = 1000000000 ^ (K + 1) * V 1000000000 v := by
   rw [hvV, wI, yH, Int.natCast_pow]; rfl
  rw [a4] at a3
  have a5 : 1000000000 ^ (K + 1) * V 1000000000 (u0.drop (K + 1)) < 1000000000 ^ (K + 1) * V 1000000000 v := zb
  exact yS a5 (wP (yM zb))
 refine aaS (fun i : Int × List Int × List Int × Unit => ∃ k : Nat, k ≤ K + 1 ∧ i.1 = (k : Int) - 1 ∧ i.2.1.length = K + 1 ∧ Dg 1000000000 i.2.1 ∧ (∀ p, p < k → i.2.1.getD p 0 = 0) ∧ i.2.2.1.length = (mag a).length + 1 ∧ Dg 1000000000 i.2.2.1 ∧ V 1000000000 (i.2.2.1.drop k) < V 1000000000 v ∧ ((a * s : Nat) : Int) = V 1000000000 i.2.1 * V 1000000000 v + V 1000000000 i.2.2.1) (fun i => (i.1 + 1).toNat) (fun _ => (mag (a / b), mag (a % b), ())) ?_ _ ⟨K + 1, zj _, by dsimp only; omega, by simp, agZ zb _, fun p _ => by simp [yz, List.getElem?_replicate]; split <;> rfl, hu0l, hu0d, hdrop0, by rw [av0, hu0V]; omega⟩
 rintro ⟨i, q, u, u6⟩ ⟨k, g1, g2, g3, g4, g5, g6, g7, g8, g9⟩
 dsimp only at g2 g3 g4 g5 g6 g7 g8 g9
 subst g2
 cases k with
 | zero =>
  right
  rw [yE] at g8
  obtain ⟨x, hx⟩ := zE (aaO zb g4)
  obtain ⟨r, hr⟩ := zE (aaO zb g7)
  rw [hx, hr, hvV] at g9
  rw [hr, hvV] at g8
  have h8 : a * s = x * (b * s) + r := by
   have : ((a * s : Nat) : Int) = ((x * (b * s) + r : Nat) : Int) := by rw [g9]; simp
   exact Int.ofNat.inj this
  have h9 : x = a / b := by
   have : a * s / (b * s) = x := by rw [h8, yO, wz _ _ hvpos, yQ zb, zp]
   rw [← this, Nat.mul_div_mul_right _ _ zb]
  have h10 : r = (a % b) * s := by
   have : a * s % (b * s) = r := by rw [h8, yO, xM, yv zb]
   rw [← this, Nat.mul_mod_mul_right]
  have hrl : (mag r).length ≤ n + 2 := by rw [← lv, ← hv]; exact ab3 zb
  have hVtake : V 1000000000 (u.take (n + 2)) = r := by
   have e1 := acU 1000000000 u (n + 2)
   have e2 := aaO zb (acT g7 (n + 2))
   have e3 := aaO zb (ac8 g7 (n + 2))
   have e4 : V 1000000000 u < 1000000000 ^ (n + 2) := by
    have := aIz zb hvd
    rw [lv] at this
    omega
   have e5 : V 1000000000 (u.drop (n + 2)) < 1 := by
    have : 1000000000 ^ (n + 2) * V 1000000000 (u.drop (n + 2)) < 1000000000 ^ (n + 2) * 1 := zb
    exact yS this (wP (yM zb))
   have e6 : V 1000000000 (u.drop (n + 2)) = 0 := zb
   rw [e6, wU] at e1
   omega
  have wlv : len v = ((n + 2 : Nat) : Int) := by rw [aaI, lv]
  simp only [ah3, w1, hg, wt, ws, w2, w3, w4, wlv, zm]
  have wkk : w64 (w64 (len (mag a) - ((n + 2 : Nat) : Int)) + 1) = ((K + 1 : Nat) : Int) := by rw [← wlv, w3, w4]
  simp only [wkk, zm]
  refine uF sd (uN ⟨by omega, by omega⟩ ?_)
  have htr : ∀ (l : List Int) (z : Nat), Dg 1000000000 l → l.length ≤ 2000000000000 → V 1000000000 l = z → ac5 (l, ()) = some (mag z, ()) := by
   intro l z h1 h2 h3
   unfold ac5
   rw [if_pos ⟨h1, h2⟩]
   simp only [h3, zm]
  refine uC _ (htr _ r (acT g7 _) (by rw [zT]; omega) hVtake) ?_
  refine uC _ (hshort r s zb zb zb) ?_
  have htq : List.take (K + 1) q = q := zr zb
  rw [htq]
  refine uC _ (htr q x g4 zb hx) ?_
  rw [aaQ, h9, h10, Nat.mul_div_cancel _ zb]
 | succ j =>
  left
  have e6 : ((j + 1 : Nat) : Int) - 1 = (j : Int) := zb
  rw [e6]
  have wlv : len v = ((n + 2 : Nat) : Int) := by rw [aaI, lv]
  have wa : w64 (w64 ((j : Int) + len v) + 1) = ((j + n + 2 + 1 : Nat) : Int) := by rw [wlv, aaA (x := (j : Int) + ((n + 2 : Nat) : Int)) zb, aaA zb]; omega
  have wb : ((((j + n + 2 + 1 : Nat) : Int).toNat - (j : Int).toNat : Nat) : Int) = ((n + 3 : Nat) : Int) := zb
  have wb1 : w64 (len v - 1) = ((n + 1 : Nat) : Int) := by rw [wlv, aaA zb]; omega
  have hvpos' : 0 < V 1000000000 v := by rw [hvV]; omega
  have du := aa5 zb g7 j
  have eU := aaR 1000000000 u j
  have hU0 := aaO zb (ac8 g7 j)
  have hUB : V 1000000000 (u.drop j) < V 1000000000 v * 1000000000 := zb
  have hvlt : V 1000000000 v < 1000000000 ^ (n + 2) := by have := aIz zb hvd; rwa [lv] at this
  have hz : V 1000000000 (u.drop (j + n + 2 + 1)) = 0 := by
   have e1 := acU 1000000000 (u.drop (j + 1)) (n + 2)
   rw [zW, show j + 1 + (n + 2) = j + n + 2 + 1 by omega] at e1
   have e2 := aaO zb (acT (ac8 g7 (j + 1)) (n + 2))
   have e3 := aaO zb (ac8 g7 (j + n + 2 + 1))
   have e5 : V 1000000000 (u.drop (j + n + 2 + 1)) < 1 := by
    have : 1000000000 ^ (n + 2) * V 1000000000 (u.drop (j + n + 2 + 1)) < 1000000000 ^ (n + 2) * 1 := zb
    exact yS this (wP (yM zb))
   omega
  obtain ⟨Q, hQ⟩ : ∃ Q, Q = V 1000000000 (u.drop j) / V 1000000000 v := ⟨_, rfl⟩
  have hdm := yq (V 1000000000 (u.drop j)) (V 1000000000 v)
  have hr0 := xE (V 1000000000 (u.drop j)) (show V 1000000000 v ≠ 0 by omega)
  have hr1 := xy (V 1000000000 (u.drop j)) hvpos'
  have hQ0 : 0 ≤ Q := by rw [hQ]; exact xK hU0 zb
  rw [← hQ, xg] at hdm
  have hQB : Q < 1000000000 := by
   have : Q * V 1000000000 v < 1000000000 * V 1000000000 v := zb
   exact ye this zb
  obtain ⟨qq, p1, p2, p3, p4⟩ := aK5 (mag a) (mag b) (awY a b, ()) (mag (a * s), ()) v q u j n (V 1000000000 (u.drop j)) Q hvd lv zb zb g7 hz rfl hUB zb (by rw [Int.add_mul]; omega) hQ0 hvtop
  obtain ⟨u', r1, r2, r3, r4, r5⟩ := aK4 (mag a) (mag b) (awY a b, ()) (mag (a * s), ()) v q u j (n + 2) qq Q hvd lv zb zb g7 ⟨p2, p3⟩ (by rw [w3, w4]; exact ⟨by omega, by omega⟩) hz p1 zb zb hQ0
  have k1 : j ≤ K + 1 := Nat.le_of_succ_le g1
  have k3 : (q.set j Q).length = K + 1 := by rw [List.length_set]; exact g3
  have k4 := ai5 g4 ⟨hQ0, hQB⟩ j
  have k6 : u'.length = (mag a).length + 1 := by rw [r2]; exact g6
  have k8 : V 1000000000 (u'.drop j) < V 1000000000 v := by rw [r5]; omega
  have k9 : ((j : Int) - 1 + 1).toNat < ((j : Int) + 1).toNat := zb
  refine ⟨((j : Int) - 1, q.set j Q, u', ()), ?_, ⟨j, k1, rfl, k3, k4, ?_, k6, r3, k8, ?_⟩, k9, zd⟩
  ·exact aK6 (mag a) (mag b) (awY a b, ()) (mag (a * s), ()) v q u j n qq _ hvd g7 lv g6 zb zb hvtop p4 r1
  ·intro p hp
   dsimp only
   rw [amT _ zb]
   exact g5 p zb
  ·dsimp only
   rw [aw0 _ zb, g5 j zb, r4, g9]
   grind
set_option maxRecDepth 100000
open Go Go.Vg Go.Proofs
noncomputable section
def aIK : LTab := [(239, 12, 1025, ⟨0, (List Int) × Unit, .dat (.s 0) uJ <| .nil, [2], [], 0⟩)]
def aGI : LTab := [(222, 218, 5122, ⟨0, (Int) × Bool × (List Int) × Unit, .dat (.s 4) vU <| .appN (.s 3) 5 180 vV <| .nil, [2, 0], [], 1⟩), (222, 55834, 13314, ⟨1, (Int) × (Int) × Unit, .dat (.s 7) vU <| .dat (.s 6) vV <| .nil, [15, 5, 14, 13, 12, 3, 4, 2, 0], [], 0⟩), (222, 55834, 13313, ⟨2, (Int) × (Int) × Unit, .dat (.s 7) vU <| .dat (.s 6) vV <| .nil, [15, 5, 14, 13, 12, 3, 4, 2, 0], [5], 0⟩)]
end
set_option maxRecDepth 1000000
open Go Go.Vg Go.Proofs
noncomputable section
def aFZ : OkC := ⟨34, _, aQh⟩
def amL : OkC := ⟨76, _, aB8⟩
def aR3 : OkC := ⟨75, _, aQf⟩
def aR4 : OkC := ⟨70, _, aQg⟩
def aKc : OkC := ⟨7, _, aHr⟩
def aKd := okT 239 (P1 tM) (P1 tM) aMa aIK [] Tryz.func239 (fun x => auL x.1) fun _ y _ h => auM _ y h
def aHs := okT 222 (P1 .str) (P1 tM) aiV aGI [aKd] Tryz.func222 (fun x => aqC x.1) fun _ y _ h => arD _ y h
def at4 := okT 179 tF (P2 .str .bool) acB aE2 [] Tryz.func179 (fun x => am5 x.1 x.2.1) fun _ y hw h => aAH _ _ (zw hw.1 zf) y h
def aNH := okT 178 (P1 .str) (P2 (P2 tM .bool) .bool) ajY aME [aHs, at4] Tryz.func178 (fun x => azD x.1) fun _ y _ h => aGH _ y h
def aCa := okT 123 (P1 .str) (P1 tI) agK aIN [aNH] Tryz.func123 (fun x => asP x.1) fun _ y _ h => aDz _ y h
def akI := okT 132 (P1 tM) (P1 tM) ac5 aK1 [] Tryz.func132 (fun x => auL x.1) fun _ y _ h => auM _ y h
def ax1 := okT 74 (P1 .str) (P1 tM) af0 aH5 [akI] Tryz.func74 (fun x => aqC x.1) fun _ y _ h => arD _ y h
def ax0 := okT 124 (P1 .str) (P1 (P2 tM .bool)) afZ aH4 [at4, ax1] Tryz.func124 (fun x => ayJ x.1) fun _ y _ h => aCO _ y h
def ahC := okT 96 (P1 tM) (P1 .bool) adR aK0 [] Tryz.func96 (fun x => auK x.1) fun _ y _ h => aEE _ y h
def at3 := okT 87 (P1 (P2 tM .bool)) (P1 tI) ai4 aLb [ahC] Tryz.func87 (fun x => auX x.1) fun _ y _ h => aEL _ y h
def anV := okT 181 (P1 (.int .u64)) (P1 tM) adO aAu [] Tryz.func181 (fun x => an7 x.1) fun _ y _ h => au0 _ y h
def aHE := okT 180 (P1 tM) (P1 (.int .u64)) alS aHW [] Tryz.func180 (fun x => ayD x.1) fun _ y _ h => aCF _ y h
end
set_option maxRecDepth 1000000
open Go Go.Vg Go.Proofs
noncomputable section
def aHF := okT 195 (P2 tM (.int .u32)) (P2 tM (.int .u32)) ai2 aHX [akI] Tryz.func195 (fun x => ap6 x.1 x.2.1) fun _ y _ h => aCG _ _ y h
def akJ := okT 126 (P2 tM tM) (P1 tI) aeC aCK [] Tryz.func126 (fun x => akQ x.1 x.2.1) fun _ y _ h => awV _ _ y h
def aiP := okT 128 (P2 tM tM) (P1 tM) ac0 aHV [akI] Tryz.func128 (fun x => ap5 x.1 x.2.1) fun _ y _ h => aCE _ _ y h
def ahD := okT 152 (P2 tM tM) (P2 tM tM) abK aEH [akI, aHF, akJ, anV, aiP] Tryz.func152 (fun x => amY x.1 x.2.1) fun _ y _ h => aAn _ _ y h
def ar8 := okT 125 (P2 tM tM) (P1 tM) agW aOe [anV, aHE, ahD, ahC] Tryz.func125 (fun x => aAm x.1 x.2.1) fun _ y _ h => aHZ _ _ y h
def ajF := okT 72 (P1 tF) (P2 (P2 (P2 tM .bool) tM) .bool) acV aOj [aCa, ax0, at3, ar8, akJ] Tryz.func72 (fun x => aAt x.1) fun _ y _ h => aH3 _ y h
def aKs := okT 40 (P1 tF) (P1 tI) adS aLg [ajF] Tryz.func40 (fun x => au1 x.1) fun _ y _ h => aER _ y h
def aNP := okT 38 (P1 tF) tB agY aOl [ajF, at3] Tryz.func38 (fun x => aAw x.1) fun _ y _ h => aH7 _ y h
def adT := okT 130 (P2 tM .bool) (P1 (P2 tM .bool)) abH aH2 [ahC] Tryz.func130 (fun x => ayI x.1 x.2.1) fun _ y _ h => aCN _ _ y h
def amM := okT 127 (P2 (P2 tM .bool) tM) (P1 (P2 tM .bool)) aeD aEM [aiP, adT] Tryz.func127 (fun x => amZ x.1 x.2.1) fun _ y _ h => aAq _ _ y h
def az9 := okT 150 (P1 (P2 tM .bool)) (P1 (P2 tM .bool)) agX aAr [adT] Tryz.func150 (fun x => an6 x.1) fun _ y _ h => auY _ y h
def aCg := okT 184 (P2 tM tM) (P1 tM) ak2 aK2 [] Tryz.func184 (fun x => auP x.1 x.2.1) fun _ y _ h => aEF _ _ y h
end
set_option maxRecDepth 1000000
open Go Go.Vg Go.Proofs
noncomputable section
def aHG := okT 185 (P2 tM tM) (P1 tM) ai3 aHY [akI] Tryz.func185 (fun x => ap8 x.1 x.2.1) fun _ y _ h => aCH _ _ y h
def az8 := okT 129 (P2 (P2 tM .bool) (P2 tM .bool)) (P1 (P2 tM .bool)) alT aOi [aCg, adT, akJ, aHG] Tryz.func129 (fun x => aAp x.1 x.2.1) fun _ y _ h => aH0 _ _ y h
def aHD := okT 89 (P2 (P2 (P2 tM .bool) tM) (P2 (P2 tM .bool) tM)) (P1 tI) alR aHS [amM, az9, az8, at3] Tryz.func89 (fun x => ap4 x.1 x.2.1) fun _ y _ h => aCB _ _ y h
def aKr := okT 39 (P2 tF tF) tB ae4 aQD [ajF, aHD] Tryz.func39 (fun x => aEQ x.1 x.2.1) fun _ y _ h => aLf _ _ y h
def apU := okT 12 (P1 (.pair tI (P4 tI tF tF (.sl tF)))) (P1 tI) abG aGN [aKs, aNP, aKr] Tryz.func12 (fun x => ao4 x.1) fun _ y _ h => aBj _ y h
def aR2 := okT 103 (P1 tI) (P1 .str) av1 aRj [aFZ] Tryz.func103 (fun x => aON x.1) fun _ y _ h => aMF _ y h
def aEp := okT 156 (P2 (P2 tM .bool) tM) (P1 (P2 (P2 tM .bool) tM)) aj2 aEN [ar8, ahD, adT] Tryz.func156 (fun x => am0 x.1 x.2.1) fun _ y _ h => aAs _ _ y h
def aEo := okT 153 (P1 tM) (P1 tI) ahT aEG [ahC, aFZ] Tryz.func153 (fun x => amX x.1) fun _ y _ h => aAl _ y h
def aKq := okT 154 (P1 (P2 tM .bool)) (P1 .str) aoS aLa [amL] Tryz.func154 (fun x => auW x.1) fun _ y _ h => aEK _ y h
def alA := okT 98 (P1 (P2 (P2 tM .bool) tM)) (P2 tF tI) afX aHR [aEo, aKq, amL] Tryz.func98 (fun x => ap3 x.1) fun _ y _ h => aCA _ y h
def aNQ := okT 102 tF (P2 tF tI) aoU aOn [aCa, ax0, ahC, adT, aEp, alA] Tryz.func102 (fun x => aAx x.1 x.2.1) fun _ y _ h => aH8 _ _ y h
def aR5 := okT 53 tB (P2 tF tI) aoT aSk [aR2, aNQ] Tryz.func53 (fun x => aPA x.1 x.2.1) fun _ y _ h => aOm _ _ y h
end
set_option maxRecDepth 1000000
open Go Go.Vg Go.Proofs
noncomputable section
def aCb := okT 47 (P2 tF tI) (P1 tF) ab4 aIQ [] Tryz.func47 (fun x => aBi x.1 x.2.1) fun _ y _ h => aDB _ _ y h
def aHt := okT 45 (P1 tI) (P1 tF) ab1 aGL [aR5, aCb] Tryz.func45 (fun x => aw5 x.1) fun _ y _ h => aBg _ y h
def aF0 := okT 95 (P2 (P2 (P2 tM .bool) tM) (P2 (P2 tM .bool) tM)) (P1 (P2 (P2 tM .bool) tM)) aoQ aOc [ar8, ahD, aiP, adT] Tryz.func95 (fun x => aAj x.1 x.2.1) fun _ y _ h => aHT _ _ y h
def aQj := okT 48 (P2 tF tF) (P2 tF tI) af1 aQB [ajF, aF0, alA] Tryz.func48 (fun x => aEO x.1 x.2.1) fun _ y _ h => aLd _ _ y h
def aNN := okT 99 (P2 (P2 (P2 tM .bool) tM) (P2 (P2 tM .bool) tM)) (P1 (P2 (P2 tM .bool) tM)) aoR aOd [ar8, ahD, amM, az8, adT, aiP] Tryz.func99 (fun x => aAk x.1 x.2.1) fun _ y _ h => aHU _ _ y h
def aQl := okT 50 (P2 tF tF) (P2 tF tI) aiJ aQE [ajF, aNN, alA] Tryz.func50 (fun x => aES x.1 x.2.1) fun _ y _ h => aLh _ _ y h
def aCf := okT 97 (P1 (P2 (P2 tM .bool) tM)) (P1 (P2 (P2 tM .bool) tM)) ah9 aCC [adT] Tryz.func97 (fun x => aq9 x.1) fun _ y _ h => awT _ y h
def aQk := okT 49 (P2 tF tF) (P2 tF tI) aiI aQC [ajF, ahC, aCf, aF0, alA] Tryz.func49 (fun x => aEP x.1 x.2.1) fun _ y _ h => aLe _ _ y h
def aKg := okT 14 (P2 (.pair tI (P4 tI tF tF (.sl tF))) (.pair tI (P4 tI tF tF (.sl tF)))) (P2 (.pair tI (P4 tI tF tF (.sl tF))) tI) ad9 aIT [apU, aHt, aQj, aCb, aQl, aQk, aKr] Tryz.func14 (fun x => asW x.1 x.2.1) fun _ y _ h => aDF _ _ y h
def aHB := okT 137 (P1 .str) (P1 .bool) afW aHj [] Tryz.func137 (fun x => apP x.1) fun _ y _ h => aBW _ y h
def anU := okT 189 (P1 tL) (P1 tL) adE aNe [] Tryz.func189 (fun x => aFP x.1) fun _ y _ h => aHh _ y h
def aiN := okT 145 (P2 .bool tL) (P1 (P2 .bool tL)) abO aJr [anU] Tryz.func145 (fun x => aBR x.1 x.2.1) fun _ y _ h => aD7 _ _ y h
end
end Go.Vs
