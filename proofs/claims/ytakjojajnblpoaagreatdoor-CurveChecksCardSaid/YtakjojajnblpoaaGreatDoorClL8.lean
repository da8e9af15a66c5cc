/-
  Trees of what the functions compute, and their laws. Own work; no condition.
-/
import Derived.Test.YtakjojajnblpoaaGreatDoorClL7
import Derived.Test.YtakjojajnblpoaaGreatDoorProg
set_option linter.unusedVariables false
set_option linter.unusedSimpArgs false
namespace Go.Vs
open Go Go.Vg
theorem apP {l : List Int} (h : aCn l) (k : Nat) : 0 ≤ l.getD k 0 ∧ l.getD k 0 ≤ 65535 := by
 rw [yr]
 rcases zr k l.length with hk | hk
 ·rw [zR hk]; exact h _ (ym hk)
 ·rw [xP hk]; decide
theorem aBL {l : List Int} {v : Int} (h : aCn l) (hv : 0 ≤ v ∧ v ≤ 65535) : aCn (l ++ [v]) := by
 intro w hw
 rcases zH.mp hw with hw | hw
 ·exact h w hw
 ·rw [zX.mp hw]; exact hv
theorem aOI {l : List Int} {v : Int} {k : Nat} (h : aCn l) (hv : 0 ≤ v ∧ v ≤ 65535) : aCn (l.set k v) := by
 intro w hw
 rcases List.mem_or_eq_of_mem_set hw with hw | hw
 ·exact h w hw
 ·rw [hw]; exact hv
theorem aMa {l : List Int} {k : Nat} (h : aCn l) : aCn (l.take k) := fun w hw => h w (xa hw)
theorem aKq {A : Type} {R : Int × Int × List Int × Unit → Option ((Int × Int × List Int × Unit) ⊕ (A ⊕ (CvT × Unit)))} (l : List Int) (hl : 2 ≤ l.length ∧ l.length ≤ 8) (he : aCn l)
  (hs : ∀ (k : Nat) (a : Int) (s : List Int), k < l.length → s.length = l.length → aCn s → 0 ≤ a → a ≤ 65535 → R ((k : Int), a, s, ()) = some (.inl (((k + 1 : Nat) : Int), a + 1 + Int.tmod (s.getD k 0) (Int.tdiv 65535 l.length), s.set k (a + Int.tmod (s.getD k 0) (Int.tdiv 65535 l.length)), ())))
  (hd : ∀ (a : Int) (s : List Int), s.length = l.length → R ((l.length : Int), a, s, ()) = some (.inr (.inr ((2, s.take l.length, [], ()), ())))) :
  ∃ t, acW R (0, 0, l, ()) = some (.inr ((2, t, [], ()), ())) ∧ adE t := by
 obtain ⟨n, hn⟩ : ∃ n : Nat, n = l.length := ⟨_, rfl⟩
 rw [← hn] at hl hs hd
 have hq : Int.tdiv 65535 (n : Int) = 65535 / (n : Int) := zL zc
 have hq1 : (n : Int) * (65535 / (n : Int)) ≤ 65535 := by have := Int.ediv_mul_le 65535 (b := (n : Int)) zc; rw [yI]; omega
 have hq0 : 1 ≤ 65535 / (n : Int) := by
  rw [xK zc]; omega
 rw [hq] at hs
 obtain ⟨q, hqq⟩ : ∃ q : Int, q = 65535 / (n : Int) := ⟨_, rfl⟩
 rw [← hqq] at hs hq1 hq0
 suffices H : ∃ a, acW R (0, 0, l, ()) = some a ∧ ∃ t, a = .inr ((2, t, [], ()), ()) ∧ adE t by
  obtain ⟨a, h1, t, rfl, h2⟩ := H
  exact ⟨t, h1, h2⟩
 refine acM (R := R) (fun i => ∃ k : Nat, k ≤ n ∧ i.1 = (k : Int) ∧ 0 ≤ i.2.1 ∧ i.2.1 ≤ (k : Int) * q ∧ i.2.2.1.length = n ∧ aCn i.2.2.1) (fun i => ((n : Int) - i.1).toNat) (fun a => ∃ t, a = .inr ((2, t, [], ()), ()) ∧ adE t) ?_ (0, 0, l, ()) ⟨0, by omega, rfl, by simp, by simp, hn.symm, he⟩
 rintro ⟨i, a, s, u⟩ ⟨k, h1, h2, h3, h4, h5, h6⟩
 simp only at h2 h3 h4 h5 h6
 subst h2
 rcases zr k n with hk | hk
 ·left
  have hg := apP h6 k
  have hm : Int.tmod (s.getD k 0) q = s.getD k 0 % q := zE hg.1
  have m0 := yN (s.getD k 0) (b := q) zc
  have m1 := yz (s.getD k 0) (b := q) zc
  have hkn : ((k : Int) + 1) * q ≤ (n : Int) * q := zD zc zc
  have hk1 : ((k : Int) + 1) * q = (k : Int) * q + q := by rw [wR, Int.one_mul]
  refine ⟨_, hs k a s hk h5 h6 h3 zc, ⟨k + 1, hk, rfl, ?_, ?_, ?_, ?_⟩, ?_⟩
  ·simp only [hm]; omega
  ·simp only [hm]; rw [wY]; show _ ≤ ((k : Int) + 1) * q; omega
  ·simp only [yX, h5]
  ·simp only [hm]; exact aOI h6 ⟨by omega, by omega⟩
  ·simp only; omega
 ·right
  obtain rfl : k = n := zc
  exact ⟨_, hd a s h5, s.take k, rfl, by rw [zK]; omega, by rw [zK]; omega, aMa h6⟩
theorem s9 {p : Prop} (h : p := by first | omega | ((try simp only [aaB, inb, inc, ge_iff_le, gt_iff_lt, zp, asT, ne_eq, zJ, zK, zG, yO, Nat.min_self, DTl]) <;> (first | omega | (refine ⟨?_, ?_⟩ <;> omega) | simp))) : p := h
theorem zb {α : Type} {x y : TT α} {r : Option α} (k : y.toO = r) (h : x.toO = y.toO := by first | exact uV rfl | exact uB rfl | exact uN s9 rfl) : x.toO = r := h.trans k
theorem aMe (d : DrT) (j : Bool × List Int × Unit) (b : Bool) (l : List Int) (hl : 2 ≤ l.length ∧ l.length ≤ 8) (he : aCn l) :
  ∃ t, acW (fun i => (ahP d j (b, l, ()) i).toO) (0, 0, l, ()) = some (.inr ((2, t, [], ()), ())) ∧ adE t := by
 have hq : Int.tdiv 65535 (l.length : Int) = 65535 / (l.length : Int) := zL zc
 have hq0 : 1 ≤ 65535 / (l.length : Int) := by rw [xK zc]; omega
 have hq1 : 65535 / (l.length : Int) ≤ 65535 := Int.ediv_le_self _ zc
 refine aKq l hl he ?_ ?_
 ·intro k a s hk hs hes h0 h1
  have hg := apP hes k
  have hm : Int.tmod (s.getD k 0) (Int.tdiv 65535 (l.length : Int)) = s.getD k 0 % (65535 / (l.length : Int)) := by rw [hq]; exact zE hg.1
  have m0 := yN (s.getD k 0) (b := 65535 / (l.length : Int)) zc
  have m1 := yz (s.getD k 0) (b := 65535 / (l.length : Int)) zc
  have e1 : w64 (Int.tdiv 65535 (l.length : Int)) = Int.tdiv 65535 (l.length : Int) := aaA (by rw [hq]; omega)
  have e2 : w64 ((k : Int) + 1) = ((k + 1 : Nat) : Int) := by rw [aaA (x := (k : Int) + 1) zc]; omega
  have e3 : w64 (a + 1) = a + 1 := aaA zc
  have e4 : w64 (a + 1 + Int.tmod (s.getD k 0) (Int.tdiv 65535 (l.length : Int))) = a + 1 + Int.tmod (s.getD k 0) (Int.tdiv 65535 (l.length : Int)) := aaA (by rw [hm]; omega)
  have e5 : w64 (a + 1 + Int.tmod (s.getD k 0) (Int.tdiv 65535 (l.length : Int)) - 1) = a + Int.tmod (s.getD k 0) (Int.tdiv 65535 (l.length : Int)) := by rw [aaA (x := a + 1 + Int.tmod (s.getD k 0) (Int.tdiv 65535 (l.length : Int)) - 1) (by rw [hm]; omega)]; omega
  simp only [ahP, aaB, e1, e2, e3, zv, zp, e4, e5]
  refine uT (zo zc) ?_
  refine uN ⟨by omega, by omega⟩ ?_
  refine uN (by rw [hq]; omega) ?_
  refine uN ⟨by omega, by omega⟩ ?_
  refine uB (uB (uB ?_))
  repeat refine uV ?_
  simp only [aaH, e5]
 ·intro a s hs
  simp only [ahP, aaB]
  refine uF (zn zc) ?_
  rfl
theorem aMd (d : DrT) (j : Bool × List Int × Unit) (l : List Int) (hl : 2 ≤ l.length ∧ l.length ≤ 8) (he : aCn l) :
  ∃ t, acW (fun i => (ahO d j (l, ()) i).toO) (0, 0, l, ()) = some (.inr ((2, t, [], ()), ())) ∧ adE t := by
 have hq : Int.tdiv 65535 (l.length : Int) = 65535 / (l.length : Int) := zL zc
 have hq0 : 1 ≤ 65535 / (l.length : Int) := by rw [xK zc]; omega
 have hq1 : 65535 / (l.length : Int) ≤ 65535 := Int.ediv_le_self _ zc
 refine aKq l hl he ?_ ?_
 ·intro k a s hk hs hes h0 h1
  have hg := apP hes k
  have hm : Int.tmod (s.getD k 0) (Int.tdiv 65535 (l.length : Int)) = s.getD k 0 % (65535 / (l.length : Int)) := by rw [hq]; exact zE hg.1
  have m0 := yN (s.getD k 0) (b := 65535 / (l.length : Int)) zc
  have m1 := yz (s.getD k 0) (b := 65535 / (l.length : Int)) zc
  have e1 : w64 (Int.tdiv 65535 (l.length : Int)) = Int.tdiv 65535 (l.length : Int) := aaA (by rw [hq]; omega)
  have e2 : w64 ((k : Int) + 1) = ((k + 1 : Nat) : Int) := by rw [aaA (x := (k : Int) + 1) zc]; omega
  have e3 : w64 (a + 1) = a + 1 := aaA zc
  have e4 : w64 (a + 1 + Int.tmod (s.getD k 0) (Int.tdiv 65535 (l.length : Int))) = a + 1 + Int.tmod (s.getD k 0) (Int.tdiv 65535 (l.length : Int)) := aaA (by rw [hm]; omega)
  have e5 : w64 (a + 1 + Int.tmod (s.getD k 0) (Int.tdiv 65535 (l.length : Int)) - 1) = a + Int.tmod (s.getD k 0) (Int.tdiv 65535 (l.length : Int)) := by rw [aaA (x := a + 1 + Int.tmod (s.getD k 0) (Int.tdiv 65535 (l.length : Int)) - 1) (by rw [hm]; omega)]; omega
  simp only [ahO, aaB, e1, e2, e3, zv, zp, e4, e5]
  refine uT (zo zc) ?_
  refine uN ⟨by omega, by omega⟩ ?_
  refine uN (by rw [hq]; omega) ?_
  refine uN ⟨by omega, by omega⟩ ?_
  refine uB (uB (uB ?_))
  repeat refine uV ?_
  simp only [aaH, e5]
 ·intro a s hs
  simp only [ahO, aaB]
  refine uF (zn zc) ?_
  rfl
theorem aMf (d : DrT) (b : Bool) (l : List Int) (hl : l.length ≤ 8) (he : aCn l) (hb : b = true → l = []) :
  ∃ t, (ahQ d (b, l, ())).toO = some ((2, t, [], ()), ()) ∧ adE t := by
 cases b
 ·suffices H : ∃ a, acW (fun i => (ak8 d (false, l, ()) i).toO) (l, ()) = some a ∧ ∃ t, a = ((2, t, [], ()), ()) ∧ adE t by
   obtain ⟨a, h1, t, rfl, h2⟩ := H
   refine ⟨t, ?_, h2⟩
   simp only [ahQ]
   refine uF rfl ?_
   exact uO (l, ()) (uB rfl) h1
  refine acM (fun i => i.1.length ≤ 8 ∧ aCn i.1) (fun i => 2 - i.1.length) _ ?_ (l, ()) ⟨hl, he⟩
  rintro ⟨l, u⟩ ⟨h1, h2⟩
  simp only at h1 h2
  simp only [ak8, aaB, zt]
  rcases zr l.length 2 with hk | hk
  ·left
   have e1 : w64 (65535 * (l.length : Int)) = 65535 * (l.length : Int) := aaA zc
   refine ⟨(l ++ [65535 * (l.length : Int)], ()), ?_, ⟨by rw [zJ]; simp only [zG, yO]; omega, aBL h2 zc⟩, by simp only [zJ, zG, yO]; omega⟩
   refine uT (zo zc) ?_
   simp only [e1]
   repeat refine zb ?_
   rfl
  ·right
   rcases (xg d.2.2.2.2.1).symm with hd | hd
   ·refine ⟨_, uF (zn zc) (uF hd ?_), l, rfl, hk, by omega, h2⟩
    repeat refine zb ?_
    rfl
   ·obtain ⟨t, h3, h4⟩ := aMd d (false, l, ()) l ⟨hk, h1⟩ h2
    refine ⟨_, uF (zn zc) (uT hd ?_), t, rfl, h4⟩
    repeat refine zb ?_
    refine uO (0, 0, l, ()) ?_ ?_
    ·repeat refine zb ?_
     rfl
    ·exact h3
 ·suffices H : ∃ a, acW (fun i => (ak9 d (true, l, ()) i).toO) (true, [], ()) = some a ∧ ∃ t, a = ((2, t, [], ()), ()) ∧ adE t by
   obtain ⟨a, h1, t, rfl, h2⟩ := H
   refine ⟨t, ?_, h2⟩
   simp only [ahQ]
   refine uT rfl ?_
   exact uO (true, [], ()) rfl h1
  refine acM (fun i => i.2.1.length ≤ 8 ∧ aCn i.2.1 ∧ (i.1 = true → i.2.1 = [])) (fun i => 2 - i.2.1.length) _ ?_ (true, [], ()) ⟨by simp, (by intro v hv; cases hv), fun _ => rfl⟩
  rintro ⟨b, l, u⟩ ⟨h1, h2, h5⟩
  simp only at h1 h2 h5
  simp only [ak9, aaB, zt]
  cases b
  ·rcases zr l.length 2 with hk | hk
   ·left
    have e1 : w64 (65535 * (l.length : Int)) = 65535 * (l.length : Int) := aaA zc
    refine ⟨(false, l ++ [65535 * (l.length : Int)], ()), ?_, ⟨by rw [zJ]; simp only [zG, yO]; omega, aBL h2 zc, by intro h; cases h⟩, by simp only [zJ, zG, yO]; omega⟩
    refine uF rfl (uT (zo zc) ?_)
    simp only [e1]
    repeat refine zb ?_
    rfl
   ·right
    rcases (xg d.2.2.2.2.1).symm with hd | hd
    ·refine ⟨_, uF rfl (uF (zn zc) (uF hd ?_)), l, rfl, hk, by omega, h2⟩
     repeat refine zb ?_
     rfl
    ·obtain ⟨t, h3, h4⟩ := aMe d (true, ‹List Int›, ()) false l ⟨hk, h1⟩ h2
     refine ⟨_, uF rfl (uF (zn zc) (uT hd ?_)), t, rfl, h4⟩
     repeat refine zb ?_
     refine uO (0, 0, l, ()) ?_ ?_
     ·repeat refine zb ?_
      rfl
     ·exact h3
  ·left
   have := h5 rfl
   subst this
   refine ⟨(false, [0], ()), ?_, ⟨by simp, by intro v hv; rw [zX.mp hv]; decide, by intro h; cases h⟩, by simp⟩
   refine uT rfl ?_
   repeat refine zb ?_
   rfl
theorem aMc (d : DrT) (hd : aQC d) : ∃ t, ahG (d, ()) = some ((2, t, [], ()), ()) ∧ adE t := by
 suffices H : ∃ a, acW (fun i => (alA d i).toO) (0, true, [], ()) = some a ∧ ∃ b l, a = .inl (b, l, ()) ∧ l.length ≤ 8 ∧ aCn l ∧ (b = true → l = []) by
  obtain ⟨a, h1, b, l, rfl, h2, h3, h4⟩ := H
  obtain ⟨t, h5, h6⟩ := aMf d b l h2 h3 h4
  refine ⟨t, ?_, h6⟩
  simp only [ahG, ajS]
  exact uL (b, l, ()) (uO (0, true, [], ()) rfl h1) h5
 refine acM (fun i => ∃ k : Nat, k ≤ 8 ∧ i.1 = (k : Int) ∧ i.2.2.1.length = k ∧ aCn i.2.2.1 ∧ (i.2.1 = true → i.2.2.1 = [] )) (fun i => (8 - i.1).toNat) _ ?_ _ ⟨0, by omega, rfl, rfl, (by intro v hv; cases hv), fun _ => rfl⟩
 rintro ⟨i, b, l, u⟩ ⟨k, h1, h2, h3, h4, h5⟩
 simp only at h2 h3 h4 h5
 subst h2
 simp only [alA, ag2, aaB, zt, aaM]
 have hg := apP hd.2.1 k
 have e0 : w64 (d.2.1.getD k 0) = d.2.1.getD k 0 := aaA zc
 have e2 : w64 ((k : Int) + 1) = ((k + 1 : Nat) : Int) := by rw [aaA (x := (k : Int) + 1) zc]; omega
 simp only [e0, e2]
 by_cases c1 : (k : Int) < d.2.1.length
 ·by_cases c2 : (k : Int) < 8
  ·left
   refine ⟨(((k + 1 : Nat) : Int), false, l ++ [d.2.1.getD k 0], ()), ?_, ⟨k + 1, by omega, rfl, by simp [h3], aBL h4 hg, by intro h; cases h⟩, by simp only; omega⟩
   cases b
   ·refine uF rfl (uT (zo c1) (uT (zo c2) ?_))
    repeat refine zb ?_
    rfl
   ·have := h5 rfl
    subst this
    refine uT rfl (uT (zo c1) (uT (zo c2) ?_))
    repeat refine zb ?_
    rfl
  ·right
   cases b
   ·refine ⟨_, uF rfl (uT (zo c1) (uF (zn c2) ?_)), false, l, rfl, by omega, h4, by intro h; cases h⟩
    repeat refine zb ?_
    rfl
   ·refine ⟨_, uT rfl (uT (zo c1) (uF (zn c2) ?_)), true, [], rfl, by simp, (by intro v hv; cases hv), fun _ => rfl⟩
    repeat refine zb ?_
    rfl
 ·right
  cases b
  ·refine ⟨_, uF rfl (uF (zn c1) ?_), false, l, rfl, by omega, h4, by intro h; cases h⟩
   repeat refine zb ?_
   rfl
  ·refine ⟨_, uT rfl (uF (zn c1) ?_), true, [], rfl, by simp, (by intro v hv; cases hv), fun _ => rfl⟩
   repeat refine zb ?_
   rfl
def aQA : Int → List adS → Int → Prop
 | last, [], t => t = last
 | last, s :: r, t => aiS last s ∧ aQA s.1 r t
theorem aGW : ∀ (l : List adS) (last t : Int) (s : adS), aQA last l t → aiS t s → aQA last (l ++ [s]) s.1
 | [], last, t, s, h, hs => by
  have : t = last := h
  subst this; exact ⟨hs, rfl⟩
 | x :: r, last, t, s, h, hs => ⟨h.1, aGW r x.1 t s h.2 hs⟩
theorem aGV : ∀ (l : List adS) (last t : Int), aQA last l t → 1 ≤ l.length → t < 1000000 → agA last (l.set (l.length - 1) (1000000, (l.getD (l.length - 1) (0, 0, 0, 0, 0, 0, ())).2))
 | [], _, _, _, h, _ => absurd h zf
 | [s], last, t, h, _, ht => by
  have h2 : t = s.1 := h.2
  obtain ⟨h3, h4⟩ := h.1
  exact ⟨⟨h3, ⟨by have := h4.1; omega, by show (1000000 : Int) ≤ 1000000; omega⟩⟩, rfl⟩
 | s :: x :: r, last, t, h, _, ht => by
  have := aGV (x :: r) s.1 t h.2 zi ht
  simp only [zG, xr] at this ⊢
  exact ⟨h.1, by simpa using this⟩
theorem auJ {a b : Int} (ha : inR a 1 36) (hb : inR b 1 12) : abB (a, b, ()) = some (!decide (Nat.gcd a.natAbs b.natAbs = 1), ()) := by
 unfold abB
 rw [if_pos ⟨ha, hb⟩]
theorem aF6 (d : DrT) (hd : aQC d) : ∃ l, afA (d, ()) = some ((3, [], l, ()), ()) ∧ ab6 l := by
 suffices H : ∃ a, acW (fun i => (aiE d i).toO) (0, 0, true, [], ()) = some a ∧ ∃ l, a = ((3, [], l, ()), ()) ∧ ab6 l by
  obtain ⟨a, h1, l, rfl, h2⟩ := H
  refine ⟨l, ?_, h2⟩
  simp only [afA, agO]
  exact uO (0, 0, true, [], ()) (uB rfl) h1
 obtain ⟨n, hn⟩ : ∃ n : Nat, n = (if 3 < d.2.2.1.length then 3 else d.2.2.1.length) := ⟨_, rfl⟩
 have hnz : (if 3 < len d.2.2.1 then 3 else len d.2.2.1) = (n : Int) := by
  rw [hn]
  by_cases h : 3 < d.2.2.1.length
  ·rw [if_pos h]; exact (if_pos (by rw [aaB]; omega)).trans rfl
  ·rw [if_neg h]; exact (if_neg (by rw [aaB]; omega)).trans rfl
 have hn3 : n ≤ 3 := by rw [hn]; split <;> omega
 have hnl : n ≤ d.2.2.1.length := by rw [hn]; split <;> omega
 clear hn
 refine acM (fun i : Int × Int × Bool × List adS × Unit => ∃ k : Nat, k ≤ n ∧ i.1 = (k : Int) ∧ i.2.2.2.1.length = k ∧ (i.2.2.1 = true → i.2.2.2.1 = []) ∧ (i.2.2.1 = false → 1 ≤ k) ∧ 0 ≤ i.2.1 ∧ i.2.1 ≤ 256000 * (k : Int) ∧ aQA 0 i.2.2.2.1 i.2.1) (fun i => (3 - i.1).toNat) _ ?_ _ ⟨0, by omega, rfl, rfl, fun _ => rfl, (by intro h; cases h), Int.le_refl _, (by show (0 : Int) ≤ _; omega), rfl⟩
 rintro ⟨i, t, b, l, u⟩ ⟨k, h1, h2, h3, h4, h5, h6, h7, h8⟩
 simp only at h2 h3 h4 h5 h6 h7 h8
 subst h2
 simp only [aiE, afH, gP, hnz, aaM, zt]
 rcases zr k n with hk | hk
 ·left
  have hmem : d.2.2.1.getD k (0, 0, 0, 0, 0, 0, ()) ∈ d.2.2.1 := by
   rw [yr, zR zc]; exact ym _
  obtain ⟨p, hp⟩ : ∃ p, p = d.2.2.1.getD k (0, 0, 0, 0, 0, 0, ()) := ⟨_, rfl⟩
  have hpb := hd.2.2 p (by rw [hp]; exact hmem)
  simp only [← hp]
  clear hp hmem
  obtain ⟨w, m, a, o, nu, de, uu⟩ := p
  obtain ⟨b1, b2, b3, b4, b5, b6⟩ := hpb
  simp only [inR] at b1 b2 b3 b4 b5 b6 ⊢
  have q1 : w64 w = w := aaA zc
  have q2 : w64 m = m := aaA zc
  have q3 : w64 a = a := aaA zc
  have q4 : w64 o = o := aaA zc
  have q5 : Int.tmod nu 4 = nu % 4 := zE zc
  have q6 : Int.tmod de 4 = de % 4 := zE zc
  have q7 : w64 (nu % 4) = nu % 4 := aaA zc
  have q8 : w64 (de % 4) = de % 4 := aaA zc
  have q9 : w64 (1 + nu % 4) = 1 + nu % 4 := aaA zc
  have q10 : w64 (1 + de % 4) = 1 + de % 4 := aaA zc
  have q11 : w64 (t + 1000) = t + 1000 := aaA zc
  have q12 : w64 (1000 * w) = 1000 * w := aaA zc
  have q13 : w64 (t + 1000 + 1000 * w) = t + 1000 + 1000 * w := aaA zc
  have q14 : w64 (100 * m) = 100 * m := aaA zc
  have q15 : w64 (10 * a) = 10 * a := aaA zc
  have q16 : w64 (10 * o) = 10 * o := aaA zc
  have q17 : w64 (0 - 100 * m) = 0 - 100 * m := aaA zc
  have q18 : w64 (0 - 10 * a) = 0 - 10 * a := aaA zc
  have q19 : w64 ((k : Int) + 1) = ((k + 1 : Nat) : Int) := by rw [aaA (x := (k : Int) + 1) zc]; omega
  simp only [q1, q2, q3, q4, q5, q6, q7, q8, q9, q10, q11, q12, q13, q14, q15, q16, q17, q18, q19]
  have inv : ∀ M A N D : Int, inR M (-100000000) 100000000 → inR A (-100000000) 100000000 → inR N 1 36 → inR D 1 12 → Nat.gcd N.natAbs D.natAbs = 1 →
    (∃ k' : Nat, k' ≤ n ∧ ((k + 1 : Nat) : Int) = (k' : Int) ∧ (l ++ [((t + 1000 + 1000 * w, M, A, N, D, 10 * o, ()) : adS)]).length = k' ∧ ((false = true) → l ++ [((t + 1000 + 1000 * w, M, A, N, D, 10 * o, ()) : adS)] = []) ∧ (false = false → 1 ≤ k') ∧ 0 ≤ t + 1000 + 1000 * w ∧ t + 1000 + 1000 * w ≤ 256000 * (k' : Int) ∧ aQA 0 (l ++ [((t + 1000 + 1000 * w, M, A, N, D, 10 * o, ()) : adS)]) (t + 1000 + 1000 * w)) := by
   intro M A N D c1 c2 c3 c4 c5
   refine ⟨k + 1, hk, rfl, by simp [h3], (by intro h; cases h), (by intro _; omega), by omega, by omega, ?_⟩
   exact aGW l 0 t (t + 1000 + 1000 * w, M, A, N, D, 10 * o, ()) h8 ⟨⟨c1, c2, ⟨by show -100000000 ≤ 10 * o; omega, by show 10 * o ≤ 100000000; omega⟩, c3, c4, c5⟩, ⟨by show t + 1 ≤ t + 1000 + 1000 * w; omega, by show t + 1000 + 1000 * w ≤ 1000000; omega⟩⟩
  have n1 : inR (1 : Int) 1 36 := zf
  have n2 : inR (1 : Int) 1 12 := zf
  have n3 : inR (1 + nu % 4) 1 36 := ⟨by omega, by omega⟩
  have n4 : inR (1 + de % 4) 1 12 := ⟨by omega, by omega⟩
  have n5 : inR (100 * m) (-100000000) 100000000 := ⟨by omega, by omega⟩
  have n6 : inR (10 * a) (-100000000) 100000000 := ⟨by omega, by omega⟩
  have n7 : inR (if 0 - 100 * m > 100 * m then 0 - 100 * m else 100 * m) (-100000000) 100000000 := by split <;> exact ⟨by omega, by omega⟩
  have n8 : inR (if 0 - 10 * a > 10 * a then 0 - 10 * a else 10 * a) (-100000000) 100000000 := by split <;> exact ⟨by omega, by omega⟩
  have g1 : ∀ D : Int, Nat.gcd (1 : Int).natAbs D.natAbs = 1 := fun D => Nat.gcd_one_left _
  have g2 : ∀ N : Int, Nat.gcd N.natAbs (1 : Int).natAbs = 1 := fun N => Nat.gcd_one_right _
  rcases (xg d.2.2.2.1).symm with hr | hr <;> rcases (xg d.2.2.2.2.1).symm with hi | hi <;> by_cases g : Nat.gcd (1 + nu % 4).natAbs (1 + de % 4).natAbs = 1
  all_goals
   cases b
   ·apply Exists.intro
    refine ⟨?_, ?_, ?_⟩
    ·refine uF rfl (uT (zo zc) (uN ⟨by omega, by rw [aaB]; omega⟩ ?_))
     first | refine uT hr ?_ | refine uF hr ?_
     first | refine uT hi ?_ | refine uF hi ?_
     first | refine uC _ (auJ n3 n4) ?_ | refine uC _ (auJ n3 n2) ?_
     first | refine uF (congrArg Bool.not (zo g)) ?_ | refine uF (congrArg Bool.not (zo (g2 _))) ?_ | refine uT (congrArg Bool.not (zn g)) ?_
     repeat refine zb ?_
     rfl
    ·exact inv _ _ _ _ zg zg zg zg (by first | exact g | exact g2 _ | exact g1 _)
    ·show (3 - ((k + 1 : Nat) : Int)).toNat < (3 - (k : Int)).toNat; omega
   ·have := h4 rfl
    subst this
    apply Exists.intro
    refine ⟨?_, ?_, ?_⟩
    ·refine uT rfl (uT (zo zc) (uN ⟨by omega, by rw [aaB]; omega⟩ ?_))
     first | refine uT hr ?_ | refine uF hr ?_
     first | refine uT hi ?_ | refine uF hi ?_
     first | refine uC _ (auJ n3 n4) ?_ | refine uC _ (auJ n3 n2) ?_
     first | refine uF (congrArg Bool.not (zo g)) ?_ | refine uF (congrArg Bool.not (zo (g2 _))) ?_ | refine uT (congrArg Bool.not (zn g)) ?_
     repeat refine zb ?_
     rfl
    ·exact inv _ _ _ _ zg zg zg zg (by first | exact g | exact g2 _ | exact g1 _)
    ·show (3 - ((k + 1 : Nat) : Int)).toNat < (3 - (k : Int)).toNat; omega
 ·right
  obtain rfl : k = n := zc
  have e0 : w64 (1 - 1) = 0 := aaA zc
  cases b
  ·have h5 := h5 rfl
   rcases (xg d.2.2.2.2.1).symm with hi | hi
   ·have e1 : w64 ((k : Int) - 1) = ((k - 1 : Nat) : Int) := by rw [aaA (x := (k : Int) - 1) zc]; omega
    refine ⟨_, uF rfl (uF (zn zc) (uF (beq_eq_false_iff_ne.mpr zc) (uF hi (uN ?_ rfl)))), _, rfl, ?_⟩
    ·rw [e1, aaB]; exact ⟨by omega, by omega⟩
    ·rw [e1, zp, zv, ← h3, zu (by rw [yX]; omega)]
     refine ⟨by rw [yX]; omega, by rw [yX]; omega, aGV l 0 t h8 zc zc⟩
   ·refine ⟨_, uF rfl (uF (zn zc) (uF (beq_eq_false_iff_ne.mpr zc) (uT hi (uN ?_ rfl)))), _, rfl, ?_⟩
    ·rw [aaB]; exact ⟨by simp only [asT]; omega, by omega⟩
    ·rw [e0]
     obtain ⟨s, r, rfl⟩ : ∃ s r, l = s :: r := by
      cases l with
      | nil => simp at h3; omega
      | cons s r => exact ⟨s, r, rfl⟩
     show ab6 [((1000000, s.2) : adS)]
     exact ⟨zq 1, by show 1 ≤ 4; omega, ⟨h8.1.1, ⟨by show (0 : Int) + 1 ≤ 1000000; omega, by show (1000000 : Int) ≤ 1000000; omega⟩⟩, rfl⟩
  ·have := h4 rfl
   subst this
   have : k = 0 := h3.symm
   subst this
   rcases (xg d.2.2.2.2.1).symm with hi | hi
   ·refine ⟨_, uT rfl (uF (zn zc) (uT rfl (uF hi rfl))), _, rfl, ?_⟩
    rw [e0]; decide
   ·refine ⟨_, uT rfl (uF (zn zc) (uT rfl (uT hi rfl))), _, rfl, ?_⟩
    rw [e0]; decide
theorem aO3 (d : DrT) (hd : aQC d) : ∃ c, ajB (d, ()) = some (c, ()) ∧ abF c := by
 obtain ⟨k, ta, pa, ro, ri, u⟩ := d
 obtain ⟨l1, e1, o1⟩ := aMc _ hd
 obtain ⟨l2, e2, o2⟩ := aF6 _ hd
 simp only [ajB, amE]
 by_cases c0 : Int.tmod k 4 = 0
 ·exact ⟨(1, [], [], ()), uT (zV.mpr c0) rfl, Or.inl ⟨rfl, rfl, rfl⟩⟩
 ·by_cases c1 : Int.tmod k 4 = 1
  ·refine ⟨(3, [], l2, ()), uF (beq_eq_false_iff_ne.mpr c0) (uT (zV.mpr c1) (uC _ e2 ?_)), Or.inr (Or.inr ⟨rfl, rfl, o2⟩)⟩
   repeat refine zb ?_
   rfl
  ·refine ⟨(2, l1, [], ()), uF (beq_eq_false_iff_ne.mpr c0) (uF (beq_eq_false_iff_ne.mpr c1) (uC _ e1 ?_)), Or.inr (Or.inl ⟨rfl, o1, rfl⟩)⟩
   repeat refine zb ?_
   rfl
theorem aA1 (d : DrT) (y) (h : ahG (d, ()) = some y) : (ajS d).toO = some y := h
theorem au0 (d : DrT) (y) (h : afA (d, ()) = some y) : (agO d).toO = some y := h
theorem aCL (d : DrT) (y) (h : ajB (d, ()) = some y) : (amE d).toO = some y := h
set_option maxRecDepth 100000
open Go Go.Vg Go.Proofs
noncomputable section
abbrev bT (l : List Int) : List Int := List.take 0 [] ++ List.take (Int.toNat (if 20 < len l then 20 else len l)) l
abbrev bTn (l : List Int) : Nat := 0 + List.length (List.take (Int.toNat (if 20 < len l then 20 else len l)) l)
abbrev bS (l : List (Int × Int × Int × Int × Int × Int × Unit)) : List (Int × Int × Int × Int × Int × Int × Unit) := List.take 0 [] ++ List.take (Int.toNat (if 8 < len l then 8 else len l)) l
abbrev bSn (l : List (Int × Int × Int × Int × Int × Int × Unit)) : Nat := 0 + List.length (List.take (Int.toNat (if 8 < len l then 8 else len l)) l)
abbrev bI (b : Int × Int × Int × Unit) (l : List (Int × Int × Int × Int × Int × Int × Unit)) : Nat := 0 + Int.toNat (Int.tmod (w64 b.2.1) (↑(bSn l) : Int))
abbrev bG (b : Int × Int × Int × Unit) (l : List (Int × Int × Int × Int × Int × Int × Unit)) : Int × Int × Int × Int × Int × Int × Unit := List.getD (bS l) (bI b l) (0, 0, 0, 0, 0, 0, ())
def aLy : LTab := [(37, 15740, 40962, ⟨0, (List Int) × Unit, .app (.c 1 1) 40 3 vZ <| .nil, [17, 5, 4, 3, 2], [24, 2, 1, 0], 1⟩), (37, 1007612, 47106, ⟨1, (List vY) × Unit, .dat (.c 1 2) (Ty.sl uD) <| .nil, [5, 4, 3, 2], [14, 2, 1, 0], 1⟩)]
def az4 (b : Int × Int × Int × Unit) (c : Int × List Int × List vY × Unit) (i : (List Int) × Unit) : TT (tu ⊕ uE) :=
 .triv (asT Int 3 ≠ 0) zf <| .ite (decide (len i.1 < w64 (16 + Int.tmod (w64 b.2.1) 3)))
 (.need ((List.length i.1 + 1) * 8 ≤ 140737488355328) <| .tt <| .lt (List.take (List.length i.1) i.1 ++ [w64 (7 * len i.1)] : List Int) fun z1 => .vI (vP (Int.tmod b.1 12) (w64 b.2.1 : Int) <| uv ∧ uh ∧ ue ∧ True) <| .need ((((3 : TypeId) = 3) ∧ ((z1 : List Int) = z1)) ∧ (true = true) ∧ (((64 : TypeId) = 64) ∧ ((bS c.2.2.1 : List vY) = bS c.2.2.1)) ∧ (true = true) ∧ (((42 : TypeId) = 42) ∧ (((0 : Int) = 0) ∧ (True ∧ (True ∧ True)))) ∧ (true = true) ∧ (((42 : TypeId) = 42) ∧ (((c.1 : Int) = c.1) ∧ ((((40) = (40)) ∧ (((0) = (0)) ∧ ((List.length i.1 + 1 = List.length z1) ∧ ((true) = (true))))) ∧ ((((24) = (24)) ∧ (((0) = (0)) ∧ (((bSn c.2.2.1) = (bSn c.2.2.1)) ∧ ((true) = (true))))) ∧ True)))) ∧ (true = true) ∧ (((27 : TypeId) = 27) ∧ (((b.1 : Int) = b.1) ∧ (((b.2.1 : Int) = b.2.1) ∧ (((b.2.2.1 : Int) = b.2.2.1) ∧ True)))) ∧ (true = true) ∧ True) <| .ok (.inl ((z1, ()))))
 (.ok (.inr (((c.1, List.take (List.length i.1) i.1, List.take (bSn c.2.2.1) (bS c.2.2.1), ()), ()))))
def az3 (b : Int × Int × Int × Unit) (c : Int × List Int × List vY × Unit) (i1 : (List vY) × Unit) : TT (((List vY) × Unit) ⊕ uE) :=
 .triv (asT Int 2 ≠ 0) zf <| .ite (decide (len i1.1 < w64 (4 + Int.tmod (w64 b.2.1) 2)))
 (.need ((1 + List.length i1.1) * 48 ≤ 140737488355328) <| .tt <| .lt (List.take (1 + List.length i1.1) ([(w64 (1 + len i1.1), 0, 0, 1, 1, 0, ())] ++ i1.1) : List vY) fun z3 => .vI (vJ (w64 b.2.1 : Int) <| uv ∧ uh ∧ ue ∧ True) <| .vI (vH (vM 3 (bT c.2.1 : List Int)) <| vH (vP 42 (0 : Int) <| True ∧ True ∧ True) <| vH (vP 42 c.1 <| (vN 14 0 (bTn c.2.1) true) ∧ vR z3) <| vH (vK 27 b.1 b.2.1 b.2.2.1) True) <| .ok (.inl ((z3, ()))))
 (.ok (.inr (((c.1, List.take (bTn c.2.1) (bT c.2.1), i1.1, ()), ()))))
def alK (b : Int × Int × Int × Unit) (c : Int × List Int × List vY × Unit) : TT uE :=
 .tt <| .tt <| .need (inc (if 20 < len c.2.1 then 20 else len c.2.1) (len c.2.1)) <| .need ((bTn c.2.1) * 8 ≤ 140737488355328) <| .need (inc (if 8 < len c.2.2.1 then 8 else len c.2.2.1) (len c.2.2.1)) <| .need ((bSn c.2.2.1) * 48 ≤ 140737488355328) <| .triv (asT Int 12 ≠ 0) zf <| .ite (Int.tmod b.1 12 == 0)
 (.ok (((b.2.2.1, List.take (bTn c.2.1) (bT c.2.1), List.take (bSn c.2.2.1) (bS c.2.2.1), ()), ())))
 (.ite (Int.tmod b.1 12 == 1)
 (.ite (decide ((↑(bTn c.2.1) : Int) > 0))
 (.need ((↑(bTn c.2.1) : Int) ≠ 0) <| .need (inb (Int.tmod (w64 b.2.1) (↑(bTn c.2.1) : Int)) (↑(bTn c.2.1) : Int)) <| .ok (((c.1, List.take (bTn c.2.1) (List.set (bT c.2.1) (0 + Int.toNat (Int.tmod (w64 b.2.1) (↑(bTn c.2.1) : Int))) b.2.2.1), List.take (bSn c.2.2.1) (bS c.2.2.1), ()), ())))
 (.ok (((c.1, List.take (bTn c.2.1) (bT c.2.1), List.take (bSn c.2.2.1) (bS c.2.2.1), ()), ()))))
 (.ite (Int.tmod b.1 12 == 2)
 (.loop 0 (.tt <| .lt (bT c.2.1 : List Int) fun z => .vI (vP (Int.tmod b.1 12) (w64 b.2.1 : Int) <| uv ∧ uh ∧ ue ∧ True) <| .need ((((3 : TypeId) = 3) ∧ ((z : List Int) = z)) ∧ (true = true) ∧ (((64 : TypeId) = 64) ∧ ((bS c.2.2.1 : List vY) = bS c.2.2.1)) ∧ (true = true) ∧ (((42 : TypeId) = 42) ∧ (((0 : Int) = 0) ∧ (True ∧ (True ∧ True)))) ∧ (true = true) ∧ (((42 : TypeId) = 42) ∧ (((c.1 : Int) = c.1) ∧ ((((40) = (40)) ∧ (((0) = (0)) ∧ ((bTn c.2.1 = List.length z) ∧ ((true) = (true))))) ∧ ((((24) = (24)) ∧ (((0) = (0)) ∧ (((bSn c.2.2.1) = (bSn c.2.2.1)) ∧ ((true) = (true))))) ∧ True)))) ∧ (true = true) ∧ (((27 : TypeId) = 27) ∧ (((b.1 : Int) = b.1) ∧ (((b.2.1 : Int) = b.2.1) ∧ (((b.2.2.1 : Int) = b.2.2.1) ∧ True)))) ∧ (true = true) ∧ True) <| .ok ((z, ()))) (az4 b c))
 (.ite (Int.tmod b.1 12 == 3)
 (.triv (asT Int 3 ≠ 0) zf <| .need (inc (if Int.tmod (w64 b.2.1) 3 < (↑(bTn c.2.1) : Int) then Int.tmod (w64 b.2.1) 3 else (↑(bTn c.2.1) : Int)) (↑(bTn c.2.1) : Int)) <| .ok (((c.1, List.take (Int.toNat (if Int.tmod (w64 b.2.1) 3 < (↑(bTn c.2.1) : Int) then Int.tmod (w64 b.2.1) 3 else (↑(bTn c.2.1) : Int))) (bT c.2.1), List.take (bSn c.2.2.1) (bS c.2.2.1), ()), ())))
 (.ite (Int.tmod b.1 12 == 4)
 (.need ((bSn c.2.2.1 + 1) * 48 ≤ 140737488355328) <| .ok (((c.1, List.take (bTn c.2.1) (bT c.2.1), List.take (bSn c.2.2.1 + 1) (List.take (bSn c.2.2.1) (bS c.2.2.1) ++ [(1000000, 0, 0, 1, 1, 0, ())]), ()), ())))
 (.ite (Int.tmod b.1 12 == 5)
 (.loop 1 (.tt <| .lt (List.take (bSn c.2.2.1) (bS c.2.2.1) : List vY) fun z2 => .vI (vJ (w64 b.2.1 : Int) <| uv ∧ uh ∧ ue ∧ True) <| .vI (vH (vM 3 (bT c.2.1 : List Int)) <| vH (vP 42 (0 : Int) <| True ∧ True ∧ True) <| vH (vP 42 c.1 <| (vN 14 0 (bTn c.2.1) true) ∧ vR z2) <| vH (vK 27 b.1 b.2.1 b.2.2.1) True) <| .ok ((z2, ()))) (az3 b c))
 (.ite (decide ((↑(bSn c.2.2.1) : Int) > 0))
 (.need ((↑(bSn c.2.2.1) : Int) ≠ 0) <| .need (inb (Int.tmod (w64 b.2.1) (↑(bSn c.2.2.1) : Int)) (↑(bSn c.2.2.1) : Int)) <| .triv (asT Int 12 ≠ 0) zf <| .need (inb (wu8 (Int.tmod b.1 12 - 6)) (↑6 : Int)) <| .ite (wu8 (Int.tmod b.1 12 - 6) == (↑5 : Int))
 (.ok (((c.1, List.take (bTn c.2.1) (bT c.2.1), List.take (bSn c.2.2.1) (List.set (bS c.2.2.1) (bI b c.2.2.1) ((bG b c.2.2.1).1, (bG b c.2.2.1).2.1, (bG b c.2.2.1).2.2.1, (bG b c.2.2.1).2.2.2.1, (bG b c.2.2.1).2.2.2.2.1, b.2.2.1, (bG b c.2.2.1).2.2.2.2.2.2)), ()), ())))
 (.ite (wu8 (Int.tmod b.1 12 - 6) == (↑4 : Int))
 (.ok (((c.1, List.take (bTn c.2.1) (bT c.2.1), List.take (bSn c.2.2.1) (List.set (bS c.2.2.1) (bI b c.2.2.1) ((bG b c.2.2.1).1, (bG b c.2.2.1).2.1, (bG b c.2.2.1).2.2.1, (bG b c.2.2.1).2.2.2.1, b.2.2.1, (bG b c.2.2.1).2.2.2.2.2)), ()), ())))
 (.ite (wu8 (Int.tmod b.1 12 - 6) == (↑3 : Int))
 (.ok (((c.1, List.take (bTn c.2.1) (bT c.2.1), List.take (bSn c.2.2.1) (List.set (bS c.2.2.1) (bI b c.2.2.1) ((bG b c.2.2.1).1, (bG b c.2.2.1).2.1, (bG b c.2.2.1).2.2.1, b.2.2.1, (bG b c.2.2.1).2.2.2.2)), ()), ())))
 (.ite (wu8 (Int.tmod b.1 12 - 6) == (↑2 : Int))
 (.ok (((c.1, List.take (bTn c.2.1) (bT c.2.1), List.take (bSn c.2.2.1) (List.set (bS c.2.2.1) (bI b c.2.2.1) ((bG b c.2.2.1).1, (bG b c.2.2.1).2.1, b.2.2.1, (bG b c.2.2.1).2.2.2)), ()), ())))
 (.ite (wu8 (Int.tmod b.1 12 - 6) == (↑1 : Int))
 (.ok (((c.1, List.take (bTn c.2.1) (bT c.2.1), List.take (bSn c.2.2.1) (List.set (bS c.2.2.1) (bI b c.2.2.1) ((bG b c.2.2.1).1, b.2.2.1, (bG b c.2.2.1).2.2)), ()), ())))
 (.ite (wu8 (Int.tmod b.1 12 - 6) == (↑0 : Int))
 (.ok (((c.1, List.take (bTn c.2.1) (bT c.2.1), List.take (bSn c.2.2.1) (List.set (bS c.2.2.1) (bI b c.2.2.1) (b.2.2.1, (bG b c.2.2.1).2)), ()), ())))
 (.bad)))))))
 (.ok (((c.1, List.take (bTn c.2.1) (bT c.2.1), List.take (bSn c.2.2.1) (bS c.2.2.1), ()), ())))))))))
end
noncomputable section
abbrev BeT := Int × Int × Int × Unit
def al4 (x : BeT × CvT × Unit) : Option (CvT × Unit) := (alK x.1 x.2.1).toO
end
set_option maxRecDepth 100000
open Go Go.Vg Go.Proofs
noncomputable section
def aIL : LTab := []
def ai0 (d : Int × List Int × List vY × Bool × Bool × Unit) (b : List (Int × Int × Int × Unit)) : TT (List ua × Unit) :=
 .call (ajB ((d.1, d.2.1, d.2.2.1, d.2.2.2.1, d.2.2.2.2.1, ()), ())) aHE fun y =>
 .triv (asT Int 0 ≤ 0 ∧ 0 < (↑2 : Int)) zf <| .call (al4 (((List.headD b (0, 0, 0, ())).1, (List.headD b (0, 0, 0, ())).2.1, (List.headD b (0, 0, 0, ())).2.2.1, ()), (y.1.1, y.1.2.1, y.1.2.2.1, ()), ())) aHE fun y1 =>
 .triv (asT Int 0 ≤ 1 ∧ 1 < (↑2 : Int)) zf <| .call (al4 (((List.headD (List.tail b) (0, 0, 0, ())).1, (List.headD (List.tail b) (0, 0, 0, ())).2.1, (List.headD (List.tail b) (0, 0, 0, ())).2.2.1, ()), (y1.1.1, y1.1.2.1, y1.1.2.2.1, ()), ())) aHE fun y2 =>
 .ok (([((List.headD [(y.1.1, y.1.2.1, y.1.2.2.1, ()), (y1.1.1, y1.1.2.1, y1.1.2.2.1, ()), (y2.1.1, y2.1.2.1, y2.1.2.2.1, ())] (0, [], [], ())).1, (List.headD [(y.1.1, y.1.2.1, y.1.2.2.1, ()), (y1.1.1, y1.1.2.1, y1.1.2.2.1, ()), (y2.1.1, y2.1.2.1, y2.1.2.2.1, ())] (0, [], [], ())).2.1, (List.headD [(y.1.1, y.1.2.1, y.1.2.2.1, ()), (y1.1.1, y1.1.2.1, y1.1.2.2.1, ()), (y2.1.1, y2.1.2.1, y2.1.2.2.1, ())] (0, [], [], ())).2.2.1, ()), ((List.headD (List.tail [(y.1.1, y.1.2.1, y.1.2.2.1, ()), (y1.1.1, y1.1.2.1, y1.1.2.2.1, ()), (y2.1.1, y2.1.2.1, y2.1.2.2.1, ())]) (0, [], [], ())).1, (List.headD (List.tail [(y.1.1, y.1.2.1, y.1.2.2.1, ()), (y1.1.1, y1.1.2.1, y1.1.2.2.1, ()), (y2.1.1, y2.1.2.1, y2.1.2.2.1, ())]) (0, [], [], ())).2.1, (List.headD (List.tail [(y.1.1, y.1.2.1, y.1.2.2.1, ()), (y1.1.1, y1.1.2.1, y1.1.2.2.1, ()), (y2.1.1, y2.1.2.1, y2.1.2.2.1, ())]) (0, [], [], ())).2.2.1, ()), ((List.headD (List.tail (List.tail [(y.1.1, y.1.2.1, y.1.2.2.1, ()), (y1.1.1, y1.1.2.1, y1.1.2.2.1, ()), (y2.1.1, y2.1.2.1, y2.1.2.2.1, ())])) (0, [], [], ())).1, (List.headD (List.tail (List.tail [(y.1.1, y.1.2.1, y.1.2.2.1, ()), (y1.1.1, y1.1.2.1, y1.1.2.2.1, ()), (y2.1.1, y2.1.2.1, y2.1.2.2.1, ())])) (0, [], [], ())).2.1, (List.headD (List.tail (List.tail [(y.1.1, y.1.2.1, y.1.2.2.1, ()), (y1.1.1, y1.1.2.1, y1.1.2.2.1, ()), (y2.1.1, y2.1.2.1, y2.1.2.2.1, ())])) (0, [], [], ())).2.2.1, ())], ()))
end
noncomputable section
def amY (x : DrT × List BeT × Unit) : Option (List CvT × Unit) := (ai0 x.1 x.2.1).toO
end
def smC (c : CvT) : Prop := c.2.1.length ≤ 100 ∧ c.2.2.1.length ≤ 100
def aNe (t : TT (CvT × Unit)) : Prop := ∃ c, t.toO = some (c, ()) ∧ smC c
theorem ag3 {p : Prop} {x : TT (CvT × Unit)} (h : p) (k : aNe x) : aNe (.need p x) := by
 obtain ⟨c, e, s⟩ := k; exact ⟨c, uN h e, s⟩
theorem avK {p : Prop} {h : p} {x : TT (CvT × Unit)} (k : aNe x) : aNe (.triv p h x) := k
theorem ahS {b : Bool} {x y : TT (CvT × Unit)} (h1 : b = true → aNe x) (h2 : b = false → aNe y) : aNe (.ite b x y) := by
 cases b with
 | true => obtain ⟨c, e, s⟩ := h1 rfl; exact ⟨c, uT rfl e, s⟩
 | false => obtain ⟨c, e, s⟩ := h2 rfl; exact ⟨c, uF rfl e, s⟩
theorem atT {c : CvT} (h : smC c) : aNe (.ok (c, ())) := ⟨c, rfl, h⟩
theorem aKS {ι : Type} {t : Nat} {H : TT ι} {R : ι → TT (ι ⊕ (CvT × Unit))} (i : ι) (h : H.toO = some i) (k : ∃ a, acW (fun i => (R i).toO) i = some a ∧ smC a.1) : aNe (.loop t H R) := by
 obtain ⟨⟨c, u⟩, e, s⟩ := k; exact ⟨c, uO i h e, s⟩
theorem aRf (l : List Int) : (bT l).length = bTn l ∧ bTn l ≤ 20 := by
 have : (List.take (Int.toNat (if 20 < len l then 20 else len l)) l).length ≤ 20 := by
  rw [zK, aaB]; split <;> omega
 exact ⟨by simp, by show 0 + _ ≤ 20; omega⟩
theorem aRg (l : List adS) : (bS l).length = bSn l ∧ bSn l ≤ 8 := by
 have : (List.take (Int.toNat (if 8 < len l then 8 else len l)) l).length ≤ 8 := by
  rw [zK, aaB]; split <;> omega
 exact ⟨by simp, by show 0 + _ ≤ 8; omega⟩
theorem aLF {n : Nat} (k : Int) (hk : 0 ≤ k) : inc (if k < (n : Int) then k else (n : Int)) (n : Int) := by
 unfold inc; split <;> omega
theorem aMH (b : BeT) (c : CvT) (h1 : inR b.1 0 255) (h2 : inR b.2.1 0 255) : ∃ c', al4 (b, c, ()) = some (c', ()) ∧ smC c' := by
 show aNe (alK b c)
 obtain ⟨a1, a2⟩ := h1
 obtain ⟨b1, b2⟩ := h2
 obtain ⟨t1, t2⟩ := aRf c.2.1
 obtain ⟨s1, s2⟩ := aRg c.2.2.1
 have w1 : w64 b.2.1 = b.2.1 := aaA zc
 have m3 : Int.tmod b.2.1 3 = b.2.1 % 3 := zE b1
 have m2 : Int.tmod b.2.1 2 = b.2.1 % 2 := zE b1
 have m12 : Int.tmod b.1 12 = b.1 % 12 := zE a1
 unfold alK
 refine avK (avK (ag3 (by rw [aaB]; exact aLF 20 zc) (ag3 zc (ag3 (by rw [aaB]; exact aLF 8 zc) (ag3 zc (avK ?_))))))
 refine ahS (fun _ => atT ?_) fun e0 => ahS (fun _ => ahS (fun g => ag3 ?_ (ag3 ?_ (atT ?_))) fun _ => atT ?_) fun e1 => ahS (fun _ => aKS (bT c.2.1, ()) ?_ ?_) fun e2 => ahS (fun _ => avK (ag3 ?_ (atT ?_))) fun e3 => ahS (fun _ => ag3 ?_ (atT ?_)) fun e4 => ahS (fun _ => aKS (List.take (bSn c.2.2.1) (bS c.2.2.1), ()) rfl ?_) fun e5 => ahS (fun g => ag3 ?_ (ag3 ?_ (avK (ag3 ?_ ?_)))) fun _ => atT ?_
 ·unfold smC; dsimp only; simp only [zK]; omega
 ·have := of_decide_eq_true g; omega
 ·have := of_decide_eq_true g
  rw [w1]
  exact ⟨xN _ b1, Int.tmod_lt_of_pos _ zc⟩
 ·unfold smC; dsimp only; simp only [zK, yX]; omega
 ·unfold smC; dsimp only; simp only [zK]; omega
 ·refine uV (uB (uV (uN ?_ rfl)))
  refine ⟨⟨rfl, rfl⟩, rfl, ⟨rfl, rfl⟩, rfl, ⟨rfl, rfl, trivial, trivial, trivial⟩, rfl, ⟨rfl, rfl, ⟨rfl, rfl, t1.symm, rfl⟩, ⟨rfl, rfl, rfl, rfl⟩, trivial⟩, rfl, ⟨rfl, rfl, rfl, rfl, trivial⟩, rfl, trivial⟩
 ·refine acM (fun i : List Int × Unit => i.1.length ≤ 100) (fun i => 100 - i.1.length) (fun a : CvT × Unit => smC a.1) ?_ _ zk
  rintro ⟨l, u⟩ hl
  dsimp only at hl
  unfold az4
  have hc : w64 (16 + Int.tmod (w64 b.2.1) 3) = 16 + b.2.1 % 3 := by rw [w1, m3, aaA zc]
  by_cases g : len l < w64 (16 + Int.tmod (w64 b.2.1) 3)
  ·left
   have g' := g
   rw [aaB, hc] at g
   refine ⟨(l ++ [w64 (7 * len l)], ()), ?_, by dsimp only; simp only [zJ, zG, yO]; omega, by dsimp only; simp only [zJ, zG, yO]; omega⟩
   refine uV (uT (zo g') (uN zk (uB (uV (uN ?_ ?_)))))
   ·refine ⟨⟨rfl, rfl⟩, rfl, ⟨rfl, rfl⟩, rfl, ⟨rfl, rfl, trivial, trivial, trivial⟩, rfl, ⟨rfl, rfl, ⟨rfl, rfl, ?_, rfl⟩, ⟨rfl, rfl, rfl, rfl⟩, trivial⟩, rfl, ⟨rfl, rfl, rfl, rfl, trivial⟩, rfl, trivial⟩
    simp
   ·show some (Sum.inl (List.take l.length l ++ [w64 (7 * len l)], ())) = _
    rw [zt]
  ·right
   refine ⟨_, uV (uF (zn g) rfl), ?_⟩
   unfold smC; dsimp only; simp only [zK]; omega
 ·rw [w1, m3]; exact aLF _ zc
 ·unfold smC; dsimp only; simp only [zK]; omega
 ·omega
 ·unfold smC; dsimp only; simp only [zK, zJ, zG, yO]; omega
 ·refine acM (fun i : List adS × Unit => i.1.length ≤ 100) (fun i => 100 - i.1.length) (fun a : CvT × Unit => smC a.1) ?_ _ (by dsimp only; simp only [zK]; omega)
  rintro ⟨l, u⟩ hl
  dsimp only at hl
  unfold az3
  have hc : w64 (4 + Int.tmod (w64 b.2.1) 2) = 4 + b.2.1 % 2 := by rw [w1, m2, aaA zc]
  by_cases g : len l < w64 (4 + Int.tmod (w64 b.2.1) 2)
  ·left
   have g' := g
   rw [aaB, hc] at g
   refine ⟨(List.take (1 + l.length) ([(w64 (1 + len l), 0, 0, 1, 1, 0, ())] ++ l), ()), ?_, by dsimp only; simp only [zK, zJ, zG, yO]; omega, by dsimp only; simp only [zK, zJ, zG, yO]; omega⟩
   exact uV (uT (zo g') (uN zk (uB (uV (uV rfl)))))
  ·right
   refine ⟨_, uV (uF (zn g) rfl), ?_⟩
   unfold smC; dsimp only; simp only [zK]; omega
 ·have := of_decide_eq_true g; omega
 ·have := of_decide_eq_true g
  rw [w1]
  exact ⟨xN _ b1, Int.tmod_lt_of_pos _ zc⟩
 ·rw [m12] at e0 e1 e2 e3 e4 e5 ⊢
  simp only [beq_eq_false_iff_ne, ne_eq] at e0 e1 e2 e3 e4 e5
  rw [abJ zc]
  exact ⟨by omega, by show b.1 % 12 - 6 < 6; omega⟩
 ·rw [m12] at e0 e1 e2 e3 e4 e5 ⊢
  simp only [beq_eq_false_iff_ne, ne_eq] at e0 e1 e2 e3 e4 e5
  rw [abJ zc]
  have hz : ∀ x : adS, smC (c.1, List.take (bTn c.2.1) (bT c.2.1), List.take (bSn c.2.2.1) (List.set (bS c.2.2.1) (bI b c.2.2.1) x), ()) := by
   intro x; unfold smC; dsimp only; simp only [zK, yX]; omega
  refine ahS (fun _ => atT (hz _)) fun f5 => ahS (fun _ => atT (hz _)) fun f4 => ahS (fun _ => atT (hz _)) fun f3 => ahS (fun _ => atT (hz _)) fun f2 => ahS (fun _ => atT (hz _)) fun f1 => ahS (fun _ => atT (hz _)) fun f0 => ?_
  simp only [beq_eq_false_iff_ne, ne_eq] at f0 f1 f2 f3 f4 f5
  exfalso
  have g0 : ¬ b.1 % 12 - 6 = 0 := f0
  have g1 : ¬ b.1 % 12 - 6 = 1 := f1
  have g2 : ¬ b.1 % 12 - 6 = 2 := f2
  have g3 : ¬ b.1 % 12 - 6 = 3 := f3
  have g4 : ¬ b.1 % 12 - 6 = 4 := f4
  have g5 : ¬ b.1 % 12 - 6 = 5 := f5
  omega
 ·unfold smC; dsimp only; simp only [zK]; omega
theorem aNw (d : DrT) (hd : aQC d) (b : List BeT) (hl : b.length = 2) (hb : ∀ x ∈ b, inR x.1 0 255 ∧ inR x.2.1 0 255) :
  ∃ c0 c1 c2 : CvT, amY (d, b, ()) = some ([c0, c1, c2], ()) ∧ shC c0 ∧ shC c1 ∧ shC c2 := by
 obtain ⟨p, q, rfl⟩ : ∃ p q, b = [p, q] := by
  match b, hl with
  | [p, q], _ => exact ⟨p, q, rfl⟩
 obtain ⟨c0, h0, r0⟩ := aO3 d hd
 obtain ⟨p1, p2⟩ := hb p zi
 obtain ⟨q1, q2⟩ := hb q zi
 obtain ⟨c1, h1, r1⟩ := aMH p c0 p1 p2
 obtain ⟨c2, h2, r2⟩ := aMH q c1 q1 q2
 have sh : ∀ c, smC c → shC c := fun c h => ⟨by have := h.1; omega, by have := h.2; omega⟩
 refine ⟨c0, c1, c2, ?_, aKr r0, sh _ r1, sh _ r2⟩
 show (ai0 d [p, q]).toO = _
 unfold ai0
 exact uC _ h0 (uV (uC _ h1 (uV (uC _ h2 rfl))))
theorem aFC (b : BeT) (c : CvT) (y) (h : al4 (b, c, ()) = some y) : (alK b c).toO = some y := h
theorem aDu (d : DrT) (b : List BeT) (y) (h : amY (d, b, ()) = some y) : (ai0 d b).toO = some y := h
noncomputable section
def akP (_ : CvT × DrT × List BeT × Unit) : Option (Bool × Unit) := some (true, ())
end
set_option maxRecDepth 100000
open Go Go.Vg Go.Proofs
noncomputable section
abbrev CvU := Int × List Int × List (Int × Int × Int × Int × Int × Int × Unit) × Unit
abbrev kA (t : List CvU) (c : CvU) : List CvU := [((List.headD t (0, [], [], ())).1, (List.headD t (0, [], [], ())).2.1, (List.headD t (0, [], [], ())).2.2.1, ()), ((List.headD (List.tail t) (0, [], [], ())).1, (List.headD (List.tail t) (0, [], [], ())).2.1, (List.headD (List.tail t) (0, [], [], ())).2.2.1, ()), ((List.headD (List.tail (List.tail t)) (0, [], [], ())).1, (List.headD (List.tail (List.tail t)) (0, [], [], ())).2.1, (List.headD (List.tail (List.tail t)) (0, [], [], ())).2.2.1, ()), (c.1, c.2.1, c.2.2.1, ())]
abbrev kB (t : List CvU) (c : CvU) : List CvU := [((List.headD (kA t c) (0, [], [], ())).1, (List.headD (kA t c) (0, [], [], ())).2.1, (List.headD (kA t c) (0, [], [], ())).2.2.1, ()), ((List.headD (List.tail (kA t c)) (0, [], [], ())).1, (List.headD (List.tail (kA t c)) (0, [], [], ())).2.1, (List.headD (List.tail (kA t c)) (0, [], [], ())).2.2.1, ()), ((List.headD (List.tail (List.tail (kA t c))) (0, [], [], ())).1, (List.headD (List.tail (List.tail (kA t c))) (0, [], [], ())).2.1, (List.headD (List.tail (List.tail (kA t c))) (0, [], [], ())).2.2.1, ()), ((List.headD (List.tail (List.tail (List.tail (kA t c)))) (0, [], [], ())).1, (List.headD (List.tail (List.tail (List.tail (kA t c)))) (0, [], [], ())).2.1, (List.headD (List.tail (List.tail (List.tail (kA t c)))) (0, [], [], ())).2.2.1, ())]
abbrev kC (t : List CvU) (c : CvU) (i : Int) : CvU := gi (kB t c) i (0, [], [], ())
abbrev kT (t : List CvU) (c : CvU) : Prop := Qq (78 : TypeId) ∧ Qq ((List.headD (kA t c) (0, [], [], ())).1 : Int) ∧ Qq ((List.headD (kA t c) (0, [], [], ())).2.1 : List Int) ∧ Qq ((List.headD (kA t c) (0, [], [], ())).2.2.1 : List (Int × Int × Int × Int × Int × Int × Unit)) ∧ Qq ((List.headD (List.tail (kA t c)) (0, [], [], ())).1 : Int) ∧ Qq ((List.headD (List.tail (kA t c)) (0, [], [], ())).2.1 : List Int) ∧ Qq ((List.headD (List.tail (kA t c)) (0, [], [], ())).2.2.1 : List (Int × Int × Int × Int × Int × Int × Unit)) ∧ Qq ((List.headD (List.tail (List.tail (kA t c))) (0, [], [], ())).1 : Int) ∧ Qq ((List.headD (List.tail (List.tail (kA t c))) (0, [], [], ())).2.1 : List Int) ∧ Qq ((List.headD (List.tail (List.tail (kA t c))) (0, [], [], ())).2.2.1 : List (Int × Int × Int × Int × Int × Int × Unit)) ∧ Qq ((List.headD (List.tail (List.tail (List.tail (kA t c)))) (0, [], [], ())).1 : Int) ∧ Qq ((List.headD (List.tail (List.tail (List.tail (kA t c)))) (0, [], [], ())).2.1 : List Int) ∧ Qq ((List.headD (List.tail (List.tail (List.tail (kA t c)))) (0, [], [], ())).2.2.1 : List (Int × Int × Int × Int × Int × Int × Unit)) ∧ True
def aCk : LTab := [(9, 250, 22528, ⟨0, (Int) × Unit, .dat (.s 32) vZ <| .nil, [31, 8], [19], 0⟩), (9, 64103, 39936, ⟨1, Unit, .nil, [10, 32, 31, 8], [24, 19], 0⟩), (9, 512830, 41984, ⟨2, (Int) × Unit, .dat (.s 68) vZ <| .nil, [67, 10, 32, 31, 8], [24, 19], 0⟩)]
def anL (raw : Int × List Int × List vY × Unit) (d : Int × List Int × List vY × Bool × Bool × Unit) (b : List (Int × Int × Int × Unit)) (y : Bool × Unit) (y1 : List ua × Unit) (y2 : ua × Unit) (i : Int × Unit) (y3 : Int × Int × Unit) (y4 : Int × Int × Unit) (j : Unit) (i1 : (Int) × Unit) : TT (uq ⊕ uZ) :=
 .ite (decide (i1.1 < 4))
 (.need (inb i1.1 (↑4 : Int)) <| .call (aqH (((kC y1.1 y2.1 i.1).1, (kC y1.1 y2.1 i.1).2.1, (kC y1.1 y2.1 i.1).2.2.1, ()), ((kC y1.1 y2.1 i1.1).1, (kC y1.1 y2.1 i1.1).2.1, (kC y1.1 y2.1 i1.1).2.2.1, ()), ())) Dd1 fun y9 =>
 .call (al3 (((kC y1.1 y2.1 i.1).1, (kC y1.1 y2.1 i.1).2.1, (kC y1.1 y2.1 i.1).2.2.1, ()), ((kC y1.1 y2.1 i1.1).1, (kC y1.1 y2.1 i1.1).2.1, (kC y1.1 y2.1 i1.1).2.2.1, ()), ())) Dd1 fun y10 =>
 .ite (!y9.1 == y10.1)
 (.ok (.inr (.inr ((false, ())))))
 (.tt <| .lt (w64 (i1.1 + 1) : Int) fun z => .vI (vP z ((kB y1.1 y2.1) : List ua) <| (vW 24 0 true) ∧ (vP i.1 ((kB y1.1 y2.1) : List ua) <| tQ ∧ True)) <| .vI (vH (vK 42 ((kC y1.1 y2.1 i.1).1 : Int) ((kC y1.1 y2.1 i.1).2.1 : List Int) ((kC y1.1 y2.1 i.1).2.2.1 : List vY)) <| vH (kT y1.1 y2.1) True) <| .ok (.inl ((z, ())))))
 (.tt <| .lt (w64 (i.1 + 1) : Int) fun z1 => .vI (vP z1 ((kB y1.1 y2.1) : List ua) <| tQ ∧ True) <| .vI (vH (kT y1.1 y2.1) True) <| .ok (.inr (.inl ((z1, ())))))
def anM (raw : Int × List Int × List vY × Unit) (d : Int × List Int × List vY × Bool × Bool × Unit) (b : List (Int × Int × Int × Unit)) (y : Bool × Unit) (y1 : List ua × Unit) (y2 : ua × Unit) (i : Int × Unit) (y3 : Int × Int × Unit) (y4 : Int × Int × Unit) (j : Unit) : TT uZ :=
 .loop 2 (.tt <| .vI (vP (0 : Int) ((kB y1.1 y2.1) : List ua) <| (vW 24 0 true) ∧ (vP i.1 ((kB y1.1 y2.1) : List ua) <| tQ ∧ True)) <| .vI (vH (vK 42 ((kC y1.1 y2.1 i.1).1 : Int) ((kC y1.1 y2.1 i.1).2.1 : List Int) ((kC y1.1 y2.1 i.1).2.2.1 : List vY)) <| vH (kT y1.1 y2.1) True) <| .ok ((0, ()))) (anL raw d b y y1 y2 i y3 y4 j)
def anN (raw : Int × List Int × List vY × Unit) (d : Int × List Int × List vY × Bool × Bool × Unit) (b : List (Int × Int × Int × Unit)) (y : Bool × Unit) (y1 : List ua × Unit) (y2 : ua × Unit) (i : (Int) × Unit) : TT uZ :=
 .ite (decide (i.1 < 4))
 (.need (inb i.1 (↑4 : Int)) <| .call (agJ (((kC y1.1 y2.1 i.1).1, (kC y1.1 y2.1 i.1).2.1, (kC y1.1 y2.1 i.1).2.2.1, ()), ())) aCj fun y3 =>
 .call (ai9 (((kC y1.1 y2.1 i.1).1, (kC y1.1 y2.1 i.1).2.1, (kC y1.1 y2.1 i.1).2.2.1, ()), ())) aCj fun y4 =>
 .join 1 (ι := Unit) (.call (ac8 (((kC y1.1 y2.1 i.1).1, (kC y1.1 y2.1 i.1).2.1, (kC y1.1 y2.1 i.1).2.2.1, ()), ())) Dd6 fun y5 =>
 .call (ajC (((kC y1.1 y2.1 i.1).1, (kC y1.1 y2.1 i.1).2.1, (kC y1.1 y2.1 i.1).2.2.1, ()), ())) Dd6 fun y6 =>
 .ite (y5.1 != y6.1)
 (.ok (.inr (.inr ((false, ())))))
 (.call (al7 (((kC y1.1 y2.1 i.1).1, (kC y1.1 y2.1 i.1).2.1, (kC y1.1 y2.1 i.1).2.2.1, ()), ())) Dd1 fun y7 =>
 .call (ajA (((kC y1.1 y2.1 i.1).1, (kC y1.1 y2.1 i.1).2.1, (kC y1.1 y2.1 i.1).2.2.1, ()), ())) Dd1 fun y8 =>
 .ite (!y7.1 == y8.1)
 (.ok (.inr (.inr ((false, ())))))
 (.ite (y3.1 != y4.1)
 (.ok (.inr (.inr ((false, ())))))
 (.ite (y3.2.1 != y4.2.1)
 (.ok (.inr (.inr ((false, ())))))
 (.tt <| .vI ((vW 24 0 true) ∧ (vP i.1 ((kB y1.1 y2.1) : List ua) <| tQ ∧ True)) <| .vI (vH (vK 42 ((kC y1.1 y2.1 i.1).1 : Int) ((kC y1.1 y2.1 i.1).2.1 : List Int) ((kC y1.1 y2.1 i.1).2.2.1 : List vY)) <| vH (kT y1.1 y2.1) True) <| .ok (.inl (()))))))) (anM raw d b y y1 y2 i y3 y4))
 (.ok (.inr ((true, ()))))
def akQ (raw : Int × List Int × List vY × Unit) (d : Int × List Int × List vY × Bool × Bool × Unit) (b : List (Int × Int × Int × Unit)) : TT uk :=
 .call (asH ()) Dd1 fun y =>
 .ite (!y.1)
 (.ok ((false, ())))
 (.call (amY ((d.1, d.2.1, d.2.2.1, d.2.2.2.1, d.2.2.2.2.1, ()), [((List.headD b (0, 0, 0, ())).1, (List.headD b (0, 0, 0, ())).2.1, (List.headD b (0, 0, 0, ())).2.2.1, ()), ((List.headD (List.tail b) (0, 0, 0, ())).1, (List.headD (List.tail b) (0, 0, 0, ())).2.1, (List.headD (List.tail b) (0, 0, 0, ())).2.2.1, ())], ())) aRZ fun y1 =>
 .triv (asT Int 0 ≤ 0 ∧ 0 < (↑3 : Int)) zf <| .triv (asT Int 0 ≤ 1 ∧ 1 < (↑3 : Int)) zf <| .triv (asT Int 0 ≤ 2 ∧ 2 < (↑3 : Int)) zf <| .call (akM ((raw.1, raw.2.1, raw.2.2.1, ()), ())) aHE fun y2 =>
 .loop 0 (.tt <| .vI (vP (0 : Int) ((kB y1.1 y2.1) : List ua) <| tQ ∧ True) <| .vI (vH (kT y1.1 y2.1) True) <| .ok ((0, ()))) (anN raw d b y y1 y2))
end
theorem anB {k : IntKind} {x a b : Int} (h : k.min ≤ x ∧ x ≤ k.max) (ha : k.min = a := by rfl) (hb : k.max = b := by rfl) : inR x a b := by subst ha; subst hb; exact h
def aRP (b : List BeT) : Prop := b.length = 2 ∧ ∀ x ∈ b, inR x.1 0 255 ∧ inR x.2.1 0 255
theorem aMp (c : CvT) : ∃ c', akM (c, ()) = some (c', ()) ∧ smC c' := by
 refine ⟨_, rfl, ?_⟩
 unfold smC; dsimp only; simp only [zK]; omega
theorem aJY {x : CvT × DrT × List BeT × Unit} (h : Wf (.pair (.pair (.int .i64) (.pair (.sl (.int .i64)) (.pair (.sl (.pair (.int .i64) (.pair (.int .i64) (.pair (.int .i64) (.pair (.int .i64) (.pair (.int .i64) (.pair (.int .i64) .unit))))))) .unit))) (.pair (.pair (.int .u8) (.pair (.sl (.int .u16)) (.pair (.sl (.pair (.int .u8) (.pair (.int .i16) (.pair (.int .i16) (.pair (.int .i16) (.pair (.int .u8) (.pair (.int .u8) .unit))))))) (.pair .bool (.pair .bool .unit))))) (.pair (.arr 2 (.pair (.int .u8) (.pair (.int .u8) (.pair (.int .i64) .unit)))) .unit))) x) :
  aQC x.2.1 ∧ aRP x.2.2.1 := by
 obtain ⟨-, ⟨h1, ⟨-, h2⟩, ⟨-, h3⟩, -⟩, ⟨h4, h5⟩, -⟩ := h
 refine ⟨⟨anB h1, fun v hv => anB (h2 v hv), fun s hs => ?_⟩, h4, fun v hv => ?_⟩
 ·obtain ⟨a1, a2, a3, a4, a5, a6, -⟩ := h3 s hs
  exact ⟨anB a1, anB a2, anB a3, anB a4, anB a5, anB a6⟩
 ·obtain ⟨a1, a2, -⟩ := h5 v hv
  exact ⟨anB a1, anB a2⟩
theorem aQb {α : Type} {p : α → Prop} {a b c e d : α} (h1 : p a) (h2 : p b) (h3 : p c) (h4 : p e) {i : Int} (h : 0 ≤ i) (g : i < 4) : p (gi [a, b, c, e] i d) := by
 obtain ⟨k, rfl⟩ : ∃ k : Nat, i = k := ⟨i.toNat, by omega⟩
 rw [aaM]
 match k, g with
 | 0, _ => exact h1
 | 1, _ => exact h2
 | 2, _ => exact h3
 | 3, _ => exact h4
theorem ax3 (raw : CvT) (d : DrT) (b : List BeT) (hp : aQC d ∧ aRP b) (y) (h : akP (raw, d, b, ()) = some y) : (akQ raw d b).toO = some y := by
 injection h with h
 subst h
 obtain ⟨hd, hl, hb⟩ := hp
 obtain ⟨c0, c1, c2, h3, s0, s1, s2⟩ := aNw d hd b hl hb
 obtain ⟨cc, h4, s3⟩ := aMp raw
 have s3 : shC cc := ⟨by have := s3.1; omega, by have := s3.2; omega⟩
 obtain ⟨p, q, rfl⟩ : ∃ p q, b = [p, q] := by
  match b, hl with
  | [p, q], _ => exact ⟨p, q, rfl⟩
 unfold akQ
 refine uC (true, ()) rfl (uF rfl (uC ([c0, c1, c2], ()) h3 (uV (uV (uV (uC (cc, ()) h4 (uO (0, ()) rfl ?_)))))))
 refine aaL (fun i : Int × Unit => 0 ≤ i.1 ∧ i.1 ≤ 4) (fun i => (4 - i.1).toNat) (fun _ => (true, ())) ?_ _ ⟨by decide, by decide⟩
 rintro ⟨i, u⟩ ⟨i1, i2⟩
 dsimp only at i1 i2
 unfold anN
 by_cases g : i < 4
 ·left
  refine ⟨(i + 1, ()), ?_, ⟨by dsimp only; omega, by dsimp only; omega⟩, by dsimp only; omega, rfl⟩
  have hs : shC (kC [c0, c1, c2] cc i) := aQb s0 s1 s2 s3 i1 g
  obtain ⟨r1, e1⟩ : ∃ r, agJ (kC [c0, c1, c2] cc i, ()) = some r := ⟨_, rfl⟩
  obtain ⟨r2, e2⟩ : ∃ r, ac8 (kC [c0, c1, c2] cc i, ()) = some r := ⟨_, rfl⟩
  obtain ⟨r3, e3⟩ : ∃ r, al7 (kC [c0, c1, c2] cc i, ()) = some r := ⟨_, rfl⟩
  have f1 : ai9 (kC [c0, c1, c2] cc i, ()) = some r1 := (if_pos hs).trans e1
  have f2 : ajC (kC [c0, c1, c2] cc i, ()) = some r2 := (if_pos hs).trans e2
  have f3 : ajA (kC [c0, c1, c2] cc i, ()) = some r3 := (if_pos hs).trans e3
  refine uT (zo g) (uN ⟨i1, g⟩ (uC r1 e1 (uC r1 f1 (uL () ?_ ?_))))
  ·refine uC r2 e2 (uC r2 f2 (uF zi (uC r3 e3 (uC r3 f3 ?_))))
   exact uF zi (uF zi (uF zi (uV (uV (uV rfl)))))
  unfold anM
  refine uO (0, ()) rfl ?_
  refine aaL (fun j : Int × Unit => 0 ≤ j.1 ∧ j.1 ≤ 4) (fun j => (4 - j.1).toNat) (fun _ => Sum.inl (i + 1, ())) ?_ _ ⟨by decide, by decide⟩
  rintro ⟨j, v⟩ ⟨j1, j2⟩
  dsimp only at j1 j2
  unfold anL
  by_cases k : j < 4
  ·left
   refine ⟨(j + 1, ()), ?_, ⟨by dsimp only; omega, by dsimp only; omega⟩, by dsimp only; omega, rfl⟩
   obtain ⟨r, er⟩ : ∃ r, aqH (kC [c0, c1, c2] cc i, kC [c0, c1, c2] cc j, ()) = some r := ⟨_, if_pos hs⟩
   have fr : al3 (kC [c0, c1, c2] cc i, kC [c0, c1, c2] cc j, ()) = some r := (if_pos hs).trans ((if_pos hs).symm.trans er)
   refine uT (zo k) (uN ⟨j1, k⟩ (uC r er (uC r fr (uF zi (uV (uB (uV (uV ?_))))))))
   show some (Sum.inl (w64 (j + 1), ())) = _
   rw [aaA zc]
  ·right
   refine uF (zn k) (uV (uB (uV (uV ?_))))
   show some (Sum.inr (Sum.inl (w64 (i + 1), ()))) = _
   rw [aaA zc]
 ·right
  exact uF (zn g) rfl
set_option maxRecDepth 100000
open Go Go.Vg Go.Proofs
noncomputable section
def aJU : LTab := []
def aJV : LTab := [(233, 12, 1025, ⟨0, (List Int) × Unit, .dat (.s 0) uI <| .nil, [2], [], 0⟩)]
def aCs : LTab := [(266, 58, 10240, ⟨0, (Int) × Unit, .dat (.s 5) vZ <| .nil, [0, 1], [], 0⟩)]
def aJX : LTab := [(248, 3, 1025, ⟨0, (List Int) × (List Int) × Unit, .dat (.s 0) uI <| .dat (.s 1) uI <| .nil, [4], [], 0⟩), (248, 250, 10241, ⟨1, (Int) × (Int) × (List Int) × Unit, .dat (.s 22) vZ <| .dat (.s 6) ud <| .app (.s 5) 10 189 ud <| .nil, [21, 20, 1, 4], [], 1⟩)]
def aHO : LTab := [(249, 122, 9217, ⟨0, (Int) × (Int) × (List Int) × Unit, .dat (.s 15) vZ <| .dat (.s 6) ud <| .row 3 ud <| .nil, [14, 13, 5, 4, 1], [3], 0⟩)]
def aHL : LTab := [(257, 58, 11265, ⟨0, (Int) × (List Int) × Unit, .dat (.s 19) vZ <| .row 6 ud <| .nil, [18, 17, 5, 4, 1], [6], 0⟩), (257, 59802, 21505, ⟨1, (Int) × (Int) × (List Int) × Unit, .dat (.s 26) vZ <| .dat (.s 8) uw <| .row 6 ud <| .nil, [25, 24, 7, 6, 23, 22, 21, 20, 19, 18, 17, 5, 4, 1], [6], 0⟩)]
def aHM : LTab := [(267, 122, 11265, ⟨0, (Int) × (Int) × (List Int) × Unit, .dat (.s 8) vZ <| .dat (.s 7) uw <| .row 4 ud <| .nil, [6, 5, 4, 0, 1], [4], 0⟩)]
def aAI : LTab := [(268, 28, 2050, ⟨0, Bool × (List Int) × (Int) × Unit, .appN (.s 3) 2 189 ud <| .dat (.s 0) uw <| .nil, [2], [], 1⟩)]
def aHR : LTab := [(205, 218, 5122, ⟨0, (Int) × Bool × (List Int) × Unit, .dat (.s 4) vZ <| .appN (.s 3) 5 189 ud <| .nil, [2, 0], [], 1⟩), (205, 55834, 13314, ⟨1, (Int) × (Int) × Unit, .dat (.s 7) vZ <| .dat (.s 6) ud <| .nil, [15, 5, 14, 13, 12, 3, 4, 2, 0], [], 0⟩), (205, 55834, 13313, ⟨2, (Int) × (Int) × Unit, .dat (.s 7) vZ <| .dat (.s 6) ud <| .nil, [15, 5, 14, 13, 12, 3, 4, 2, 0], [5], 0⟩)]
def aEA : LTab := []
end
end Go.Vs
