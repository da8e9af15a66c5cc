/-
  Trees of what the functions compute, and their laws. Own work; no condition.
-/
import Derived.Test.YtakjojajnblpoaaGreatDoorClL7
import Derived.Test.YtakjojajnblpoaaGreatDoorProg
set_option linter.unusedVariables false
set_option linter.unusedSimpArgs false
namespace Go.Vs
open Go Go.Vg
noncomputable section
abbrev DrT := Int × List Int × List afS × Bool × Bool × Unit
def aCc (l : List Int) : Prop := ∀ v ∈ l, inR v 0 65535
def aQS (d : DrT) : Prop := inR d.1 0 255 ∧ aCc d.2.1 ∧ ∀ s ∈ d.2.2.1, inR s.1 0 255 ∧ inR s.2.1 (-32768) 32767 ∧ inR s.2.2.1 (-32768) 32767 ∧ inR s.2.2.2.1 (-32768) 32767 ∧ inR s.2.2.2.2.1 0 255 ∧ inR s.2.2.2.2.2.1 0 255
def ahO (x : DrT × Unit) : Option (CvT × Unit) := (ajS x.1).toO
def afE (x : DrT × Unit) : Option (CvT × Unit) := (agS x.1).toO
end
set_option maxRecDepth 100000
open Go Go.Vg Go.Proofs
noncomputable section
def aHN : LTab := []
def amA (d : Int × List Int × List uh × Bool × Bool × Unit) : TT th :=
 .triv (asT Int 4 ≠ 0) zf <| .ite (Int.tmod d.1 4 == 0)
 (.ok (((1, [], [], ()), ())))
 (.ite (Int.tmod d.1 4 == 1)
 (.call (afE ((d.1, d.2.1, d.2.2.1, d.2.2.2.1, d.2.2.2.2.1, ()), ())) aM0 fun y =>
 .ok (((y.1.1, y.1.2.1, y.1.2.2.1, ()), ())))
 (.call (ahO ((d.1, d.2.1, d.2.2.1, d.2.2.2.1, d.2.2.2.2.1, ()), ())) aM0 fun y1 =>
 .ok (((y1.1.1, y1.1.2.1, y1.1.2.2.1, ()), ()))))
end
noncomputable section
def ajC (x : DrT × Unit) : Option (CvT × Unit) := (amA x.1).toO
end
theorem apP {l : List Int} (h : aCc l) (k : Nat) : 0 ≤ l.getD k 0 ∧ l.getD k 0 ≤ 65535 := by
 rw [yg]
 rcases zr k l.length with hk | hk
 ·rw [zO hk]; exact h _ (yp hk)
 ·rw [xR hk]; decide
theorem aBC {l : List Int} {v : Int} (h : aCc l) (hv : 0 ≤ v ∧ v ≤ 65535) : aCc (l ++ [v]) := by
 intro w hw
 rcases zJ.mp hw with hw | hw
 ·exact h w hw
 ·rw [yd.mp hw]; exact hv
theorem aOA {l : List Int} {v : Int} {k : Nat} (h : aCc l) (hv : 0 ≤ v ∧ v ≤ 65535) : aCc (l.set k v) := by
 intro w hw
 rcases List.mem_or_eq_of_mem_set hw with hw | hw
 ·exact h w hw
 ·rw [hw]; exact hv
theorem aL1 {l : List Int} {k : Nat} (h : aCc l) : aCc (l.take k) := fun w hw => h w (yZ hw)
theorem aKd {A : Type} {R : Int × Int × List Int × Unit → Option ((Int × Int × List Int × Unit) ⊕ (A ⊕ (CvT × Unit)))} (l : List Int) (hl : 2 ≤ l.length ∧ l.length ≤ 8) (he : aCc l)
  (hs : ∀ (k : Nat) (a : Int) (s : List Int), k < l.length → s.length = l.length → aCc s → 0 ≤ a → a ≤ 65535 → R ((k : Int), a, s, ()) = some (.inl (((k + 1 : Nat) : Int), a + 1 + Int.tmod (s.getD k 0) (Int.tdiv 65535 l.length), s.set k (a + Int.tmod (s.getD k 0) (Int.tdiv 65535 l.length)), ())))
  (hd : ∀ (a : Int) (s : List Int), s.length = l.length → R ((l.length : Int), a, s, ()) = some (.inr (.inr ((2, s.take l.length, [], ()), ())))) :
  ∃ t, acX R (0, 0, l, ()) = some (.inr ((2, t, [], ()), ())) ∧ adX t := by
 obtain ⟨n, hn⟩ : ∃ n : Nat, n = l.length := ⟨_, rfl⟩
 rw [← hn] at hl hs hd
 have hq : Int.tdiv 65535 (n : Int) = 65535 / (n : Int) := zH zc
 have hq1 : (n : Int) * (65535 / (n : Int)) ≤ 65535 := by have := vN 65535 (b := (n : Int)) zc; rw [yB]; omega
 have hq0 : 1 ≤ 65535 / (n : Int) := by
  rw [xd zc]; omega
 rw [hq] at hs
 obtain ⟨q, hqq⟩ : ∃ q : Int, q = 65535 / (n : Int) := ⟨_, rfl⟩
 rw [← hqq] at hs hq1 hq0
 suffices H : ∃ a, acX R (0, 0, l, ()) = some a ∧ ∃ t, a = .inr ((2, t, [], ()), ()) ∧ adX t by
  obtain ⟨a, h1, t, rfl, h2⟩ := H
  exact ⟨t, h1, h2⟩
 refine adL (R := R) (fun i => ∃ k : Nat, k ≤ n ∧ i.1 = (k : Int) ∧ 0 ≤ i.2.1 ∧ i.2.1 ≤ (k : Int) * q ∧ i.2.2.1.length = n ∧ aCc i.2.2.1) (fun i => ((n : Int) - i.1).toNat) (fun a => ∃ t, a = .inr ((2, t, [], ()), ()) ∧ adX t) ?_ (0, 0, l, ()) ⟨0, by omega, rfl, by simp, by simp, hn.symm, he⟩
 rintro ⟨i, a, s, u⟩ ⟨k, h1, h2, h3, h4, h5, h6⟩
 simp only at h2 h3 h4 h5 h6
 subst h2
 rcases zr k n with hk | hk
 ·left
  have hg := apP h6 k
  have hm : Int.tmod (s.getD k 0) q = s.getD k 0 % q := zE hg.1
  have m0 := yE (s.getD k 0) (b := q) zc
  have m1 := yr (s.getD k 0) (b := q) zc
  have hkn : ((k : Int) + 1) * q ≤ (n : Int) * q := zC zc zc
  have hk1 : ((k : Int) + 1) * q = (k : Int) * q + q := by rw [wF, vm]
  refine ⟨_, hs k a s hk h5 h6 h3 zc, ⟨k + 1, hk, rfl, ?_, ?_, ?_, ?_⟩, ?_⟩
  ·simp only [hm]; omega
  ·simp only [hm]; rw [wC]; show _ ≤ ((k : Int) + 1) * q; omega
  ·simp only [xi, h5]
  ·simp only [hm]; exact aOA h6 ⟨by omega, by omega⟩
  ·simp only; omega
 ·right
  obtain rfl : k = n := zc
  exact ⟨_, hd a s h5, s.take k, rfl, by rw [yo]; omega, by rw [yo]; omega, aL1 h6⟩
theorem s9 {p : Prop} (h : p := by first | omega | ((try simp only [aaC, inb, inc, ge_iff_le, gt_iff_lt, zp, asT, ne_eq, zP, yo, zI, xT, Nat.min_self, DTl]) <;> (first | omega | (refine ⟨?_, ?_⟩ <;> omega) | simp))) : p := h
theorem zb {α : Type} {x y : TT α} {r : Option α} (k : y.toO = r) (h : x.toO = y.toO := by first | exact uV rfl | exact uB rfl | exact uN s9 rfl) : x.toO = r := h.trans k
theorem aL5 (d : DrT) (j : Bool × List Int × Unit) (b : Bool) (l : List Int) (hl : 2 ≤ l.length ∧ l.length ≤ 8) (he : aCc l) :
  ∃ t, acX (fun i => (ahW d j (b, l, ()) i).toO) (0, 0, l, ()) = some (.inr ((2, t, [], ()), ())) ∧ adX t := by
 have hq : Int.tdiv 65535 (l.length : Int) = 65535 / (l.length : Int) := zH zc
 have hq0 : 1 ≤ 65535 / (l.length : Int) := by rw [xd zc]; omega
 have hq1 : 65535 / (l.length : Int) ≤ 65535 := Int.ediv_le_self _ zc
 refine aKd l hl he ?_ ?_
 ·intro k a s hk hs hes h0 h1
  have hg := apP hes k
  have hm : Int.tmod (s.getD k 0) (Int.tdiv 65535 (l.length : Int)) = s.getD k 0 % (65535 / (l.length : Int)) := by rw [hq]; exact zE hg.1
  have m0 := yE (s.getD k 0) (b := 65535 / (l.length : Int)) zc
  have m1 := yr (s.getD k 0) (b := 65535 / (l.length : Int)) zc
  have e1 : w64 (Int.tdiv 65535 (l.length : Int)) = Int.tdiv 65535 (l.length : Int) := aaA (by rw [hq]; omega)
  have e2 : w64 ((k : Int) + 1) = ((k + 1 : Nat) : Int) := by rw [aaA (x := (k : Int) + 1) zc]; omega
  have e3 : w64 (a + 1) = a + 1 := aaA zc
  have e4 : w64 (a + 1 + Int.tmod (s.getD k 0) (Int.tdiv 65535 (l.length : Int))) = a + 1 + Int.tmod (s.getD k 0) (Int.tdiv 65535 (l.length : Int)) := aaA (by rw [hm]; omega)
  have e5 : w64 (a + 1 + Int.tmod (s.getD k 0) (Int.tdiv 65535 (l.length : Int)) - 1) = a + Int.tmod (s.getD k 0) (Int.tdiv 65535 (l.length : Int)) := by rw [aaA (x := a + 1 + Int.tmod (s.getD k 0) (Int.tdiv 65535 (l.length : Int)) - 1) (by rw [hm]; omega)]; omega
  simp only [ahW, aaC, e1, e2, e3, zu, zp, e4, e5]
  refine uT (zo zc) ?_
  refine uN ⟨by omega, by omega⟩ ?_
  refine uN (by rw [hq]; omega) ?_
  refine uN ⟨by omega, by omega⟩ ?_
  refine uB (uB (uB ?_))
  repeat refine uV ?_
  simp only [aaK, e5]
 ·intro a s hs
  simp only [ahW, aaC]
  refine uF (zn zc) ?_
  rfl
theorem aL4 (d : DrT) (j : Bool × List Int × Unit) (l : List Int) (hl : 2 ≤ l.length ∧ l.length ≤ 8) (he : aCc l) :
  ∃ t, acX (fun i => (ahV d j (l, ()) i).toO) (0, 0, l, ()) = some (.inr ((2, t, [], ()), ())) ∧ adX t := by
 have hq : Int.tdiv 65535 (l.length : Int) = 65535 / (l.length : Int) := zH zc
 have hq0 : 1 ≤ 65535 / (l.length : Int) := by rw [xd zc]; omega
 have hq1 : 65535 / (l.length : Int) ≤ 65535 := Int.ediv_le_self _ zc
 refine aKd l hl he ?_ ?_
 ·intro k a s hk hs hes h0 h1
  have hg := apP hes k
  have hm : Int.tmod (s.getD k 0) (Int.tdiv 65535 (l.length : Int)) = s.getD k 0 % (65535 / (l.length : Int)) := by rw [hq]; exact zE hg.1
  have m0 := yE (s.getD k 0) (b := 65535 / (l.length : Int)) zc
  have m1 := yr (s.getD k 0) (b := 65535 / (l.length : Int)) zc
  have e1 : w64 (Int.tdiv 65535 (l.length : Int)) = Int.tdiv 65535 (l.length : Int) := aaA (by rw [hq]; omega)
  have e2 : w64 ((k : Int) + 1) = ((k + 1 : Nat) : Int) := by rw [aaA (x := (k : Int) + 1) zc]; omega
  have e3 : w64 (a + 1) = a + 1 := aaA zc
  have e4 : w64 (a + 1 + Int.tmod (s.getD k 0) (Int.tdiv 65535 (l.length : Int))) = a + 1 + Int.tmod (s.getD k 0) (Int.tdiv 65535 (l.length : Int)) := aaA (by rw [hm]; omega)
  have e5 : w64 (a + 1 + Int.tmod (s.getD k 0) (Int.tdiv 65535 (l.length : Int)) - 1) = a + Int.tmod (s.getD k 0) (Int.tdiv 65535 (l.length : Int)) := by rw [aaA (x := a + 1 + Int.tmod (s.getD k 0) (Int.tdiv 65535 (l.length : Int)) - 1) (by rw [hm]; omega)]; omega
  simp only [ahV, aaC, e1, e2, e3, zu, zp, e4, e5]
  refine uT (zo zc) ?_
  refine uN ⟨by omega, by omega⟩ ?_
  refine uN (by rw [hq]; omega) ?_
  refine uN ⟨by omega, by omega⟩ ?_
  refine uB (uB (uB ?_))
  repeat refine uV ?_
  simp only [aaK, e5]
 ·intro a s hs
  simp only [ahV, aaC]
  refine uF (zn zc) ?_
  rfl
theorem aL6 (d : DrT) (b : Bool) (l : List Int) (hl : l.length ≤ 8) (he : aCc l) (hb : b = true → l = []) :
  ∃ t, (ahX d (b, l, ())).toO = some ((2, t, [], ()), ()) ∧ adX t := by
 cases b
 ·suffices H : ∃ a, acX (fun i => (ak2 d (false, l, ()) i).toO) (l, ()) = some a ∧ ∃ t, a = ((2, t, [], ()), ()) ∧ adX t by
   obtain ⟨a, h1, t, rfl, h2⟩ := H
   refine ⟨t, ?_, h2⟩
   simp only [ahX]
   refine uF rfl ?_
   exact uO (l, ()) (uB rfl) h1
  refine adL (fun i => i.1.length ≤ 8 ∧ aCc i.1) (fun i => 2 - i.1.length) _ ?_ (l, ()) ⟨hl, he⟩
  rintro ⟨l, u⟩ ⟨h1, h2⟩
  simp only at h1 h2
  simp only [ak2, aaC, zt]
  rcases zr l.length 2 with hk | hk
  ·left
   have e1 : w64 (65535 * (l.length : Int)) = 65535 * (l.length : Int) := aaA zc
   refine ⟨(l ++ [65535 * (l.length : Int)], ()), ?_, ⟨by rw [zP]; simp only [zI, xT]; omega, aBC h2 zc⟩, by simp only [zP, zI, xT]; omega⟩
   refine uT (zo zc) ?_
   simp only [e1]
   repeat refine zb ?_
   rfl
  ·right
   rcases (xg d.2.2.2.2.1).symm with hd | hd
   ·refine ⟨_, uF (zn zc) (uF hd ?_), l, rfl, hk, by omega, h2⟩
    repeat refine zb ?_
    rfl
   ·obtain ⟨t, h3, h4⟩ := aL4 d (false, l, ()) l ⟨hk, h1⟩ h2
    refine ⟨_, uF (zn zc) (uT hd ?_), t, rfl, h4⟩
    repeat refine zb ?_
    refine uO (0, 0, l, ()) ?_ ?_
    ·repeat refine zb ?_
     rfl
    ·exact h3
 ·suffices H : ∃ a, acX (fun i => (ak3 d (true, l, ()) i).toO) (true, [], ()) = some a ∧ ∃ t, a = ((2, t, [], ()), ()) ∧ adX t by
   obtain ⟨a, h1, t, rfl, h2⟩ := H
   refine ⟨t, ?_, h2⟩
   simp only [ahX]
   refine uT rfl ?_
   exact uO (true, [], ()) rfl h1
  refine adL (fun i => i.2.1.length ≤ 8 ∧ aCc i.2.1 ∧ (i.1 = true → i.2.1 = [])) (fun i => 2 - i.2.1.length) _ ?_ (true, [], ()) ⟨by simp, (by intro v hv; cases hv), fun _ => rfl⟩
  rintro ⟨b, l, u⟩ ⟨h1, h2, h5⟩
  simp only at h1 h2 h5
  simp only [ak3, aaC, zt]
  cases b
  ·rcases zr l.length 2 with hk | hk
   ·left
    have e1 : w64 (65535 * (l.length : Int)) = 65535 * (l.length : Int) := aaA zc
    refine ⟨(false, l ++ [65535 * (l.length : Int)], ()), ?_, ⟨by rw [zP]; simp only [zI, xT]; omega, aBC h2 zc, by intro h; cases h⟩, by simp only [zP, zI, xT]; omega⟩
    refine uF rfl (uT (zo zc) ?_)
    simp only [e1]
    repeat refine zb ?_
    rfl
   ·right
    rcases (xg d.2.2.2.2.1).symm with hd | hd
    ·refine ⟨_, uF rfl (uF (zn zc) (uF hd ?_)), l, rfl, hk, by omega, h2⟩
     repeat refine zb ?_
     rfl
    ·obtain ⟨t, h3, h4⟩ := aL5 d (true, ‹List Int›, ()) false l ⟨hk, h1⟩ h2
     refine ⟨_, uF rfl (uF (zn zc) (uT hd ?_)), t, rfl, h4⟩
     repeat refine zb ?_
     refine uO (0, 0, l, ()) ?_ ?_
     ·repeat refine zb ?_
      rfl
     ·exact h3
  ·left
   have := h5 rfl
   subst this
   refine ⟨(false, [0], ()), ?_, ⟨by simp, by intro v hv; rw [yd.mp hv]; decide, by intro h; cases h⟩, by simp⟩
   refine uT rfl ?_
   repeat refine zb ?_
   rfl
theorem aL3 (d : DrT) (hd : aQS d) : ∃ t, ahO (d, ()) = some ((2, t, [], ()), ()) ∧ adX t := by
 suffices H : ∃ a, acX (fun i => (ak4 d i).toO) (0, true, [], ()) = some a ∧ ∃ b l, a = .inl (b, l, ()) ∧ l.length ≤ 8 ∧ aCc l ∧ (b = true → l = []) by
  obtain ⟨a, h1, b, l, rfl, h2, h3, h4⟩ := H
  obtain ⟨t, h5, h6⟩ := aL6 d b l h2 h3 h4
  refine ⟨t, ?_, h6⟩
  simp only [ahO, ajS]
  exact uL (b, l, ()) (uO (0, true, [], ()) rfl h1) h5
 refine adL (fun i => ∃ k : Nat, k ≤ 8 ∧ i.1 = (k : Int) ∧ i.2.2.1.length = k ∧ aCc i.2.2.1 ∧ (i.2.1 = true → i.2.2.1 = [] )) (fun i => (8 - i.1).toNat) _ ?_ _ ⟨0, by omega, rfl, rfl, (by intro v hv; cases hv), fun _ => rfl⟩
 rintro ⟨i, b, l, u⟩ ⟨k, h1, h2, h3, h4, h5⟩
 simp only at h2 h3 h4 h5
 subst h2
 simp only [ak4, ag7, aaC, zt, aaM]
 have hg := apP hd.2.1 k
 have e0 : w64 (d.2.1.getD k 0) = d.2.1.getD k 0 := aaA zc
 have e2 : w64 ((k : Int) + 1) = ((k + 1 : Nat) : Int) := by rw [aaA (x := (k : Int) + 1) zc]; omega
 simp only [e0, e2]
 by_cases c1 : (k : Int) < d.2.1.length
 ·by_cases c2 : (k : Int) < 8
  ·left
   refine ⟨(((k + 1 : Nat) : Int), false, l ++ [d.2.1.getD k 0], ()), ?_, ⟨k + 1, by omega, rfl, by simp [h3], aBC h4 hg, by intro h; cases h⟩, by simp only; omega⟩
   cases b
   ·refine uF rfl (uT (zo c1) (uT (zo c2) ?_))
    repeat refine zb ?_
    rfl
   ·have := h5 rfl
    subst this
    refine uT rfl (uT (zo c1) (uT (zo c2) ?_))
    repeat refine zb ?_
    rfl
  ·right
   cases b
   ·refine ⟨_, uF rfl (uT (zo c1) (uF (zn c2) ?_)), false, l, rfl, by omega, h4, by intro h; cases h⟩
    repeat refine zb ?_
    rfl
   ·refine ⟨_, uT rfl (uT (zo c1) (uF (zn c2) ?_)), true, [], rfl, by simp, (by intro v hv; cases hv), fun _ => rfl⟩
    repeat refine zb ?_
    rfl
 ·right
  cases b
  ·refine ⟨_, uF rfl (uF (zn c1) ?_), false, l, rfl, by omega, h4, by intro h; cases h⟩
   repeat refine zb ?_
   rfl
  ·refine ⟨_, uT rfl (uF (zn c1) ?_), true, [], rfl, by simp, (by intro v hv; cases hv), fun _ => rfl⟩
   repeat refine zb ?_
   rfl
def aQm : Int → List afS → Int → Prop
 | last, [], t => t = last
 | last, s :: r, t => aiW last s ∧ aQm s.1 r t
theorem aGL : ∀ (l : List afS) (last t : Int) (s : afS), aQm last l t → aiW t s → aQm last (l ++ [s]) s.1
 | [], last, t, s, h, hs => by
  have : t = last := h
  subst this; exact ⟨hs, rfl⟩
 | x :: r, last, t, s, h, hs => ⟨h.1, aGL r x.1 t s h.2 hs⟩
theorem aGK : ∀ (l : List afS) (last t : Int), aQm last l t → 1 ≤ l.length → t < 1000000 → ag6 last (l.set (l.length - 1) (1000000, (l.getD (l.length - 1) (0, 0, 0, 0, 0, 0, ())).2))
 | [], _, _, _, h, _ => absurd h zf
 | [s], last, t, h, _, ht => by
  have h2 : t = s.1 := h.2
  obtain ⟨h3, h4⟩ := h.1
  exact ⟨⟨h3, ⟨by have := h4.1; omega, by show (1000000 : Int) ≤ 1000000; omega⟩⟩, rfl⟩
 | s :: x :: r, last, t, h, _, ht => by
  have := aGK (x :: r) s.1 t h.2 zi ht
  simp only [zI, xv] at this ⊢
  exact ⟨h.1, by simpa using this⟩
theorem auG {a b : Int} (ha : inR a 1 36) (hb : inR b 1 12) : abL (a, b, ()) = some (!decide (Nat.gcd a.natAbs b.natAbs = 1), ()) := by
 unfold abL
 rw [if_pos ⟨ha, hb⟩]
theorem aFT (d : DrT) (hd : aQS d) : ∃ l, afE (d, ()) = some ((3, [], l, ()), ()) ∧ aeA l := by
 suffices H : ∃ a, acX (fun i => (aiK d i).toO) (0, 0, true, [], ()) = some a ∧ ∃ l, a = ((3, [], l, ()), ()) ∧ aeA l by
  obtain ⟨a, h1, l, rfl, h2⟩ := H
  refine ⟨l, ?_, h2⟩
  simp only [afE, agS]
  exact uO (0, 0, true, [], ()) (uB rfl) h1
 obtain ⟨n, hn⟩ : ∃ n : Nat, n = (if 3 < d.2.2.1.length then 3 else d.2.2.1.length) := ⟨_, rfl⟩
 have hnz : (if 3 < len d.2.2.1 then 3 else len d.2.2.1) = (n : Int) := by
  rw [hn]
  by_cases h : 3 < d.2.2.1.length
  ·rw [if_pos h]; exact (if_pos (by rw [aaC]; omega)).trans rfl
  ·rw [if_neg h]; exact (if_neg (by rw [aaC]; omega)).trans rfl
 have hn3 : n ≤ 3 := by rw [hn]; split <;> omega
 have hnl : n ≤ d.2.2.1.length := by rw [hn]; split <;> omega
 clear hn
 refine adL (fun i : Int × Int × Bool × List afS × Unit => ∃ k : Nat, k ≤ n ∧ i.1 = (k : Int) ∧ i.2.2.2.1.length = k ∧ (i.2.2.1 = true → i.2.2.2.1 = []) ∧ (i.2.2.1 = false → 1 ≤ k) ∧ 0 ≤ i.2.1 ∧ i.2.1 ≤ 256000 * (k : Int) ∧ aQm 0 i.2.2.2.1 i.2.1) (fun i => (3 - i.1).toNat) _ ?_ _ ⟨0, by omega, rfl, rfl, fun _ => rfl, (by intro h; cases h), Int.le_refl _, (by show (0 : Int) ≤ _; omega), rfl⟩
 rintro ⟨i, t, b, l, u⟩ ⟨k, h1, h2, h3, h4, h5, h6, h7, h8⟩
 simp only at h2 h3 h4 h5 h6 h7 h8
 subst h2
 simp only [aiK, afK, gP, hnz, aaM, zt]
 rcases zr k n with hk | hk
 ·left
  have hmem : d.2.2.1.getD k (0, 0, 0, 0, 0, 0, ()) ∈ d.2.2.1 := by
   rw [yg, zO zc]; exact yp _
  obtain ⟨p, hp⟩ : ∃ p, p = d.2.2.1.getD k (0, 0, 0, 0, 0, 0, ()) := ⟨_, rfl⟩
  have hpb := hd.2.2 p (by rw [hp]; exact hmem)
  simp only [← hp]
  clear hp hmem
  obtain ⟨w, m, a, o, nu, de, uu⟩ := p
  obtain ⟨b1, b2, b3, b4, b5, b6⟩ := hpb
  simp only [inR] at b1 b2 b3 b4 b5 b6 ⊢
  have q1 : w64 w = w := aaA zc
  have q2 : w64 m = m := aaA zc
  have q3 : w64 a = a := aaA zc
  have q4 : w64 o = o := aaA zc
  have q5 : Int.tmod nu 4 = nu % 4 := zE zc
  have q6 : Int.tmod de 4 = de % 4 := zE zc
  have q7 : w64 (nu % 4) = nu % 4 := aaA zc
  have q8 : w64 (de % 4) = de % 4 := aaA zc
  have q9 : w64 (1 + nu % 4) = 1 + nu % 4 := aaA zc
  have q10 : w64 (1 + de % 4) = 1 + de % 4 := aaA zc
  have q11 : w64 (t + 1000) = t + 1000 := aaA zc
  have q12 : w64 (1000 * w) = 1000 * w := aaA zc
  have q13 : w64 (t + 1000 + 1000 * w) = t + 1000 + 1000 * w := aaA zc
  have q14 : w64 (100 * m) = 100 * m := aaA zc
  have q15 : w64 (10 * a) = 10 * a := aaA zc
  have q16 : w64 (10 * o) = 10 * o := aaA zc
  have q17 : w64 (0 - 100 * m) = 0 - 100 * m := aaA zc
  have q18 : w64 (0 - 10 * a) = 0 - 10 * a := aaA zc
  have q19 : w64 ((k : Int) + 1) = ((k + 1 : Nat) : Int) := by rw [aaA (x := (k : Int) + 1) zc]; omega
  simp only [q1, q2, q3, q4, q5, q6, q7, q8, q9, q10, q11, q12, q13, q14, q15, q16, q17, q18, q19]
  have inv : ∀ M A N D : Int, inR M (-100000000) 100000000 → inR A (-100000000) 100000000 → inR N 1 36 → inR D 1 12 → Nat.gcd N.natAbs D.natAbs = 1 →
    (∃ k' : Nat, k' ≤ n ∧ ((k + 1 : Nat) : Int) = (k' : Int) ∧ (l ++ [((t + 1000 + 1000 * w, M, A, N, D, 10 * o, ()) : afS)]).length = k' ∧ ((false = true) → l ++ [((t + 1000 + 1000 * w, M, A, N, D, 10 * o, ()) : afS)] = []) ∧ (false = false → 1 ≤ k') ∧ 0 ≤ t + 1000 + 1000 * w ∧ t + 1000 + 1000 * w ≤ 256000 * (k' : Int) ∧ aQm 0 (l ++ [((t + 1000 + 1000 * w, M, A, N, D, 10 * o, ()) : afS)]) (t + 1000 + 1000 * w)) := by
   intro M A N D c1 c2 c3 c4 c5
   refine ⟨k + 1, hk, rfl, by simp [h3], (by intro h; cases h), (by intro _; omega), by omega, by omega, ?_⟩
   exact aGL l 0 t (t + 1000 + 1000 * w, M, A, N, D, 10 * o, ()) h8 ⟨⟨c1, c2, ⟨by show -100000000 ≤ 10 * o; omega, by show 10 * o ≤ 100000000; omega⟩, c3, c4, c5⟩, ⟨by show t + 1 ≤ t + 1000 + 1000 * w; omega, by show t + 1000 + 1000 * w ≤ 1000000; omega⟩⟩
  have n1 : inR (1 : Int) 1 36 := zf
  have n2 : inR (1 : Int) 1 12 := zf
  have n3 : inR (1 + nu % 4) 1 36 := ⟨by omega, by omega⟩
  have n4 : inR (1 + de % 4) 1 12 := ⟨by omega, by omega⟩
  have n5 : inR (100 * m) (-100000000) 100000000 := ⟨by omega, by omega⟩
  have n6 : inR (10 * a) (-100000000) 100000000 := ⟨by omega, by omega⟩
  have n7 : inR (if 0 - 100 * m > 100 * m then 0 - 100 * m else 100 * m) (-100000000) 100000000 := by split <;> exact ⟨by omega, by omega⟩
  have n8 : inR (if 0 - 10 * a > 10 * a then 0 - 10 * a else 10 * a) (-100000000) 100000000 := by split <;> exact ⟨by omega, by omega⟩
  have g1 : ∀ D : Int, Nat.gcd (1 : Int).natAbs D.natAbs = 1 := fun D => Nat.gcd_one_left _
  have g2 : ∀ N : Int, Nat.gcd N.natAbs (1 : Int).natAbs = 1 := fun N => Nat.gcd_one_right _
  rcases (xg d.2.2.2.1).symm with hr | hr <;> rcases (xg d.2.2.2.2.1).symm with hi | hi <;> by_cases g : Nat.gcd (1 + nu % 4).natAbs (1 + de % 4).natAbs = 1
  all_goals
   cases b
   ·apply Exists.intro
    refine ⟨?_, ?_, ?_⟩
    ·refine uF rfl (uT (zo zc) (uN ⟨by omega, by rw [aaC]; omega⟩ ?_))
     first | refine uT hr ?_ | refine uF hr ?_
     first | refine uT hi ?_ | refine uF hi ?_
     first | refine uC _ (auG n3 n4) ?_ | refine uC _ (auG n3 n2) ?_
     first | refine uF (congrArg Bool.not (zo g)) ?_ | refine uF (congrArg Bool.not (zo (g2 _))) ?_ | refine uT (congrArg Bool.not (zn g)) ?_
     repeat refine zb ?_
     rfl
    ·exact inv _ _ _ _ zg zg zg zg (by first | exact g | exact g2 _ | exact g1 _)
    ·show (3 - ((k + 1 : Nat) : Int)).toNat < (3 - (k : Int)).toNat; omega
   ·have := h4 rfl
    subst this
    apply Exists.intro
    refine ⟨?_, ?_, ?_⟩
    ·refine uT rfl (uT (zo zc) (uN ⟨by omega, by rw [aaC]; omega⟩ ?_))
     first | refine uT hr ?_ | refine uF hr ?_
     first | refine uT hi ?_ | refine uF hi ?_
     first | refine uC _ (auG n3 n4) ?_ | refine uC _ (auG n3 n2) ?_
     first | refine uF (congrArg Bool.not (zo g)) ?_ | refine uF (congrArg Bool.not (zo (g2 _))) ?_ | refine uT (congrArg Bool.not (zn g)) ?_
     repeat refine zb ?_
     rfl
    ·exact inv _ _ _ _ zg zg zg zg (by first | exact g | exact g2 _ | exact g1 _)
    ·show (3 - ((k + 1 : Nat) : Int)).toNat < (3 - (k : Int)).toNat; omega
 ·right
  obtain rfl : k = n := zc
  have e0 : w64 (1 - 1) = 0 := aaA zc
  cases b
  ·have h5 := h5 rfl
   rcases (xg d.2.2.2.2.1).symm with hi | hi
   ·have e1 : w64 ((k : Int) - 1) = ((k - 1 : Nat) : Int) := by rw [aaA (x := (k : Int) - 1) zc]; omega
    refine ⟨_, uF rfl (uF (zn zc) (uF (beq_eq_false_iff_ne.mpr zc) (uF hi (uN ?_ rfl)))), _, rfl, ?_⟩
    ·rw [e1, aaC]; exact ⟨by omega, by omega⟩
    ·rw [e1, zp, zu, ← h3, zz (by rw [xi]; omega)]
     refine ⟨by rw [xi]; omega, by rw [xi]; omega, aGK l 0 t h8 zc zc⟩
   ·refine ⟨_, uF rfl (uF (zn zc) (uF (beq_eq_false_iff_ne.mpr zc) (uT hi (uN ?_ rfl)))), _, rfl, ?_⟩
    ·rw [aaC]; exact ⟨by simp only [asT]; omega, by omega⟩
    ·rw [e0]
     obtain ⟨s, r, rfl⟩ : ∃ s r, l = s :: r := by
      cases l with
      | nil => simp at h3; omega
      | cons s r => exact ⟨s, r, rfl⟩
     show aeA [((1000000, s.2) : afS)]
     exact ⟨zq 1, by show 1 ≤ 4; omega, ⟨h8.1.1, ⟨by show (0 : Int) + 1 ≤ 1000000; omega, by show (1000000 : Int) ≤ 1000000; omega⟩⟩, rfl⟩
  ·have := h4 rfl
   subst this
   have : k = 0 := h3.symm
   subst this
   rcases (xg d.2.2.2.2.1).symm with hi | hi
   ·refine ⟨_, uT rfl (uF (zn zc) (uT rfl (uF hi rfl))), _, rfl, ?_⟩
    rw [e0]; decide
   ·refine ⟨_, uT rfl (uF (zn zc) (uT rfl (uT hi rfl))), _, rfl, ?_⟩
    rw [e0]; decide
theorem aOT (d : DrT) (hd : aQS d) : ∃ c, ajC (d, ()) = some (c, ()) ∧ acJ c := by
 obtain ⟨k, ta, pa, ro, ri, u⟩ := d
 obtain ⟨l1, e1, o1⟩ := aL3 _ hd
 obtain ⟨l2, e2, o2⟩ := aFT _ hd
 simp only [ajC, amA]
 by_cases c0 : Int.tmod k 4 = 0
 ·exact ⟨(1, [], [], ()), uT (yM.mpr c0) rfl, Or.inl ⟨rfl, rfl, rfl⟩⟩
 ·by_cases c1 : Int.tmod k 4 = 1
  ·refine ⟨(3, [], l2, ()), uF (beq_eq_false_iff_ne.mpr c0) (uT (yM.mpr c1) (uC _ e2 ?_)), Or.inr (Or.inr ⟨rfl, rfl, o2⟩)⟩
   repeat refine zb ?_
   rfl
  ·refine ⟨(2, l1, [], ()), uF (beq_eq_false_iff_ne.mpr c0) (uF (beq_eq_false_iff_ne.mpr c1) (uC _ e1 ?_)), Or.inr (Or.inl ⟨rfl, o1, rfl⟩)⟩
   repeat refine zb ?_
   rfl
theorem aAQ (d : DrT) (y) (h : ahO (d, ()) = some y) : (ajS d).toO = some y := h
theorem auY (d : DrT) (y) (h : afE (d, ()) = some y) : (agS d).toO = some y := h
theorem aCy (d : DrT) (y) (h : ajC (d, ()) = some y) : (amA d).toO = some y := h
noncomputable section
def alY (_ : Int × Int × Int × DrT × Int × Unit) : Option (Bool × Unit) := some (true, ())
end
set_option maxRecDepth 100000
open Go Go.Vg Go.Proofs
noncomputable section
def aEm : LTab := [(5, 506, 19458, ⟨0, (Int) × Bool × (List Int) × Unit, .dat (.s 42) ui <| .appN (.c 16 1) 19 3 ui <| .nil, [41, 13, 12, 11, 10, 8, 1, 4], [16, 0], 1⟩), (5, 32762, 64513, ⟨1, (Int) × Unit, .dat (.s 98) ui <| .nil, [97, 96, 18, 4], [58, 37, 26, 16, 0], 0⟩)]
def akO (n : Int) (first : Int) (step : Int) (d : Int × List Int × List uh × Bool × Bool × Unit) (at0 : Int) (y : Bool × Unit) (i : Int × Bool × List Int × Unit) (y4 : uj × Unit) (y5 : uj × Unit) (y6 : uj × Int × Unit) (y7 : uj × Unit) (y8 : uj × Int × Unit) (y9 : Bool × Unit) (y10 : uk × Unit) (i1 : (Int) × Unit) : TT (uS ⊕ (uH ⊕ uG)) :=
 .ite (decide (i1.1 < len y10.1.2.1))
 (.need (inb i1.1 (len y10.1.2.1)) <| .call (aa6 (i1.1, w64 (len y10.1.2.1 - 1), ())) adU fun y11 =>
 .call (aa6 (gi y10.1.2.1 i1.1 0, 65535, ())) adU fun y12 =>
 .call (acV ((y10.1.1, y10.1.2.1, y10.1.2.2.1, ()), y11.1, y12.1, ())) Dd1 fun y13 =>
 .ite (!y13.1)
 (.ok (.inr (.inr ((false, ())))))
 (.tt <| .lt (w64 (i1.1 + 1) : Int) fun z4 => .vQ (ub z4 (len y10.1.2.1) y10.1.2.1 <| (ue 58 0 true) ∧ vZ at0) <| .vQ (vP (vS 42 y10.1.1 y10.1.2.1 y10.1.2.2.1) <| vP (vT 36 y8.1.1 y8.1.2.1) <| vP (vT 36 y4.1.1 y4.1.2.1) <| vP (ub 42 (2 : Int) (List.take (List.length i.2.2.1) i.2.2.1) <| True ∧ True) <| vP (ug 25 d.1 d.2.1 d.2.2.1 d.2.2.2.1 d.2.2.2.2.1) True) <| .ok (.inl ((z4, ())))))
 (.call (aa6 (0, 1, ())) adU fun y14 =>
 .call (abG ((y10.1.1, y10.1.2.1, y10.1.2.2.1, ()), y14.1, ())) aeQ fun y15 =>
 .call (aa6 (w64 (-1 - w64 (IntKind.wrap IntKind.u16 at0)), 7, ())) adU fun y16 =>
 .call (abG ((y10.1.1, y10.1.2.1, y10.1.2.2.1, ()), y16.1, ())) aeQ fun y17 =>
 .call (aa6 (1, 1, ())) adU fun y18 =>
 .call (abG ((y10.1.1, y10.1.2.1, y10.1.2.2.1, ()), y18.1, ())) aeQ fun y19 =>
 .call (aa6 (w64 (8 + w64 (IntKind.wrap IntKind.u16 at0)), 7, ())) adU fun y20 =>
 .call (abG ((y10.1.1, y10.1.2.1, y10.1.2.2.1, ()), y20.1, ())) aeQ fun y21 =>
 .ite (match y15.1.1 == y17.1.1 with
| true =>
 match y15.1.2.1 == y17.1.2.1 with
 | true => true
 | false => false
| false => false)
 (.ite (y15.2.1 == y17.2.1)
 (.ite (match y19.1.1 == y21.1.1 with
| true =>
 match y19.1.2.1 == y21.1.2.1 with
 | true => true
 | false => false
| false => false)
 (.ok (.inr (.inr ((y19.2.1 == y21.2.1, ())))))
 (.ok (.inr (.inr ((false, ()))))))
 (.ok (.inr (.inr ((false, ()))))))
 (.ok (.inr (.inr ((false, ()))))))
def ag0 (n : Int) (first : Int) (step : Int) (d : Int × List Int × List uh × Bool × Bool × Unit) (at0 : Int) (y : Bool × Unit) (i : (Int) × Bool × (List Int) × Unit) : TT (uH ⊕ uG) :=
 .ite (i.2.1)
 (.ite (decide (i.1 < w64 (2 + w64 (Int.tmod n 16))))
 (.need (w64 (65536 - w64 (Int.tmod (w64 step) (w64 (Int.tdiv 65536 (w64 (2 + w64 (Int.tmod n 16))))) * w64 (w64 (2 + w64 (Int.tmod n 16)) - 1))) ≠ 0) <| .need (1 * 8 ≤ 140737488355328) <| .tt <| .lt (w64 (i.1 + 1) : Int) fun z => .lt ([w64 (Int.tmod (w64 first) (w64 (65536 - w64 (Int.tmod (w64 step) (w64 (Int.tdiv 65536 (w64 (2 + w64 (Int.tmod n 16))))) * w64 (w64 (2 + w64 (Int.tmod n 16)) - 1)))) + w64 (Int.tmod (w64 step) (w64 (Int.tdiv 65536 (w64 (2 + w64 (Int.tmod n 16))))) * i.1))] : List Int) fun z1 => .vQ (vX z (w64 (2 + w64 (Int.tmod n 16))) <| (ue 16 0 true) ∧ (ub (Int.tmod (w64 step) (w64 (Int.tdiv 65536 (w64 (2 + w64 (Int.tmod n 16))))) : Int) (w64 (2 + w64 (Int.tmod n 16))) false <| un ∧ uc first at0)) <| .vQ (vP (vU 3 z1) <| vP (vX 42 (2 : Int) <| (vV 19 0 1 true) ∧ True ∧ True) <| vP (ug 25 d.1 d.2.1 d.2.2.1 d.2.2.2.1 d.2.2.2.2.1) True) <| .ok (.inl ((z, false, z1, ()))))
 (.triv (asT Int 1001 ≠ 0) zf <| .call (aa6 (Int.tmod (w64 (IntKind.wrap IntKind.u16 at0)) 1001, 1000, ())) adU fun y1 =>
 .call (aa6 (w64 (Int.tmod (w64 step) (w64 (Int.tdiv 65536 (w64 (2 + w64 (Int.tmod n 16))))) * w64 (w64 (2 + w64 (Int.tmod n 16)) - 1)), 65535, ())) adU fun y2 =>
 .call (aiA ((y1.1.1, y1.1.2.1, ()), y2.1, ())) aeQ fun y3 =>
 .bad))
 (.ite (decide (i.1 < w64 (2 + w64 (Int.tmod n 16))))
 (.need (w64 (65536 - w64 (Int.tmod (w64 step) (w64 (Int.tdiv 65536 (w64 (2 + w64 (Int.tmod n 16))))) * w64 (w64 (2 + w64 (Int.tmod n 16)) - 1))) ≠ 0) <| .need ((List.length i.2.2.1 + 1) * 8 ≤ 140737488355328) <| .tt <| .lt (w64 (i.1 + 1) : Int) fun z2 => .lt (List.take (List.length i.2.2.1) i.2.2.1 ++ [w64 (Int.tmod (w64 first) (w64 (65536 - w64 (Int.tmod (w64 step) (w64 (Int.tdiv 65536 (w64 (2 + w64 (Int.tmod n 16))))) * w64 (w64 (2 + w64 (Int.tmod n 16)) - 1)))) + w64 (Int.tmod (w64 step) (w64 (Int.tdiv 65536 (w64 (2 + w64 (Int.tmod n 16))))) * i.1))] : List Int) fun z3 => .vQ (vX z2 (w64 (2 + w64 (Int.tmod n 16))) <| (ue 16 0 true) ∧ (ub (Int.tmod (w64 step) (w64 (Int.tdiv 65536 (w64 (2 + w64 (Int.tmod n 16))))) : Int) (w64 (2 + w64 (Int.tmod n 16))) false <| un ∧ uc first at0)) <| .need ((((3 : TypeId) = 3) ∧ ((z3 : List Int) = z3)) ∧ (true = true) ∧ (((42 : TypeId) = 42) ∧ (((2 : Int) = 2) ∧ ((((19) = (19)) ∧ (((0) = (0)) ∧ ((List.length i.2.2.1 + 1 = List.length z3) ∧ ((true) = (true))))) ∧ (True ∧ True)))) ∧ (true = true) ∧ (((25 : TypeId) = 25) ∧ (((d.1 : Int) = d.1) ∧ (((d.2.1 : List Int) = d.2.1) ∧ (((d.2.2.1 : List uh) = d.2.2.1) ∧ (((d.2.2.2.1) = (d.2.2.2.1)) ∧ (((d.2.2.2.2.1) = (d.2.2.2.2.1)) ∧ True)))))) ∧ (true = true) ∧ True) <| .ok (.inl ((z2, false, z3, ()))))
 (.triv (asT Int 1001 ≠ 0) zf <| .call (aa6 (Int.tmod (w64 (IntKind.wrap IntKind.u16 at0)) 1001, 1000, ())) adU fun y4 =>
 .call (aa6 (w64 (Int.tmod (w64 step) (w64 (Int.tdiv 65536 (w64 (2 + w64 (Int.tmod n 16))))) * w64 (w64 (2 + w64 (Int.tmod n 16)) - 1)), 65535, ())) adU fun y5 =>
 .call (aiA ((y4.1.1, y4.1.2.1, ()), y5.1, ())) aeQ fun y6 =>
 .need (asT Int 0 ≤ 0 ∧ 0 < len i.2.2.1) <| .call (aa6 (List.getD i.2.2.1 (0 + Int.toNat 0) 0, 65535, ())) adU fun y7 =>
 .call (akL ((y6.1.1, y6.1.2.1, ()), y7.1, ())) aeQ fun y8 =>
 .call (acV ((2, List.take (List.length i.2.2.1) i.2.2.1, [], ()), (y4.1.1, y4.1.2.1, ()), (y8.1.1, y8.1.2.1, ()), ())) Dd1 fun y9 =>
 .ite (!y9.1)
 (.ok (.inr ((false, ()))))
 (.call (ajC ((d.1, d.2.1, d.2.2.1, d.2.2.2.1, d.2.2.2.2.1, ()), ())) aM0 fun y10 =>
 .loop 1 (.tt <| .vQ (ub (0 : Int) (len y10.1.2.1) y10.1.2.1 <| (ue 58 0 true) ∧ vZ at0) <| .vQ (vP (vS 42 y10.1.1 y10.1.2.1 y10.1.2.2.1) <| vP (vT 36 y8.1.1 y8.1.2.1) <| vP (vT 36 y4.1.1 y4.1.2.1) <| vP (ub 42 (2 : Int) (List.take (List.length i.2.2.1) i.2.2.1) <| True ∧ True) <| vP (ug 25 d.1 d.2.1 d.2.2.1 d.2.2.2.1 d.2.2.2.2.1) True) <| .ok ((0, ()))) (akO n first step d at0 y i y4 y5 y6 y7 y8 y9 y10))))
def al5 (n : Int) (first : Int) (step : Int) (d : Int × List Int × List uh × Bool × Bool × Unit) (at0 : Int) : TT uG :=
 .call (asF ()) Dd1 fun y =>
 .ite (!y.1)
 (.ok ((false, ())))
 (.triv (asT Int 16 ≠ 0) zf <| .need (w64 (2 + w64 (Int.tmod n 16)) ≠ 0) <| .need (w64 (Int.tdiv 65536 (w64 (2 + w64 (Int.tmod n 16)))) ≠ 0) <| .loop 0 (.tt <| .vQ (vX (0 : Int) (w64 (2 + w64 (Int.tmod n 16))) <| (ue 16 0 true) ∧ (ub (Int.tmod (w64 step) (w64 (Int.tdiv 65536 (w64 (2 + w64 (Int.tmod n 16))))) : Int) (w64 (2 + w64 (Int.tmod n 16))) false <| un ∧ uc first at0)) <| .vQ (vP uZ <| vP (ug 25 d.1 d.2.1 d.2.2.1 d.2.2.2.1 d.2.2.2.2.1) True) <| .ok ((0, true, [], ()))) (ag0 n first step d at0 y))
end
theorem aDT {q : Rat} (h0 : 0 ≤ q) (h1 : q ≤ 1) : acK q = q := by
 unfold acK
 rw [if_neg (wh.2 h0), if_neg (wh.2 h1)]
theorem aIs (N : Int) : mkRat N 1000 = mkRat (N * 1000000000) 1000000000000 := by rw [zX zc zc]; omega
theorem aDe {N : Int} (n2 : N ≤ 1000) : mkRat N 1000 ≤ 1 := (avO (n := 1) (X := N) (d := 1000) zc).2 zc
theorem aDc {N : Int} (n1 : 0 ≤ N) : 0 ≤ mkRat N 1000 := (apD (n := 0) (X := N) (d := 1000) zc).2 zc
theorem aJZ {l : List Int} (ht : adX l) {N : Int} (n1 : 0 ≤ N) (n2 : N ≤ 1000) : aJC l (mkRat N 1000) = some (mkRat (anC l (N * 1000000000)) 65535000000000000) ∧ ac1 (mkRat (anC l (N * 1000000000)) 65535000000000000) := by
 obtain ⟨h1, h2, -⟩ := adW ht (n := N * 1000000000) ⟨by omega, by omega⟩
 rw [← aIs] at h1
 exact ⟨h1, h2⟩
theorem alD {k : IntKind} {x a b : Int} (h : k.min ≤ x ∧ x ≤ k.max) (ha : k.min = a := by rfl) (hb : k.max = b := by rfl) : inR x a b := by subst ha; subst hb; exact h
theorem aOU (x : Int) : 0 ≤ IntKind.wrap IntKind.u16 x ∧ IntKind.wrap IntKind.u16 x ≤ 65535 := by
 unfold IntKind.wrap
 simp only [IntKind.bits, IntKind.signed, Bool.false_and]
 have e1 : (2 : Int) ^ 16 = 65536 := zf
 simp only [e1]
 simp only [ye, if_false]
 omega
theorem aJ2 {l : List Int} (ht : adX l) {k : Nat} (hk : k < l.length) : aJC l (mkRat (k : Int) (l.length - 1)) = some (mkRat (l.getD k 0) 65535) := by
 have hl1 := ht.1
 have hl2 := ht.2.1
 obtain ⟨i, hi⟩ : ∃ i, i = min k (l.length - 2) := ⟨_, rfl⟩
 obtain ⟨A, hA⟩ : ∃ A : Int, A = (k : Int) - (i : Int) := ⟨_, rfl⟩
 obtain ⟨t1, t2⟩ := agO ht hk
 obtain ⟨v1, v2⟩ := agO ht (show i < l.length by omega)
 have hpl : ag8 l (mkRat (k : Int) 1) = i := by
  unfold ag8
  rw [Rat.floor_def, show (mkRat (k : Int) 1).num / (mkRat (k : Int) 1).den = fl (mkRat (k : Int) 1) from rfl, amN _ zc, hi]
  congr 1; omega
 have hT : A * (l.getD (i + 1) 0 - l.getD i 0) = l.getD k 0 - l.getD i 0 := by
  rcases zr k (l.length - 1) with g | g
  ·have e : k = i := zc
   rw [hA, e, Int.sub_self, Int.sub_self, Int.zero_mul]
  ·have e : k = i + 1 := zc
   rw [hA, e, show ((i + 1 : Nat) : Int) - (i : Int) = 1 by omega, vm]
 have g1 : mkRat (k : Int) (l.length - 1) * mkRat ((l.length - 1 : Nat) : Int) 1 = mkRat (k : Int) 1 := by
  rw [yv, zX zc zc, xy]
  generalize (k : Int) * ((l.length - 1 : Nat) : Int) = Z
  omega
 have g2 : mkRat (k : Int) 1 - mkRat (i : Int) 1 = mkRat A 1 := by
  rw [vl, Rat.neg_mkRat, yS _ _ zc zc, hA]
  congr 1; omega
 have f1 : ∀ n : Int, -1000000 ≤ n → n ≤ 1000000 → ac1 (mkRat n 1) := fun n a b => aeM zc ⟨by omega, by omega⟩ zc
 unfold aJC
 rw [g1]
 unfold ab7
 rw [if_pos (f1 _ zc zc)]
 simp only [zT]
 rw [hpl, g2, if_pos (f1 _ zc zc)]
 simp only [zT]
 rw [yv, hT, if_pos (f1 _ zc zc)]
 simp only [zT]
 have g4 : mkRat (l.getD i 0) 1 + mkRat (l.getD k 0 - l.getD i 0) (1 * 1) = mkRat (l.getD k 0) 1 := by
  rw [yS _ _ zc zc]
  congr 1; omega
 rw [g4, if_pos (f1 _ zc zc)]
 simp only [zT]
 have g5 : mkRat (l.getD k 0) 1 / mkRat 65535 1 = mkRat (l.getD k 0) 65535 := by
  have hm : mkRat (l.getD k 0) 1 = mkRat (l.getD k 0) 65535 * mkRat 65535 1 := by
   rw [yv, zX zc zc]; omega
  rw [hm, Rat.div_def, Rat.mul_assoc, Rat.mul_inv_cancel _ (aDb zc), Rat.mul_one]
 rw [g5, if_pos (aeM zc ⟨by omega, by omega⟩ zc)]
def alB (f s : Int) (m : Nat) : List Int := (List.range m).map (fun (i : Nat) => f + s * (i : Int))
theorem ai2 (f s : Int) (m : Nat) : (alB f s m).length = m := by unfold alB; simp
theorem aIu (f s : Int) (m : Nat) : alB f s (m + 1) = alB f s m ++ [f + s * (m : Int)] := by unfold alB; rw [vO, xA]; rfl
theorem avR (f s : Int) {m k : Nat} (h : k < m) : (alB f s m).getD k 0 = f + s * (k : Int) := by
 unfold alB; simp [yg, h]
theorem aOb {f s : Int} {m : Nat} (h1 : 2 ≤ m) (h2 : m ≤ 17) (hf : 0 ≤ f) (hs : 0 ≤ s) (h : f + s * ((m - 1 : Nat) : Int) ≤ 65535) : adX (alB f s m) := by
 refine ⟨by rw [ai2]; exact h1, by rw [ai2]; exact h2, fun v hv => ?_⟩
 obtain ⟨i, hi, rfl⟩ := zK.1 hv
 have h3 := List.mem_range.1 hi
 have a1 : s * (i : Int) ≤ s * ((m - 1 : Nat) : Int) := zy zc hs
 have a2 : 0 ≤ s * (i : Int) := zZ hs zc
 exact ⟨by omega, by omega⟩
theorem aLj (f s : Int) {m : Nat} (h1 : 2 ≤ m) (n : Int) : anC (alB f s m) n = f * 1000000000000 + s * (n * ((m - 1 : Nat) : Int)) := by
 have hp : asR (alB f s m) n + 1 < m := by
  unfold asR; rw [ai2]; omega
 unfold anC
 rw [avR f s zc, avR f s hp, ai2]
 generalize asR (alB f s m) n = i
 generalize n * ((m - 1 : Nat) : Int) = X
 have e : f + s * ((i + 1 : Nat) : Int) - (f + s * (i : Int)) = s := by
  rw [wC, xK]; omega
 rw [e, vu, yB X s, wF]
 have e2 : (i : Int) * 1000000000000 * s = s * (i : Int) * 1000000000000 := by rw [Int.mul_right_comm, yB (i : Int) s]
 rw [e2]
 omega
theorem arV {c : CvT} (hr : acJ c) {q : Rat} (hf : ac1 q) : abG (c, fx q, ()) = some (arW c (acK q)) := by
 unfold abG
 dsimp only
 rw [if_pos hr, afI hf]
theorem aIZ {X : Int} {d : Nat} (hd : d ≠ 0) (h : X ≤ 0) : acK (mkRat X d) = 0 := by
 have e : mkRat X d ≤ 0 := (avO (n := 0) hd).2 zc
 unfold acK
 split
 ·rfl
 ·next g => rw [Rat.le_antisymm e (wh.1 g)]; decide
theorem aF3 {X : Int} {d : Nat} (hd : d ≠ 0) (h : (d : Int) ≤ X) : acK (mkRat X d) = 1 := by
 have e : 1 ≤ mkRat X d := (apD (n := 1) hd).2 zc
 unfold acK
 split
 ·next g => exact absurd (Rat.le_trans e (Rat.le_of_lt g)) zf
 ·split
  ·rfl
  ·next g => exact Rat.le_antisymm (wh.1 g) e
theorem aOa (n first step : Int) (d : DrT) (at0 : Int) (y : Bool × Unit) (i : Int × Bool × List Int × Unit) (y4 y5 : FxT × Unit) (y6 : FxT × Int × Unit) (y7 : FxT × Unit) (y8 : FxT × Int × Unit) (y9 : Bool × Unit) (c : CvT) (hr : acJ c) :
  acX (fun i1 => (akO n first step d at0 y i y4 y5 y6 y7 y8 y9 (c, ()) i1).toO) (0, ()) = some (.inr (true, ())) := by
 have hlen := ay5 hr
 refine aaN (fun i1 : Int × Unit => ∃ j : Nat, j ≤ c.2.1.length ∧ i1 = ((j : Int), ())) (fun i1 => ((c.2.1.length : Int) - i1.1).toNat) (fun _ => Sum.inr (true, ())) ?_ _ ⟨0, by omega, rfl⟩
 rintro i1 ⟨j, j1, rfl⟩
 unfold akO
 rcases zr j c.2.1.length with g | g
 ·left
  have hk : c.1 = 2 ∧ adX c.2.1 := by
   rcases hr with ⟨h1, h2, -⟩ | ⟨h1, h2, -⟩ | ⟨h1, h2, -⟩
   ·rw [h2] at g; exact absurd g zi
   ·exact ⟨h1, h2⟩
   ·rw [h2] at g; exact absurd g zi
  obtain ⟨hk1, hk2⟩ := hk
  have l1 := hk2.1
  have l2 := hk2.2.1
  obtain ⟨t1, t2⟩ := agO hk2 g
  have wl : w64 (len c.2.1 - 1) = ((c.2.1.length - 1 : Nat) : Int) := by rw [aaC, aaA zc]; omega
  have wj : w64 ((j : Int) + 1) = ((j + 1 : Nat) : Int) := by rw [aaA zc]; omega
  have oJ : aa6 ((j : Int), w64 (len c.2.1 - 1), ()) = some (fx (mkRat (j : Int) (c.2.1.length - 1)), ()) := by
   rw [wl]; exact acC ⟨by omega, by omega⟩ zc zc
  have oY : aa6 (gi c.2.1 (j : Int) 0, 65535, ()) = some (fx (mkRat (c.2.1.getD j 0) 65535), ()) := by
   rw [aaM]; exact acC (d := 65535) ⟨by omega, by omega⟩ zc zc
  have fJ : ac1 (mkRat (j : Int) (c.2.1.length - 1)) := aeM zc ⟨by omega, by omega⟩ zc
  have hcl : acK (mkRat (j : Int) (c.2.1.length - 1)) = mkRat (j : Int) (c.2.1.length - 1) :=
   aDT ((apD (n := 0) zc).2 zc) ((avO (n := 1) zc).2 zc)
  have hE : abG (c, fx (mkRat (j : Int) (c.2.1.length - 1)), ()) = some (fx (mkRat (c.2.1.getD j 0) 65535), 0, ()) := by
   rw [arV hr fJ, hcl]
   unfold arW
   rw [if_neg zc, if_pos hk1, aJ2 hk2 g]
   rfl
  refine ⟨(((j + 1 : Nat) : Int), ()), ?_, ⟨j + 1, g, rfl⟩, by dsimp only; omega, rfl⟩
  refine uT (zo (by dsimp only; rw [aaC]; omega)) (uN ⟨by dsimp only; omega, by rw [aaC]; dsimp only; omega⟩ (uC _ oJ (uC _ oY (uC _ (al6 hE) (uF rfl (uV (uB (uV (uV ?_)))))))))
  show some (Sum.inl (w64 ((j : Int) + 1), ())) = _
  rw [wj]
 ·right
  obtain ⟨u1, u2⟩ := aOU at0
  have wu : w64 (IntKind.wrap IntKind.u16 at0) = IntKind.wrap IntKind.u16 at0 := aaA zc
  have o1 : aa6 (0, 1, ()) = some (fx (mkRat 0 1), ()) := acC (d := 1) ⟨by omega, by omega⟩ zc zc
  have o3 : aa6 (1, 1, ()) = some (fx (mkRat 1 1), ()) := acC (d := 1) ⟨by omega, by omega⟩ zc zc
  have o2 : aa6 (w64 (-1 - w64 (IntKind.wrap IntKind.u16 at0)), 7, ()) = some (fx (mkRat (-1 - IntKind.wrap IntKind.u16 at0) 7), ()) := by
   rw [wu, aaA zc]; exact acC (d := 7) ⟨by omega, by omega⟩ zc zc
  have o4 : aa6 (w64 (8 + w64 (IntKind.wrap IntKind.u16 at0)), 7, ()) = some (fx (mkRat (8 + IntKind.wrap IntKind.u16 at0) 7), ()) := by
   rw [wu, aaA zc]; exact acC (d := 7) ⟨by omega, by omega⟩ zc zc
  have e1 := arV hr (q := mkRat 0 1) (aeM zc ⟨by omega, by omega⟩ zc)
  have e2 := arV hr (q := mkRat (-1 - IntKind.wrap IntKind.u16 at0) 7) (aeM zc ⟨by omega, by omega⟩ zc)
  have e3 := arV hr (q := mkRat 1 1) (aeM zc ⟨by omega, by omega⟩ zc)
  have e4 := arV hr (q := mkRat (8 + IntKind.wrap IntKind.u16 at0) 7) (aeM zc ⟨by omega, by omega⟩ zc)
  rw [aIZ zc zc] at e1 e2
  rw [aF3 zc zc] at e3 e4
  generalize arW c 0 = Z at e1 e2
  generalize arW c 1 = U at e3 e4
  refine uF (zn (by rw [aaC]; dsimp only; omega)) (uC _ o1 (uC _ e1 (uC _ o2 (uC _ e2 (uC _ o3 (uC _ e3 (uC _ o4 (uC _ e4 ?_))))))))
  refine uT zi (uT zi (uT zi ?_))
  show some (Sum.inr (Sum.inr (U.2.1 == U.2.1, ()))) = _
  rw [beq_self_eq_true]
theorem aM4 {x : Int × Int × Int × DrT × Int × Unit} (h : Wf (.pair (.int .u8) (.pair (.int .u16) (.pair (.int .u16) (.pair (.pair (.int .u8) (.pair (.sl (.int .u16)) (.pair (.sl (.pair (.int .u8) (.pair (.int .i16) (.pair (.int .i16) (.pair (.int .i16) (.pair (.int .u8) (.pair (.int .u8) .unit))))))) (.pair .bool (.pair .bool .unit))))) (.pair (.int .i16) .unit))))) x) :
  inR x.1 0 255 ∧ inR x.2.1 0 65535 ∧ inR x.2.2.1 0 65535 ∧ aQS x.2.2.2.1 := by
 obtain ⟨k1, k2, k3, ⟨h1, ⟨-, h2⟩, ⟨-, h3⟩, -⟩, -⟩ := h
 refine ⟨alD k1, alD k2, alD k3, alD h1, fun v hv => alD (h2 v hv), fun s hs => ?_⟩
 obtain ⟨a1, a2, a3, a4, a5, a6, -⟩ := h3 s hs
 exact ⟨alD a1, alD a2, alD a3, alD a4, alD a5, alD a6⟩
theorem ayR (n first step : Int) (d : DrT) (at0 : Int) (hp : inR n 0 255 ∧ inR first 0 65535 ∧ inR step 0 65535 ∧ aQS d) (y) (h : alY (n, first, step, d, at0, ()) = some y) : (al5 n first step d at0).toO = some y := by
 injection h with h
 subst h
 obtain ⟨⟨n1, n2⟩, ⟨b1, b2⟩, ⟨s1, s2⟩, hd⟩ := hp
 obtain ⟨c, hc, hr⟩ := aOT d hd
 obtain ⟨m, hm⟩ : ∃ m : Nat, 2 + n % 16 = (m : Int) := zv zc
 have m1 : 2 ≤ m := zc
 have m2 : m ≤ 17 := zc
 have eM : w64 (2 + w64 (Int.tmod n 16)) = (m : Int) := by
  rw [zE n1, aaA (x := n % 16) zc, aaA zc, hm]
 obtain ⟨q, hq⟩ : ∃ q : Int, q = 65536 / (m : Int) := ⟨_, rfl⟩
 have q1 : 0 < q := by
  have : 1 ≤ 65536 / (m : Int) := (xd zc).2 zc
  omega
 have q2 : q * (m : Int) ≤ 65536 := by rw [hq]; exact vN _ zc
 have q3 : q ≤ 65536 := by
  have : q * 1 ≤ q * (m : Int) := zy zc zc
  omega
 have eQ : w64 (Int.tdiv 65536 (m : Int)) = q := by
  rw [zH zc, ← hq, aaA zc]
 obtain ⟨s, hs⟩ : ∃ s : Int, s = step % q := ⟨_, rfl⟩
 have s3 : 0 ≤ s := by rw [hs]; exact yE _ zc
 have s4 : s < q := by rw [hs]; exact yr _ q1
 have eS : Int.tmod (w64 step) q = s := by
  rw [aaA zc, zE s1, hs]
 have eM1 : w64 ((m : Int) - 1) = ((m - 1 : Nat) : Int) := by rw [aaA zc]; omega
 obtain ⟨R, hR⟩ : ∃ R : Int, R = s * ((m - 1 : Nat) : Int) := ⟨_, rfl⟩
 have R0 : 0 ≤ R := by rw [hR]; exact zZ s3 zc
 have R1 : R < 65536 := by
  have a1 : s * ((m - 1 : Nat) : Int) ≤ (q - 1) * ((m - 1 : Nat) : Int) := zC zc zc
  have a2 : (q - 1) * ((m - 1 : Nat) : Int) ≤ (q - 1) * (m : Int) := zy zc zc
  have a3 : (q - 1) * (m : Int) = q * (m : Int) - (m : Int) := by rw [vu, vm]
  omega
 have eR : w64 (s * ((m - 1 : Nat) : Int)) = R := by rw [← hR, aaA zc]
 have eD : w64 (65536 - R) = 65536 - R := aaA zc
 obtain ⟨f, hf⟩ : ∃ f : Int, f = first % (65536 - R) := ⟨_, rfl⟩
 have f1 : 0 ≤ f := by rw [hf]; exact yE _ zc
 have f2 : f < 65536 - R := by rw [hf]; exact yr _ zc
 have eF : Int.tmod (w64 first) (65536 - R) = f := by
  rw [aaA zc, zE b1, hf]
 obtain ⟨u1, u2⟩ := aOU at0
 obtain ⟨X, hX⟩ : ∃ X : Int, X = IntKind.wrap IntKind.u16 at0 % 1001 := ⟨_, rfl⟩
 have x1 : 0 ≤ X := zc
 have x2 : X ≤ 1000 := zc
 have eX : Int.tmod (w64 (IntKind.wrap IntKind.u16 at0)) 1001 = X := by
  rw [aaA zc, zE u1, hX]
 unfold al5
 simp only [eM, eQ, eS, eM1, eR, eD]
 refine uC (true, ()) rfl (uF rfl (uV (uN zc (uN zc (uO (0, true, [], ()) rfl ?_)))))
 refine aaN (fun i : Int × Bool × List Int × Unit => ∃ k : Nat, k ≤ m ∧ i = ((k : Int), decide (k = 0), alB f s k, ())) (fun i => ((m : Int) - i.1).toNat) (fun _ => (true, ())) ?_ _ ⟨0, by omega, rfl⟩
 rintro i ⟨k, k1, rfl⟩
 rcases zr k m with g | g
 ·left
  have a1 : s * (k : Int) ≤ R := by rw [hR]; exact zy zc s3
  have a2 : 0 ≤ s * (k : Int) := zZ s3 zc
  have wk : w64 ((k : Int) + 1) = ((k + 1 : Nat) : Int) := by rw [aaA zc]; omega
  have we : w64 (f + w64 (s * (k : Int))) = f + s * (k : Int) := by rw [aaA (x := s * (k : Int)) zc, aaA zc]
  refine ⟨(((k + 1 : Nat) : Int), false, alB f s (k + 1), ()), ?_, ⟨k + 1, g, rfl⟩, by dsimp only; omega, rfl⟩
  rcases zF k with hk | hk
  ·subst hk
   unfold ag0
   simp only [eM, eQ, eS, eM1, eR, eD, eF, eX]
   refine uT rfl (uT sd (uN zc (uN zf (uV (uB (uB (uV (uV ?_))))))))
   rw [we, wk]
   rfl
  ·unfold ag0
   simp only [eM, eQ, eS, eM1, eR, eD, eF, eX]
   refine uF sd (uT sd (uN zc (uN (by rw [ai2]; omega) (uV (uB (uB (uV (uN ?_ ?_))))))))
   ·simp
   ·rw [we, wk, zt, ← aIu]
    rfl
 ·right
  obtain rfl : k = m := zc
  have hT : adX (alB f s k) := aOb m1 m2 f1 s3 (by rw [← hR]; omega)
  have hrT : acJ (2, alB f s k, [], ()) := Or.inr (Or.inl ⟨rfl, hT, rfl⟩)
  have x3 : X * R ≤ 1000 * R := zC x2 R0
  have x4 : 0 ≤ X * R := zZ x1 R0
  have fX : ac1 (mkRat X 1000) := aeM zc ⟨by omega, by omega⟩ zc
  have fR : ac1 (mkRat R 65535) := aeM zc ⟨by omega, by omega⟩ zc
  have fP : ac1 (mkRat (X * R) 65535000) := aeM zc ⟨by omega, by omega⟩ zc
  have fF : ac1 (mkRat f 65535) := aeM zc ⟨by omega, by omega⟩ zc
  have fS : ac1 (mkRat (X * R + 1000 * f) 65535000) := aeM zc ⟨by omega, by omega⟩ zc
  have oX : aa6 (X, 1000, ()) = some (fx (mkRat X 1000), ()) := acC (d := 1000) ⟨by omega, by omega⟩ zc zc
  have oR : aa6 (R, 65535, ()) = some (fx (mkRat R 65535), ()) := acC (d := 65535) ⟨by omega, by omega⟩ zc zc
  have oF : aa6 (List.getD (alB f s k) (0 + Int.toNat 0) 0, 65535, ()) = some (fx (mkRat f 65535), ()) := by
   rw [show (0 + Int.toNat 0) = 0 from rfl, avR f s zc, show f + s * ((0 : Nat) : Int) = f by simp]
   exact acC (d := 65535) ⟨by omega, by omega⟩ zc zc
  have hMul : aiA (fx (mkRat X 1000), fx (mkRat R 65535), ()) = some (fx (mkRat (X * R) 65535000), 0, ()) := by
   rw [aMU fX fR, yv]
   unfold ab7
   rw [if_pos fP]; rfl
  have hAdd : akL (fx (mkRat (X * R) 65535000), fx (mkRat f 65535), ()) = some (fx (mkRat (X * R + 1000 * f) 65535000), 0, ()) := by
   have e : mkRat (X * R) 65535000 + mkRat f 65535 = mkRat (X * R + 1000 * f) 65535000 := by
    rw [yS _ _ zc zc, zX zc zc]
    generalize X * R = Z
    omega
   rw [aMV fP fF, e]
   unfold ab7
   rw [if_pos fS]; rfl
  have hE : abG ((2, alB f s k, [], ()), fx (mkRat X 1000), ()) = some (fx (mkRat (X * R + 1000 * f) 65535000), 0, ()) := by
   rw [arV hrT fX, aDT (aDc x1) (aDe x2)]
   unfold arW
   rw [if_neg (show ¬ (2 : Int) = 1 by decide), if_pos rfl, (aJZ hT x1 x2).1, aLj f s m1]
   have e : mkRat (f * 1000000000000 + s * (X * 1000000000 * ((k - 1 : Nat) : Int))) 65535000000000000 = mkRat (X * R + 1000 * f) 65535000 := by
    have e2 : s * (X * 1000000000 * ((k - 1 : Nat) : Int)) = X * R * 1000000000 := by rw [hR]; grind
    rw [e2, zX zc zc]
    generalize X * R = Z
    omega
   rw [e]; rfl
  unfold ag0
  simp only [eM, eQ, eS, eM1, eR, eD, eF, eX]
  refine uF sd (uF sd (uV (uC _ oX (uC _ oR (uC _ hMul (uN ?_ (uC _ oF (uC _ hAdd (uC _ (?_ : _ = some (true, ())) (uF rfl (uC _ hc (uO (0, ()) rfl ?_))))))))))))
  ·refine ⟨Int.le_refl _, ?_⟩
   rw [aaC, ai2]; omega
  ·rw [zt]
   exact al6 hE
  ·exact aOa _ _ _ _ _ _ _ _ _ _ _ _ _ c hr
set_option maxRecDepth 100000
open Go Go.Vg Go.Proofs
noncomputable section
def aJI : LTab := []
def aJJ : LTab := [(233, 12, 1025, ⟨0, (List Int) × Unit, .dat (.s 0) uX <| .nil, [2], [], 0⟩)]
def aCh : LTab := [(266, 58, 10240, ⟨0, (Int) × Unit, .dat (.s 5) ui <| .nil, [0, 1], [], 0⟩)]
def aJL : LTab := [(248, 3, 1025, ⟨0, (List Int) × (List Int) × Unit, .dat (.s 0) uX <| .dat (.s 1) uX <| .nil, [4], [], 0⟩), (248, 250, 10241, ⟨1, (Int) × (Int) × (List Int) × Unit, .dat (.s 22) ui <| .dat (.s 6) ul <| .app (.s 5) 10 189 ul <| .nil, [21, 20, 1, 4], [], 1⟩)]
def aHA : LTab := [(249, 122, 9217, ⟨0, (Int) × (Int) × (List Int) × Unit, .dat (.s 15) ui <| .dat (.s 6) ul <| .row 3 ul <| .nil, [14, 13, 5, 4, 1], [3], 0⟩)]
def aHx : LTab := [(257, 58, 11265, ⟨0, (Int) × (List Int) × Unit, .dat (.s 19) ui <| .row 6 ul <| .nil, [18, 17, 5, 4, 1], [6], 0⟩), (257, 59802, 21505, ⟨1, (Int) × (Int) × (List Int) × Unit, .dat (.s 26) ui <| .dat (.s 8) uI <| .row 6 ul <| .nil, [25, 24, 7, 6, 23, 22, 21, 20, 19, 18, 17, 5, 4, 1], [6], 0⟩)]
def aHy : LTab := [(267, 122, 11265, ⟨0, (Int) × (Int) × (List Int) × Unit, .dat (.s 8) ui <| .dat (.s 7) uI <| .row 4 ul <| .nil, [6, 5, 4, 0, 1], [4], 0⟩)]
def aAy : LTab := [(268, 28, 2050, ⟨0, Bool × (List Int) × (Int) × Unit, .appN (.s 3) 2 189 ul <| .dat (.s 0) uI <| .nil, [2], [], 1⟩)]
def aHD : LTab := [(205, 218, 5122, ⟨0, (Int) × Bool × (List Int) × Unit, .dat (.s 4) ui <| .appN (.s 3) 5 189 ul <| .nil, [2, 0], [], 1⟩), (205, 55834, 13314, ⟨1, (Int) × (Int) × Unit, .dat (.s 7) ui <| .dat (.s 6) ul <| .nil, [15, 5, 14, 13, 12, 3, 4, 2, 0], [], 0⟩), (205, 55834, 13313, ⟨2, (Int) × (Int) × Unit, .dat (.s 7) ui <| .dat (.s 6) ul <| .nil, [15, 5, 14, 13, 12, 3, 4, 2, 0], [5], 0⟩)]
def aEs : LTab := []
end
end Go.Vs
