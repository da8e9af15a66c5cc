/-
  Trees of what the functions compute, and their laws. Own work; no condition.
-/
import Derived.Test.YtehaimkjedmjfaaGreatDoorClL2
import Derived.Test.YtehaimkjedmjfaaGreatDoorProg
set_option linter.unusedVariables false
set_option linter.unusedSimpArgs false
namespace Go.Vs
open Go Go.Vg
theorem amT {l : List Int} (h : axJ l) (k : Nat) : 0 ≤ l.getD k 0 ∧ l.getD k 0 ≤ 65535 := by
 rw [zX]
 rcases zL k l.length with hk | hk
 ·rw [zH hk]; exact h _ (yv hk)
 ·rw [yD hk]; decide
theorem awX {l : List Int} {v : Int} (h : axJ l) (hv : 0 ≤ v ∧ v ≤ 65535) : axJ (l ++ [v]) := by
 intro w hw
 rcases zw.mp hw with hw | hw
 ·exact h w hw
 ·rw [zG.mp hw]; exact hv
theorem aJg {l : List Int} {v : Int} {k : Nat} (h : axJ l) (hv : 0 ≤ v ∧ v ≤ 65535) : axJ (l.set k v) := by
 intro w hw
 rcases List.mem_or_eq_of_mem_set hw with hw | hw
 ·exact h w hw
 ·rw [hw]; exact hv
theorem aG8 {l : List Int} {k : Nat} (h : axJ l) : axJ (l.take k) := fun w hw => h w (zZ hw)
theorem aFa {A : Type} {R : Int × Int × List Int × Unit → Option ((Int × Int × List Int × Unit) ⊕ (A ⊕ (CvT × Unit)))} (l : List Int) (hl : 2 ≤ l.length ∧ l.length ≤ 8) (he : axJ l)
  (hs : ∀ (k : Nat) (a : Int) (s : List Int), k < l.length → s.length = l.length → axJ s → 0 ≤ a → a ≤ 65535 → R ((k : Int), a, s, ()) = some (.inl (((k + 1 : Nat) : Int), a + 1 + Int.tmod (s.getD k 0) (Int.tdiv 65535 l.length), s.set k (a + Int.tmod (s.getD k 0) (Int.tdiv 65535 l.length)), ())))
  (hd : ∀ (a : Int) (s : List Int), s.length = l.length → R ((l.length : Int), a, s, ()) = some (.inr (.inr ((2, s.take l.length, [], ()), ())))) :
  ∃ t, adX R (0, 0, l, ()) = some (.inr ((2, t, [], ()), ())) ∧ ae5 t := by
 obtain ⟨n, hn⟩ : ∃ n : Nat, n = l.length := ⟨_, rfl⟩
 rw [← hn] at hl hs hd
 have hq : Int.tdiv 65535 (n : Int) = 65535 / (n : Int) := yB zc
 have hq1 : (n : Int) * (65535 / (n : Int)) ≤ 65535 := by have := Int.ediv_mul_le 65535 (b := (n : Int)) zc; rw [Int.mul_comm]; omega
 have hq0 : 1 ≤ 65535 / (n : Int) := by
  rw [xr zc]; omega
 rw [hq] at hs
 obtain ⟨q, hqq⟩ : ∃ q : Int, q = 65535 / (n : Int) := ⟨_, rfl⟩
 rw [← hqq] at hs hq1 hq0
 suffices H : ∃ a, adX R (0, 0, l, ()) = some a ∧ ∃ t, a = .inr ((2, t, [], ()), ()) ∧ ae5 t by
  obtain ⟨a, h1, t, rfl, h2⟩ := H
  exact ⟨t, h1, h2⟩
 refine agB (R := R) (fun i => ∃ k : Nat, k ≤ n ∧ i.1 = (k : Int) ∧ 0 ≤ i.2.1 ∧ i.2.1 ≤ (k : Int) * q ∧ i.2.2.1.length = n ∧ axJ i.2.2.1) (fun i => ((n : Int) - i.1).toNat) (fun a => ∃ t, a = .inr ((2, t, [], ()), ()) ∧ ae5 t) ?_ (0, 0, l, ()) ⟨0, by omega, rfl, by simp, by simp, hn.symm, he⟩
 rintro ⟨i, a, s, u⟩ ⟨k, h1, h2, h3, h4, h5, h6⟩
 simp only at h2 h3 h4 h5 h6
 subst h2
 rcases zL k n with hk | hk
 ·left
  have hg := amT h6 k
  have hm : Int.tmod (s.getD k 0) q = s.getD k 0 % q := zV hg.1
  have m0 := yZ (s.getD k 0) (b := q) zc
  have m1 := yL (s.getD k 0) (b := q) zc
  have hkn : ((k : Int) + 1) * q ≤ (n : Int) * q := xa zc zc
  have hk1 : ((k : Int) + 1) * q = (k : Int) * q + q := by rw [Int.add_mul, Int.one_mul]
  refine ⟨_, hs k a s hk h5 h6 h3 zc, ⟨k + 1, hk, rfl, ?_, ?_, ?_, ?_⟩, ?_⟩
  ·simp only [hm]; omega
  ·simp only [hm]; rw [Int.natCast_add]; show _ ≤ ((k : Int) + 1) * q; omega
  ·simp only [yr, h5]
  ·simp only [hm]; exact aJg h6 ⟨by omega, by omega⟩
  ·simp only; omega
 ·right
  obtain rfl : k = n := zc
  exact ⟨_, hd a s h5, s.take k, rfl, by rw [zK]; omega, by rw [zK]; omega, aG8 h6⟩
theorem s9 {p : Prop} (h : p := by first | omega | ((try simp only [aaB, inb, inc, ge_iff_le, gt_iff_lt, zt, asT, ne_eq, zq, zK, zP, yP, Nat.min_self, DTl]) <;> (first | omega | (refine ⟨?_, ?_⟩ <;> omega) | simp))) : p := h
theorem zb {α : Type} {x y : TT α} {r : Option α} (k : y.toO = r) (h : x.toO = y.toO := by first | exact uV rfl | exact uB rfl | exact uN s9 rfl) : x.toO = r := h.trans k
theorem aHc (d : DrT) (j : Bool × List Int × Unit) (b : Bool) (l : List Int) (hl : 2 ≤ l.length ∧ l.length ≤ 8) (he : axJ l) :
  ∃ t, adX (fun i => (agS d j (b, l, ()) i).toO) (0, 0, l, ()) = some (.inr ((2, t, [], ()), ())) ∧ ae5 t := by
 have hq : Int.tdiv 65535 (l.length : Int) = 65535 / (l.length : Int) := yB zc
 have hq0 : 1 ≤ 65535 / (l.length : Int) := by rw [xr zc]; omega
 have hq1 : 65535 / (l.length : Int) ≤ 65535 := Int.ediv_le_self _ zc
 refine aFa l hl he ?_ ?_
 ·intro k a s hk hs hes h0 h1
  have hg := amT hes k
  have hm : Int.tmod (s.getD k 0) (Int.tdiv 65535 (l.length : Int)) = s.getD k 0 % (65535 / (l.length : Int)) := by rw [hq]; exact zV hg.1
  have m0 := yZ (s.getD k 0) (b := 65535 / (l.length : Int)) zc
  have m1 := yL (s.getD k 0) (b := 65535 / (l.length : Int)) zc
  have e1 : w64 (Int.tdiv 65535 (l.length : Int)) = Int.tdiv 65535 (l.length : Int) := aaD (by rw [hq]; omega)
  have e2 : w64 ((k : Int) + 1) = ((k + 1 : Nat) : Int) := by rw [aaD (x := (k : Int) + 1) zc]; omega
  have e3 : w64 (a + 1) = a + 1 := aaD zc
  have e4 : w64 (a + 1 + Int.tmod (s.getD k 0) (Int.tdiv 65535 (l.length : Int))) = a + 1 + Int.tmod (s.getD k 0) (Int.tdiv 65535 (l.length : Int)) := aaD (by rw [hm]; omega)
  have e5 : w64 (a + 1 + Int.tmod (s.getD k 0) (Int.tdiv 65535 (l.length : Int)) - 1) = a + Int.tmod (s.getD k 0) (Int.tdiv 65535 (l.length : Int)) := by rw [aaD (x := a + 1 + Int.tmod (s.getD k 0) (Int.tdiv 65535 (l.length : Int)) - 1) (by rw [hm]; omega)]; omega
  simp only [agS, aaB, e1, e2, e3, zv, zt, e4, e5]
  refine uT (zl zc) ?_
  refine uN ⟨by omega, by omega⟩ ?_
  refine uN (by rw [hq]; omega) ?_
  refine uN ⟨by omega, by omega⟩ ?_
  refine uB (uB (uB ?_))
  repeat refine uV ?_
  simp only [ab7, e5]
 ·intro a s hs
  simp only [agS, aaB]
  refine uF (zk zc) ?_
  rfl
theorem aHb (d : DrT) (j : Bool × List Int × Unit) (l : List Int) (hl : 2 ≤ l.length ∧ l.length ≤ 8) (he : axJ l) :
  ∃ t, adX (fun i => (agR d j (l, ()) i).toO) (0, 0, l, ()) = some (.inr ((2, t, [], ()), ())) ∧ ae5 t := by
 have hq : Int.tdiv 65535 (l.length : Int) = 65535 / (l.length : Int) := yB zc
 have hq0 : 1 ≤ 65535 / (l.length : Int) := by rw [xr zc]; omega
 have hq1 : 65535 / (l.length : Int) ≤ 65535 := Int.ediv_le_self _ zc
 refine aFa l hl he ?_ ?_
 ·intro k a s hk hs hes h0 h1
  have hg := amT hes k
  have hm : Int.tmod (s.getD k 0) (Int.tdiv 65535 (l.length : Int)) = s.getD k 0 % (65535 / (l.length : Int)) := by rw [hq]; exact zV hg.1
  have m0 := yZ (s.getD k 0) (b := 65535 / (l.length : Int)) zc
  have m1 := yL (s.getD k 0) (b := 65535 / (l.length : Int)) zc
  have e1 : w64 (Int.tdiv 65535 (l.length : Int)) = Int.tdiv 65535 (l.length : Int) := aaD (by rw [hq]; omega)
  have e2 : w64 ((k : Int) + 1) = ((k + 1 : Nat) : Int) := by rw [aaD (x := (k : Int) + 1) zc]; omega
  have e3 : w64 (a + 1) = a + 1 := aaD zc
  have e4 : w64 (a + 1 + Int.tmod (s.getD k 0) (Int.tdiv 65535 (l.length : Int))) = a + 1 + Int.tmod (s.getD k 0) (Int.tdiv 65535 (l.length : Int)) := aaD (by rw [hm]; omega)
  have e5 : w64 (a + 1 + Int.tmod (s.getD k 0) (Int.tdiv 65535 (l.length : Int)) - 1) = a + Int.tmod (s.getD k 0) (Int.tdiv 65535 (l.length : Int)) := by rw [aaD (x := a + 1 + Int.tmod (s.getD k 0) (Int.tdiv 65535 (l.length : Int)) - 1) (by rw [hm]; omega)]; omega
  simp only [agR, aaB, e1, e2, e3, zv, zt, e4, e5]
  refine uT (zl zc) ?_
  refine uN ⟨by omega, by omega⟩ ?_
  refine uN (by rw [hq]; omega) ?_
  refine uN ⟨by omega, by omega⟩ ?_
  refine uB (uB (uB ?_))
  repeat refine uV ?_
  simp only [ab7, e5]
 ·intro a s hs
  simp only [agR, aaB]
  refine uF (zk zc) ?_
  rfl
theorem aHd (d : DrT) (b : Bool) (l : List Int) (hl : l.length ≤ 8) (he : axJ l) (hb : b = true → l = []) :
  ∃ t, (agT d (b, l, ())).toO = some ((2, t, [], ()), ()) ∧ ae5 t := by
 cases b
 ·suffices H : ∃ a, adX (fun i => (ajD d (false, l, ()) i).toO) (l, ()) = some a ∧ ∃ t, a = ((2, t, [], ()), ()) ∧ ae5 t by
   obtain ⟨a, h1, t, rfl, h2⟩ := H
   refine ⟨t, ?_, h2⟩
   simp only [agT]
   refine uF rfl ?_
   exact uO (l, ()) (uB rfl) h1
  refine agB (fun i => i.1.length ≤ 8 ∧ axJ i.1) (fun i => 2 - i.1.length) _ ?_ (l, ()) ⟨hl, he⟩
  rintro ⟨l, u⟩ ⟨h1, h2⟩
  simp only at h1 h2
  simp only [ajD, aaB, zB]
  rcases zL l.length 2 with hk | hk
  ·left
   have e1 : w64 (65535 * (l.length : Int)) = 65535 * (l.length : Int) := aaD zc
   refine ⟨(l ++ [65535 * (l.length : Int)], ()), ?_, ⟨by rw [zq]; simp only [zP, yP]; omega, awX h2 zc⟩, by simp only [zq, zP, yP]; omega⟩
   refine uT (zl zc) ?_
   simp only [e1]
   repeat refine zb ?_
   rfl
  ·right
   rcases (yw d.2.2.2.2.1).symm with hd | hd
   ·refine ⟨_, uF (zk zc) (uF hd ?_), l, rfl, hk, by omega, h2⟩
    repeat refine zb ?_
    rfl
   ·obtain ⟨t, h3, h4⟩ := aHb d (false, l, ()) l ⟨hk, h1⟩ h2
    refine ⟨_, uF (zk zc) (uT hd ?_), t, rfl, h4⟩
    repeat refine zb ?_
    refine uO (0, 0, l, ()) ?_ ?_
    ·repeat refine zb ?_
     rfl
    ·exact h3
 ·suffices H : ∃ a, adX (fun i => (ajE d (true, l, ()) i).toO) (true, [], ()) = some a ∧ ∃ t, a = ((2, t, [], ()), ()) ∧ ae5 t by
   obtain ⟨a, h1, t, rfl, h2⟩ := H
   refine ⟨t, ?_, h2⟩
   simp only [agT]
   refine uT rfl ?_
   exact uO (true, [], ()) rfl h1
  refine agB (fun i => i.2.1.length ≤ 8 ∧ axJ i.2.1 ∧ (i.1 = true → i.2.1 = [])) (fun i => 2 - i.2.1.length) _ ?_ (true, [], ()) ⟨by simp, (by intro v hv; cases hv), fun _ => rfl⟩
  rintro ⟨b, l, u⟩ ⟨h1, h2, h5⟩
  simp only at h1 h2 h5
  simp only [ajE, aaB, zB]
  cases b
  ·rcases zL l.length 2 with hk | hk
   ·left
    have e1 : w64 (65535 * (l.length : Int)) = 65535 * (l.length : Int) := aaD zc
    refine ⟨(false, l ++ [65535 * (l.length : Int)], ()), ?_, ⟨by rw [zq]; simp only [zP, yP]; omega, awX h2 zc, by intro h; cases h⟩, by simp only [zq, zP, yP]; omega⟩
    refine uF rfl (uT (zl zc) ?_)
    simp only [e1]
    repeat refine zb ?_
    rfl
   ·right
    rcases (yw d.2.2.2.2.1).symm with hd | hd
    ·refine ⟨_, uF rfl (uF (zk zc) (uF hd ?_)), l, rfl, hk, by omega, h2⟩
     repeat refine zb ?_
     rfl
    ·obtain ⟨t, h3, h4⟩ := aHc d (true, ‹List Int›, ()) false l ⟨hk, h1⟩ h2
     refine ⟨_, uF rfl (uF (zk zc) (uT hd ?_)), t, rfl, h4⟩
     repeat refine zb ?_
     refine uO (0, 0, l, ()) ?_ ?_
     ·repeat refine zb ?_
      rfl
     ·exact h3
  ·left
   have := h5 rfl
   subst this
   refine ⟨(false, [0], ()), ?_, ⟨by simp, by intro v hv; rw [zG.mp hv]; decide, by intro h; cases h⟩, by simp⟩
   refine uT rfl ?_
   repeat refine zb ?_
   rfl
theorem aHa (d : DrT) (hd : aLk d) : ∃ t, agK (d, ()) = some ((2, t, [], ()), ()) ∧ ae5 t := by
 suffices H : ∃ a, adX (fun i => (ajF d i).toO) (0, true, [], ()) = some a ∧ ∃ b l, a = .inl (b, l, ()) ∧ l.length ≤ 8 ∧ axJ l ∧ (b = true → l = []) by
  obtain ⟨a, h1, b, l, rfl, h2, h3, h4⟩ := H
  obtain ⟨t, h5, h6⟩ := aHd d b l h2 h3 h4
  refine ⟨t, ?_, h6⟩
  simp only [agK, ah9]
  exact uL (b, l, ()) (uO (0, true, [], ()) rfl h1) h5
 refine agB (fun i => ∃ k : Nat, k ≤ 8 ∧ i.1 = (k : Int) ∧ i.2.2.1.length = k ∧ axJ i.2.2.1 ∧ (i.2.1 = true → i.2.2.1 = [] )) (fun i => (8 - i.1).toNat) _ ?_ _ ⟨0, by omega, rfl, rfl, (by intro v hv; cases hv), fun _ => rfl⟩
 rintro ⟨i, b, l, u⟩ ⟨k, h1, h2, h3, h4, h5⟩
 simp only at h2 h3 h4 h5
 subst h2
 simp only [ajF, af3, aaB, zB, aaJ]
 have hg := amT hd.2.1 k
 have e0 : w64 (d.2.1.getD k 0) = d.2.1.getD k 0 := aaD zc
 have e2 : w64 ((k : Int) + 1) = ((k + 1 : Nat) : Int) := by rw [aaD (x := (k : Int) + 1) zc]; omega
 simp only [e0, e2]
 by_cases c1 : (k : Int) < d.2.1.length
 ·by_cases c2 : (k : Int) < 8
  ·left
   refine ⟨(((k + 1 : Nat) : Int), false, l ++ [d.2.1.getD k 0], ()), ?_, ⟨k + 1, by omega, rfl, by simp [h3], awX h4 hg, by intro h; cases h⟩, by simp only; omega⟩
   cases b
   ·refine uF rfl (uT (zl c1) (uT (zl c2) ?_))
    repeat refine zb ?_
    rfl
   ·have := h5 rfl
    subst this
    refine uT rfl (uT (zl c1) (uT (zl c2) ?_))
    repeat refine zb ?_
    rfl
  ·right
   cases b
   ·refine ⟨_, uF rfl (uT (zl c1) (uF (zk c2) ?_)), false, l, rfl, by omega, h4, by intro h; cases h⟩
    repeat refine zb ?_
    rfl
   ·refine ⟨_, uT rfl (uT (zl c1) (uF (zk c2) ?_)), true, [], rfl, by simp, (by intro v hv; cases hv), fun _ => rfl⟩
    repeat refine zb ?_
    rfl
 ·right
  cases b
  ·refine ⟨_, uF rfl (uF (zk c1) ?_), false, l, rfl, by omega, h4, by intro h; cases h⟩
   repeat refine zb ?_
   rfl
  ·refine ⟨_, uT rfl (uF (zk c1) ?_), true, [], rfl, by simp, (by intro v hv; cases hv), fun _ => rfl⟩
   repeat refine zb ?_
   rfl
def aLD : Int → List akY → Int → Prop
 | last, [], t => t = last
 | last, s :: r, t => ahK last s ∧ aLD s.1 r t
theorem aCq : ∀ (l : List akY) (last t : Int) (s : akY), aLD last l t → ahK t s → aLD last (l ++ [s]) s.1
 | [], last, t, s, h, hs => by
  have : t = last := h
  subst this; exact ⟨hs, rfl⟩
 | x :: r, last, t, s, h, hs => ⟨h.1, aCq r x.1 t s h.2 hs⟩
theorem aCp : ∀ (l : List akY) (last t : Int), aLD last l t → 1 ≤ l.length → t < 1000000 → agQ last (l.set (l.length - 1) (1000000, (l.getD (l.length - 1) (0, 0, 0, 0, 0, 0, ())).2))
 | [], _, _, _, h, _ => absurd h zd
 | [s], last, t, h, _, ht => by
  have h2 : t = s.1 := h.2
  obtain ⟨h3, h4⟩ := h.1
  exact ⟨⟨h3, ⟨by have := h4.1; omega, by show (1000000 : Int) ≤ 1000000; omega⟩⟩, rfl⟩
 | s :: x :: r, last, t, h, _, ht => by
  have := aCp (x :: r) s.1 t h.2 ze ht
  simp only [zP, Nat.add_sub_cancel] at this ⊢
  exact ⟨h.1, by simpa using this⟩
theorem ap0 {a b : Int} (ha : inR a 1 36) (hb : inR b 1 12) : aa8 (a, b, ()) = some (!decide (Nat.gcd a.natAbs b.natAbs = 1), ()) := by
 unfold aa8
 rw [if_pos ⟨ha, hb⟩]
theorem aBI (d : DrT) (hd : aLk d) : ∃ l, ad8 (d, ()) = some ((3, [], l, ()), ()) ∧ adL l := by
 suffices H : ∃ a, adX (fun i => (ahC d i).toO) (0, 0, true, [], ()) = some a ∧ ∃ l, a = ((3, [], l, ()), ()) ∧ adL l by
  obtain ⟨a, h1, l, rfl, h2⟩ := H
  refine ⟨l, ?_, h2⟩
  simp only [ad8, afI]
  exact uO (0, 0, true, [], ()) (uB rfl) h1
 obtain ⟨n, hn⟩ : ∃ n : Nat, n = (if 3 < d.2.2.1.length then 3 else d.2.2.1.length) := ⟨_, rfl⟩
 have hnz : (if 3 < len d.2.2.1 then 3 else len d.2.2.1) = (n : Int) := by
  rw [hn]
  by_cases h : 3 < d.2.2.1.length
  ·rw [if_pos h]; exact (if_pos (by rw [aaB]; omega)).trans rfl
  ·rw [if_neg h]; exact (if_neg (by rw [aaB]; omega)).trans rfl
 have hn3 : n ≤ 3 := by rw [hn]; split <;> omega
 have hnl : n ≤ d.2.2.1.length := by rw [hn]; split <;> omega
 clear hn
 refine agB (fun i : Int × Int × Bool × List akY × Unit => ∃ k : Nat, k ≤ n ∧ i.1 = (k : Int) ∧ i.2.2.2.1.length = k ∧ (i.2.2.1 = true → i.2.2.2.1 = []) ∧ (i.2.2.1 = false → 1 ≤ k) ∧ 0 ≤ i.2.1 ∧ i.2.1 ≤ 256000 * (k : Int) ∧ aLD 0 i.2.2.2.1 i.2.1) (fun i => (3 - i.1).toNat) _ ?_ _ ⟨0, by omega, rfl, rfl, fun _ => rfl, (by intro h; cases h), xk _, (by show (0 : Int) ≤ _; omega), rfl⟩
 rintro ⟨i, t, b, l, u⟩ ⟨k, h1, h2, h3, h4, h5, h6, h7, h8⟩
 simp only at h2 h3 h4 h5 h6 h7 h8
 subst h2
 simp only [ahC, aeD, gP, hnz, aaJ, zB]
 rcases zL k n with hk | hk
 ·left
  have hmem : d.2.2.1.getD k (0, 0, 0, 0, 0, 0, ()) ∈ d.2.2.1 := by
   rw [zX, zH zc]; exact yv _
  obtain ⟨p, hp⟩ : ∃ p, p = d.2.2.1.getD k (0, 0, 0, 0, 0, 0, ()) := ⟨_, rfl⟩
  have hpb := hd.2.2 p (by rw [hp]; exact hmem)
  simp only [← hp]
  clear hp hmem
  obtain ⟨w, m, a, o, nu, de, uu⟩ := p
  obtain ⟨b1, b2, b3, b4, b5, b6⟩ := hpb
  simp only [inR] at b1 b2 b3 b4 b5 b6 ⊢
  have q1 : w64 w = w := aaD zc
  have q2 : w64 m = m := aaD zc
  have q3 : w64 a = a := aaD zc
  have q4 : w64 o = o := aaD zc
  have q5 : Int.tmod nu 4 = nu % 4 := zV zc
  have q6 : Int.tmod de 4 = de % 4 := zV zc
  have q7 : w64 (nu % 4) = nu % 4 := aaD zc
  have q8 : w64 (de % 4) = de % 4 := aaD zc
  have q9 : w64 (1 + nu % 4) = 1 + nu % 4 := aaD zc
  have q10 : w64 (1 + de % 4) = 1 + de % 4 := aaD zc
  have q11 : w64 (t + 1000) = t + 1000 := aaD zc
  have q12 : w64 (1000 * w) = 1000 * w := aaD zc
  have q13 : w64 (t + 1000 + 1000 * w) = t + 1000 + 1000 * w := aaD zc
  have q14 : w64 (100 * m) = 100 * m := aaD zc
  have q15 : w64 (10 * a) = 10 * a := aaD zc
  have q16 : w64 (10 * o) = 10 * o := aaD zc
  have q17 : w64 (0 - 100 * m) = 0 - 100 * m := aaD zc
  have q18 : w64 (0 - 10 * a) = 0 - 10 * a := aaD zc
  have q19 : w64 ((k : Int) + 1) = ((k + 1 : Nat) : Int) := by rw [aaD (x := (k : Int) + 1) zc]; omega
  simp only [q1, q2, q3, q4, q5, q6, q7, q8, q9, q10, q11, q12, q13, q14, q15, q16, q17, q18, q19]
  have inv : ∀ M A N D : Int, inR M (-100000000) 100000000 → inR A (-100000000) 100000000 → inR N 1 36 → inR D 1 12 → Nat.gcd N.natAbs D.natAbs = 1 →
    (∃ k' : Nat, k' ≤ n ∧ ((k + 1 : Nat) : Int) = (k' : Int) ∧ (l ++ [((t + 1000 + 1000 * w, M, A, N, D, 10 * o, ()) : akY)]).length = k' ∧ ((false = true) → l ++ [((t + 1000 + 1000 * w, M, A, N, D, 10 * o, ()) : akY)] = []) ∧ (false = false → 1 ≤ k') ∧ 0 ≤ t + 1000 + 1000 * w ∧ t + 1000 + 1000 * w ≤ 256000 * (k' : Int) ∧ aLD 0 (l ++ [((t + 1000 + 1000 * w, M, A, N, D, 10 * o, ()) : akY)]) (t + 1000 + 1000 * w)) := by
   intro M A N D c1 c2 c3 c4 c5
   refine ⟨k + 1, hk, rfl, by simp [h3], (by intro h; cases h), (by intro _; omega), by omega, by omega, ?_⟩
   exact aCq l 0 t (t + 1000 + 1000 * w, M, A, N, D, 10 * o, ()) h8 ⟨⟨c1, c2, ⟨by show -100000000 ≤ 10 * o; omega, by show 10 * o ≤ 100000000; omega⟩, c3, c4, c5⟩, ⟨by show t + 1 ≤ t + 1000 + 1000 * w; omega, by show t + 1000 + 1000 * w ≤ 1000000; omega⟩⟩
  have n1 : inR (1 : Int) 1 36 := zd
  have n2 : inR (1 : Int) 1 12 := zd
  have n3 : inR (1 + nu % 4) 1 36 := ⟨by omega, by omega⟩
  have n4 : inR (1 + de % 4) 1 12 := ⟨by omega, by omega⟩
  have n5 : inR (100 * m) (-100000000) 100000000 := ⟨by omega, by omega⟩
  have n6 : inR (10 * a) (-100000000) 100000000 := ⟨by omega, by omega⟩
  have n7 : inR (if 0 - 100 * m > 100 * m then 0 - 100 * m else 100 * m) (-100000000) 100000000 := by split <;> exact ⟨by omega, by omega⟩
  have n8 : inR (if 0 - 10 * a > 10 * a then 0 - 10 * a else 10 * a) (-100000000) 100000000 := by split <;> exact ⟨by omega, by omega⟩
  have g1 : ∀ D : Int, Nat.gcd (1 : Int).natAbs D.natAbs = 1 := fun D => Nat.gcd_one_left _
  have g2 : ∀ N : Int, Nat.gcd N.natAbs (1 : Int).natAbs = 1 := fun N => Nat.gcd_one_right _
  rcases (yw d.2.2.2.1).symm with hr | hr <;> rcases (yw d.2.2.2.2.1).symm with hi | hi <;> by_cases g : Nat.gcd (1 + nu % 4).natAbs (1 + de % 4).natAbs = 1
  all_goals
   cases b
   ·apply Exists.intro
    refine ⟨?_, ?_, ?_⟩
    ·refine uF rfl (uT (zl zc) (uN ⟨by omega, by rw [aaB]; omega⟩ ?_))
     first | refine uT hr ?_ | refine uF hr ?_
     first | refine uT hi ?_ | refine uF hi ?_
     first | refine uC _ (ap0 n3 n4) ?_ | refine uC _ (ap0 n3 n2) ?_
     first | refine uF (congrArg Bool.not (zl g)) ?_ | refine uF (congrArg Bool.not (zl (g2 _))) ?_ | refine uT (congrArg Bool.not (zk g)) ?_
     repeat refine zb ?_
     rfl
    ·exact inv _ _ _ _ zj zj zj zj (by first | exact g | exact g2 _ | exact g1 _)
    ·show (3 - ((k + 1 : Nat) : Int)).toNat < (3 - (k : Int)).toNat; omega
   ·have := h4 rfl
    subst this
    apply Exists.intro
    refine ⟨?_, ?_, ?_⟩
    ·refine uT rfl (uT (zl zc) (uN ⟨by omega, by rw [aaB]; omega⟩ ?_))
     first | refine uT hr ?_ | refine uF hr ?_
     first | refine uT hi ?_ | refine uF hi ?_
     first | refine uC _ (ap0 n3 n4) ?_ | refine uC _ (ap0 n3 n2) ?_
     first | refine uF (congrArg Bool.not (zl g)) ?_ | refine uF (congrArg Bool.not (zl (g2 _))) ?_ | refine uT (congrArg Bool.not (zk g)) ?_
     repeat refine zb ?_
     rfl
    ·exact inv _ _ _ _ zj zj zj zj (by first | exact g | exact g2 _ | exact g1 _)
    ·show (3 - ((k + 1 : Nat) : Int)).toNat < (3 - (k : Int)).toNat; omega
 ·right
  obtain rfl : k = n := zc
  have e0 : w64 (1 - 1) = 0 := aaD zc
  cases b
  ·have h5 := h5 rfl
   rcases (yw d.2.2.2.2.1).symm with hi | hi
   ·have e1 : w64 ((k : Int) - 1) = ((k - 1 : Nat) : Int) := by rw [aaD (x := (k : Int) - 1) zc]; omega
    refine ⟨_, uF rfl (uF (zk zc) (uF (beq_eq_false_iff_ne.mpr zc) (uF hi (uN ?_ rfl)))), _, rfl, ?_⟩
    ·rw [e1, aaB]; exact ⟨by omega, by omega⟩
    ·rw [e1, zt, zv, ← h3, zx (by rw [yr]; omega)]
     refine ⟨by rw [yr]; omega, by rw [yr]; omega, aCp l 0 t h8 zc zc⟩
   ·refine ⟨_, uF rfl (uF (zk zc) (uF (beq_eq_false_iff_ne.mpr zc) (uT hi (uN ?_ rfl)))), _, rfl, ?_⟩
    ·rw [aaB]; exact ⟨by simp only [asT]; omega, by omega⟩
    ·rw [e0]
     obtain ⟨s, r, rfl⟩ : ∃ s r, l = s :: r := by
      cases l with
      | nil => simp at h3; omega
      | cons s r => exact ⟨s, r, rfl⟩
     show adL [((1000000, s.2) : akY)]
     exact ⟨zm 1, by show 1 ≤ 4; omega, ⟨h8.1.1, ⟨by show (0 : Int) + 1 ≤ 1000000; omega, by show (1000000 : Int) ≤ 1000000; omega⟩⟩, rfl⟩
  ·have := h4 rfl
   subst this
   have : k = 0 := h3.symm
   subst this
   rcases (yw d.2.2.2.2.1).symm with hi | hi
   ·refine ⟨_, uT rfl (uF (zk zc) (uT rfl (uF hi rfl))), _, rfl, ?_⟩
    rw [e0]; decide
   ·refine ⟨_, uT rfl (uF (zk zc) (uT rfl (uT hi rfl))), _, rfl, ?_⟩
    rw [e0]; decide
theorem aJz (d : DrT) (hd : aLk d) : ∃ c, aaK (d, ()) = some (c, ()) ∧ acV c := by
 obtain ⟨k, ta, pa, ro, ri, u⟩ := d
 obtain ⟨l1, e1, o1⟩ := aHa _ hd
 obtain ⟨l2, e2, o2⟩ := aBI _ hd
 simp only [aaK, akC]
 by_cases c0 : Int.tmod k 4 = 0
 ·exact ⟨(1, [], [], ()), uT (zz.mpr c0) rfl, Or.inl ⟨rfl, rfl, rfl⟩⟩
 ·by_cases c1 : Int.tmod k 4 = 1
  ·refine ⟨(3, [], l2, ()), uF (beq_eq_false_iff_ne.mpr c0) (uT (zz.mpr c1) (uC _ e2 ?_)), Or.inr (Or.inr ⟨rfl, rfl, o2⟩)⟩
   repeat refine zb ?_
   rfl
  ·refine ⟨(2, l1, [], ()), uF (beq_eq_false_iff_ne.mpr c0) (uF (beq_eq_false_iff_ne.mpr c1) (uC _ e1 ?_)), Or.inr (Or.inl ⟨rfl, o1, rfl⟩)⟩
   repeat refine zb ?_
   rfl
theorem avX (d : DrT) (y) (h : agK (d, ()) = some y) : (ah9 d).toO = some y := h
theorem aqK (d : DrT) (y) (h : ad8 (d, ()) = some y) : (afI d).toO = some y := h
theorem ax2 (d : DrT) (y) (h : aaK (d, ()) = some y) : (akC d).toO = some y := h
def aAI : Int → List akY → Prop
 | last, [] => last = 1000000
 | last, s :: r => (agX s ∧ last < s.1) ∧ aAI s.1 r
theorem aCj : ∀ (l : List akY) (last : Int), aAI last l → last ≤ 1000000
 | [], _, h => by have : _ = _ := h; omega
 | _ :: r, _, h => by have := aCj r _ h.2; have := h.1.2; omega
theorem ai8 : ∀ (l : List akY) (last : Int), aAI last l ↔ agQ last l
 | [], _ => Iff.rfl
 | s :: r, last => by
  constructor
  ·intro h
   have := aCj r _ h.2
   exact ⟨⟨h.1.1, by have := h.1.2; omega, this⟩, (ai8 r _).1 h.2⟩
  ·intro h
   exact ⟨⟨h.1.1, by have := h.1.2.1; omega⟩, (ai8 r _).2 h.2⟩
theorem aDf {last : Int} {s : akY} {r : List akY} : aAI last (s :: r) ↔ (agX s ∧ last < s.1) ∧ aAI s.1 r := Iff.rfl
theorem ax1 (c : CvT) (y) (h : afU (c, ()) = some y) : (anH c).toO = some y := by
 unfold afU at h
 split at h
 case isFalse => cases h
 case isTrue hp =>
 injection h with h
 subst h
 obtain ⟨kind, tab, l, u0⟩ := c
 obtain ⟨hs1, hs2⟩ := hp
 dsimp only at hs1 hs2
 unfold anH
 dsimp only
 by_cases k1 : kind = 1
 ·subst k1
  have hd : decide (acV (1, tab, l, u0)) = decide (tab = [] ∧ l = []) := decide_eq_decide.2 ⟨fun h => by
   rcases h with h | h | h
   ·exact h.2
   ·exact absurd h.1 (by decide : ¬ (1 : Int) = 2)
   ·exact absurd h.1 (by decide : ¬ (1 : Int) = 3), fun h => Or.inl ⟨rfl, h⟩⟩
  rw [hd]
  refine uT rfl ?_
  simp only [aiI]
  by_cases a1 : tab = []
  ·refine uT (zl a1) ?_
   rw [ab7]
   by_cases a2 : l = []
   ·rw [zl a2, zl (show tab = [] ∧ l = [] from ⟨a1, a2⟩)]
   ·rw [zk a2, zk (fun h : tab = [] ∧ l = [] => a2 h.2)]
  ·refine uF (zk a1) ?_
   rw [ab7, zk (fun h : tab = [] ∧ l = [] => a1 h.1)]
 refine uF (beq_eq_false_iff_ne.2 k1) ?_
 by_cases k2 : kind = 2
 ·subst k2
  have hd : decide (acV (2, tab, l, u0)) = decide (ae5 tab ∧ l = []) := decide_eq_decide.2 ⟨fun h => by
   rcases h with h | h | h
   ·exact absurd h.1 (by decide : ¬ (2 : Int) = 1)
   ·exact h.2
   ·exact absurd h.1 (by decide : ¬ (2 : Int) = 3), fun h => Or.inr (Or.inl ⟨rfl, h⟩)⟩
  rw [hd]
  refine uT rfl (uO (0, ()) rfl ?_)
  refine abE (fun i : Int × Unit => ∃ k : Nat, k ≤ tab.length ∧ i = ((k : Int), ()) ∧ ∀ v ∈ tab.take k, inR v 0 65535) (fun i => ((tab.length : Int) - i.1).toNat) (fun _ => (decide (ae5 tab ∧ l = []), ())) ?_ _ ⟨0, by omega, rfl, by simp⟩
  rintro i ⟨k, h3, rfl, h4⟩
  simp only [aqN, aaJ]
  rcases zL k tab.length with hk | hk
  ·have e : tab.getD k 0 = tab[k] := by simp [hk]
   rw [e]
   by_cases c : inR tab[k] 0 65535
   ·left
    refine ⟨(((k + 1 : Nat) : Int), ()), ?_, ⟨k + 1, by omega, rfl, ?_⟩, by simp only; omega, zf⟩
    ·refine uT sd (uN sd (uC _ (acP _ _ _) (uF (by rw [zl c]; rfl) ?_)))
     rw [aaD (x := (k : Int) + 1) zc]
     rfl
    ·intro v hv
     rw [yC hk] at hv
     rcases zw.1 hv with hv | hv
     ·exact h4 v hv
     ·rw [zG.1 hv]; exact c
   ·right
    rw [zk (fun h : ae5 tab ∧ l = [] => c (h.1.2.2 _ (yv hk)))]
    exact uT sd (uN sd (uC _ (acP _ _ _) (uT (by rw [zk c]; rfl) rfl)))
  ·right
   rw [zx hk] at h4
   refine uF sd (uC _ (acP _ _ _) ?_)
   by_cases c1 : inR (len tab) 2 17
   ·refine uT (zl c1) ?_
    rw [ab7, aiI]
    have ht : ae5 tab := ⟨by have := c1.1; rw [aaB] at this; omega, by have := c1.2; rw [aaB] at this; omega, h4⟩
    by_cases c2 : l = []
    ·rw [zl c2, zl (show ae5 tab ∧ l = [] from ⟨ht, c2⟩)]
    ·rw [zk c2, zk (fun h : ae5 tab ∧ l = [] => c2 h.2)]
   ·refine uF (zk c1) ?_
    rw [ab7, zk (fun h : ae5 tab ∧ l = [] => c1 ⟨by have := h.1.1; rw [aaB]; omega, by have := h.1.2.1; rw [aaB]; omega⟩)]
 refine uF (beq_eq_false_iff_ne.2 k2) ?_
 by_cases k3 : kind = 3
 ·subst k3
  have hd : decide (acV (3, tab, l, u0)) = decide (tab = [] ∧ adL l) := decide_eq_decide.2 ⟨fun h => by
   rcases h with h | h | h
   ·exact absurd h.1 (by decide : ¬ (3 : Int) = 1)
   ·exact absurd h.1 (by decide : ¬ (3 : Int) = 2)
   ·exact h.2, fun h => Or.inr (Or.inr ⟨rfl, h⟩)⟩
  rw [hd]
  refine uT rfl (uO (0, 0, ()) rfl ?_)
  refine abE (fun i : Int × Int × Unit => ∃ k : Nat, k ≤ l.length ∧ i.1 = (k : Int) ∧ (aAI 0 l ↔ aAI i.2.1 (l.drop k))) (fun i => ((l.length : Int) - i.1).toNat) (fun _ => (decide (tab = [] ∧ adL l), ())) ?_ _ ⟨0, by omega, rfl, Iff.rfl⟩
  rintro ⟨i, last, u⟩ ⟨k, h3, h4, h6⟩
  dsimp only at h4 h6
  subst h4
  simp only [aqM, aaJ]
  rcases zL k l.length with hk | hk
  ·have e : l.getD k zs = l[k] := by simp [hk]
   rw [yi hk, aDf] at h6
   have hv : ag6 (((l.getD k zs).1, (l.getD k zs).2.1, (l.getD k zs).2.2.1, (l.getD k zs).2.2.2.1, (l.getD k zs).2.2.2.2.1, (l.getD k zs).2.2.2.2.2.1, ()), ()) = some (decide (agX l[k]), ()) := by
    rw [← e]; rfl
   by_cases c : agX l[k]
   ·by_cases c2 : last < l[k].1
    ·left
     refine ⟨(((k + 1 : Nat) : Int), l[k].1, ()), ?_, ⟨k + 1, by omega, rfl, ⟨fun h => (h6.1 h).2, fun h => h6.2 ⟨⟨c, c2⟩, h⟩⟩⟩, by dsimp only; omega, zf⟩
     refine uT sd (uN sd (uC _ hv (uF (by rw [zl c]; rfl) (uF (zk (by rw [e]; omega)) ?_))))
     rw [aaD (x := (k : Int) + 1) zc, e]
     rfl
    ·right
     rw [zk (fun h : tab = [] ∧ adL l => c2 (h6.1 ((ai8 _ _).2 h.2.2.2)).1.2)]
     exact uT sd (uN sd (uC _ hv (uF (by rw [zl c]; rfl) (uT (zl (by rw [e]; omega)) rfl))))
   ·right
    rw [zk (fun h : tab = [] ∧ adL l => c (h6.1 ((ai8 _ _).2 h.2.2.2)).1.1)]
    exact uT sd (uN sd (uC _ hv (uT (by rw [zk c]; rfl) rfl)))
  ·right
   have hkl : k = l.length := zc
   subst hkl
   rw [List.drop_length] at h6
   have h7 : agQ 0 l ↔ last = 1000000 := by rw [← ai8]; exact h6
   refine uF sd (uC _ (acP _ _ _) ?_)
   by_cases c1 : inR (len l) 1 4
   ·refine uT (zl c1) ?_
    by_cases c2 : last = 1000000
    ·refine uT (zz.2 c2) ?_
     have hs : adL l := ⟨by have := c1.1; rw [aaB] at this; omega, by have := c1.2; rw [aaB] at this; omega, h7.2 c2⟩
     rw [ab7, aiI]
     by_cases c3 : tab = []
     ·rw [zl c3, zl (show tab = [] ∧ adL l from ⟨c3, hs⟩)]
     ·rw [zk c3, zk (fun h : tab = [] ∧ adL l => c3 h.1)]
    ·refine uF (beq_eq_false_iff_ne.2 c2) ?_
     rw [ab7, zk (fun h : tab = [] ∧ adL l => c2 (h7.1 h.2.2.2))]
   ·refine uF (zk c1) ?_
    rw [ab7, zk (fun h : tab = [] ∧ adL l => c1 ⟨by have := h.2.1; rw [aaB]; omega, by have := h.2.2.1; rw [aaB]; omega⟩)]
 ·refine uF (beq_eq_false_iff_ne.2 k3) ?_
  rw [ab7, zk (fun h : acV (kind, tab, l, u0) => by
   rcases h with h | h | h
   ·exact k1 h.1
   ·exact k2 h.1
   ·exact k3 h.1)]
theorem ajS {α : Type} {d : α} {a b : List α} (hl : a.length = b.length) (h : ∀ j, j < a.length → a.getD j d = b.getD j d) : a = b := by
 refine List.ext_getElem hl (fun i h1 h2 => ?_)
 have := h i h1
 simpa [h1, h2] using this
theorem aL0 {a b : akY} : a = b ↔ a.1 = b.1 ∧ a.2.1 = b.2.1 ∧ a.2.2.1 = b.2.2.1 ∧ a.2.2.2.1 = b.2.2.2.1 ∧ a.2.2.2.2.1 = b.2.2.2.2.1 ∧ a.2.2.2.2.2.1 = b.2.2.2.2.2.1 := by
 obtain ⟨a1, a2, a3, a4, a5, a6, a7⟩ := a
 obtain ⟨b1, b2, b3, b4, b5, b6, b7⟩ := b
 constructor
 ·intro h; cases h; exact ⟨rfl, rfl, rfl, rfl, rfl, rfl⟩
 ·rintro ⟨h1, h2, h3, h4, h5, h6⟩
  dsimp only at h1 h2 h3 h4 h5 h6
  subst h1 h2 h3 h4 h5 h6; rfl
theorem aAR (a b : CvT) (y) (h : aj5 (a, b, ()) = some y) : (aqL a b).toO = some y := by
 unfold aj5 at h
 split at h
 case isFalse => cases h
 case isTrue hp =>
 injection h with h
 subst h
 obtain ⟨k1, t1, s1, u1⟩ := a
 obtain ⟨k2, t2, s2, u2⟩ := b
 obtain ⟨p1, p2⟩ := hp
 dsimp only at p1 p2 ⊢
 unfold aqL
 dsimp only
 by_cases c1 : k1 = k2
 case neg =>
  rw [aaQ (fun h => c1 (by injection h with h _))]
  exact uR _ (uT (by simpa using c1) rfl)
 by_cases c2 : t1.length = t2.length
 case neg =>
  rw [aaQ (fun h => c2 (by injection h with _ h; injection h with h _; rw [h]))]
  exact uR _ (uF (by simpa using c1) (uT (by simp only [aaB, yf]; omega) rfl))
 by_cases c3 : s1.length = s2.length
 case neg =>
  rw [aaQ (fun h => c3 (by injection h with _ h; injection h with _ h; injection h with h _; rw [h]))]
  exact uR _ (uF (by simpa using c1) (uF (by simp only [aaB, bne_eq_false_iff_eq]; omega) (uT (by simp only [aaB, yf]; omega) rfl)))
 refine uL (false, ()) (uF (by simpa using c1) (uF (by simp only [aaB, bne_eq_false_iff_eq]; omega) (uF (by simp only [aaB, bne_eq_false_iff_eq]; omega) rfl))) ?_
 unfold auA
 refine uO (0, ()) rfl ?_
 refine abE (fun i : Int × Unit => ∃ k : Nat, k ≤ t1.length ∧ i.1 = (k : Int) ∧ ∀ j, j < k → t1.getD j 0 = t2.getD j 0) (fun i => ((t1.length : Int) - i.1).toNat) (fun _ => (eqb (k1, t1, s1, u1) (k2, t2, s2, u2), ())) ?_ _ ⟨0, by omega, rfl, fun j hj => by omega⟩
 rintro ⟨i, u⟩ ⟨k, h1, h2, h3⟩
 dsimp only at h2
 subst h2
 simp only [at9, aaJ]
 rcases zL k t1.length with hk | hk
 ·by_cases c : t1.getD k 0 = t2.getD k 0
  ·left
   refine ⟨(((k + 1 : Nat) : Int), ()), ?_, ⟨k + 1, by omega, rfl, fun j hj => ?_⟩, by dsimp only; omega, zf⟩
   ·refine uT sd (uN sd (uN sd (uF (by rw [c]; simp) ?_)))
    rw [aaD (x := (k : Int) + 1) zc]; rfl
   ·rcases zL j k with g | g
    ·exact h3 j g
    ·obtain rfl : j = k := zc
     exact c
  ·right
   rw [aaQ (fun h => c (by injection h with _ h; injection h with h _; rw [h]))]
   exact uT sd (uN sd (uN sd (uT (by simpa using c) rfl)))
 ·right
  obtain rfl : k = t1.length := zc
  have ht : t1 = t2 := ajS c2 h3
  refine uF sd (uO (0, ()) rfl ?_)
  refine abE (fun i : Int × Unit => ∃ k : Nat, k ≤ s1.length ∧ i.1 = (k : Int) ∧ ∀ j, j < k → s1.getD j zs = s2.getD j zs) (fun i => ((s1.length : Int) - i.1).toNat) (fun _ => Sum.inr (eqb (k1, t1, s1, u1) (k2, t2, s2, u2), ())) ?_ _ ⟨0, by omega, rfl, fun j hj => by omega⟩
  rintro ⟨i, u⟩ ⟨k, h1, h2, h3⟩
  dsimp only at h2
  subst h2
  simp only [at8, aaJ]
  rcases zL k s1.length with hk | hk
  ·by_cases c : s1.getD k zs = s2.getD k zs
   ·left
    refine ⟨(((k + 1 : Nat) : Int), ()), ?_, ⟨k + 1, by omega, rfl, fun j hj => ?_⟩, by dsimp only; omega, zf⟩
    ·refine uT sd (uN sd (uN sd (uF (by rw [c]; simp) ?_)))
     rw [aaD (x := (k : Int) + 1) zc]; rfl
    ·rcases zL j k with g | g
     ·exact h3 j g
     ·obtain rfl : j = k := zc
      exact c
   ·right
    rw [aaQ (fun h => c (by injection h with _ h; injection h with _ h; injection h with h _; rw [h]))]
    refine uT sd (uN sd (uN sd (uT ?_ rfl)))
    rw [aL0] at c
    generalize s1.getD k zs = x at c
    generalize s2.getD k zs = z at c
    obtain ⟨x1, x2, x3, x4, x5, x6, x7⟩ := x
    obtain ⟨z1, z2, z3, z4, z5, z6, z7⟩ := z
    dsimp only at c ⊢
    rw [zU]
    split
    ·rename_i e1
     split
     ·rename_i e2
      split
      ·rename_i e3
       split
       ·rename_i e4
        split
        ·rename_i e5
         split
         ·rename_i e6
          exact absurd ⟨zz.1 e1, zz.1 e2, zz.1 e3, zz.1 e4, zz.1 e5, zz.1 e6⟩ c
         ·rfl
        ·rfl
       ·rfl
      ·rfl
     ·rfl
    ·rfl
  ·right
   obtain rfl : k = s1.length := zc
   have hs : s1 = s2 := ajS c3 h3
   refine uF sd ?_
   rw [ab7, ac5 (by rw [c1, ht, hs])]
noncomputable def aM4 (off : Int) (y : Rat) : Option Rat := (aNh (y + mkRat off 1000000)).map aMH
theorem aFb {c : CvT} (h : acV c) : shC c := by
 rcases h with ⟨h1, h2, h3⟩ | ⟨h1, h2, h3⟩ | ⟨h1, h2, h3⟩
 ·unfold shC; rw [h2, h3]; exact ⟨by simp, by simp⟩
 ·unfold shC; rw [h3]; exact ⟨by have := h2.2.1; omega, by simp⟩
 ·unfold shC; rw [h2]; exact ⟨by simp, by have := h3.2.1; omega⟩
theorem ao4 {k : IntKind} {x a b : Int} (h : k.min ≤ x ∧ x ≤ k.max) (ha : k.min = a := by rfl) (hb : k.max = b := by rfl) : inR x a b := by subst ha; subst hb; exact h
theorem aEH (g : GrT) : ah0 ((g.1, g.2.1, g.2.2.1, ()), ()) = some (decide (atT g), ()) := rfl
theorem aAr {l : List CvT} (h : shL l ∧ ∀ c ∈ l, shC c) : acK (l, ()) = some (decide (ai1 l), ()) := if_pos h
theorem aEG {x : ElT} (h : shE x) : aeW ((x.1, x.2.1, x.2.2.1, x.2.2.2.1, (x.2.2.2.2.1.1, x.2.2.2.2.1.2.1, x.2.2.2.2.1.2.2.1, ()), x.2.2.2.2.2.1, x.2.2.2.2.2.2.1, x.2.2.2.2.2.2.2.1, ()), ()) = some (decide (ad1 x.2.2.1 x.2.2.2.1), ()) := if_pos h
theorem aB5 {g : GrT} (h : shG g) : ac0 ((g.1, g.2.1, g.2.2.1, ()), ()) = some (decide (af2 g), ()) := if_pos h
theorem aB4 {p : List OpT} (i o : Int) (h : shL p) : acZ (p, i, o, ()) = some ((aeB p i o).isSome, ()) := if_pos h
theorem apW (n : Int) : (n == 0) = decide (n = 0) := (afH (by rw [zz])).symm
theorem av3 (x : ElT) (y) (h : aeX (x, ()) = some y) : (alK x).toO = some y := by
 unfold aeX at h
 split at h
 case isFalse => cases h
 case isTrue hl =>
 have hx : shE x := hl
 obtain ⟨a1, a2, a3, a4, a5⟩ := hl
 injection h with h
 subst h
 dsimp only at a1 a2 a3 a4 a5 ⊢
 unfold alK ahD ahE ahF
 simp only [aEH, aAr a1, aEG hx, aB5 a4, aB4 _ _ a5]
 have k1 : x.1 = 1 ∨ x.1 = 2 ∨ x.1 = 3 ∨ x.1 = 4 ∨ (x.1 ≠ 1 ∧ x.1 ≠ 2 ∧ x.1 ≠ 3 ∧ x.1 ≠ 4) := zc
 rcases k1 with k | k | k | k | ⟨e1, e2, e3, e4⟩
 ·simp only [k, show ((1 : Int) == 1) = true from rfl, show ((1 : Int) == 2) = false from rfl, show ((1 : Int) == 3) = false from rfl, show ((1 : Int) == 4) = false from rfl]
  repeat' (first | (refine uC _ rfl ?_) | (refine (adZ ..).trans ?_; split))
  all_goals simp_all [ab7, abM, aIP, aIO, amO, adZ, apW]
 ·simp only [k, show ((2 : Int) == 1) = false from rfl, show ((2 : Int) == 2) = true from rfl, show ((2 : Int) == 3) = false from rfl, show ((2 : Int) == 4) = false from rfl]
  repeat' (first | (refine uC _ rfl ?_) | (refine (adZ ..).trans ?_; split))
  all_goals simp_all [ab7, abM, aIP, aIO, amO, adZ, apW]
 ·simp only [k, show ((3 : Int) == 1) = false from rfl, show ((3 : Int) == 2) = false from rfl, show ((3 : Int) == 3) = true from rfl, show ((3 : Int) == 4) = false from rfl]
  repeat' (first | (refine uC _ rfl ?_) | (refine (adZ ..).trans ?_; split))
  all_goals simp_all [ab7, abM, aIP, aIO, amO, adZ, apW]
 ·simp only [k, show ((4 : Int) == 1) = false from rfl, show ((4 : Int) == 2) = false from rfl, show ((4 : Int) == 3) = false from rfl, show ((4 : Int) == 4) = true from rfl]
  repeat' (first | (refine uC _ rfl ?_) | (refine (adZ ..).trans ?_; split))
  all_goals simp_all [ab7, abM, aIP, aIO, amO, adZ, apW]
 ·simp only [beq_eq_false_iff_ne.2 e1, beq_eq_false_iff_ne.2 e2, beq_eq_false_iff_ne.2 e3, beq_eq_false_iff_ne.2 e4]
  repeat' (first | (refine uC _ rfl ?_) | (refine (adZ ..).trans ?_; split))
  all_goals simp_all [ab7, abM]
theorem asX {x : ElT} (h : shE x) : aeX ((x.1, x.2.1, x.2.2.1, x.2.2.2.1, (x.2.2.2.2.1.1, x.2.2.2.2.1.2.1, x.2.2.2.2.1.2.2.1, ()), x.2.2.2.2.2.1, x.2.2.2.2.2.2.1, x.2.2.2.2.2.2.2.1, ()), ()) = some (decide (abM x), ()) := if_pos h
theorem avF {x : ElT} (h : shE x) : afY ((x.1, x.2.1, x.2.2.1, x.2.2.2.1, (x.2.2.2.2.1.1, x.2.2.2.2.1.2.1, x.2.2.2.2.1.2.2.1, ()), x.2.2.2.2.2.1, x.2.2.2.2.2.2.1, x.2.2.2.2.2.2.2.1, ()), ()) = some (if abM x then 0 else 130, ()) := if_pos h
theorem aCl {x : ElT} (h : abM x) (k : x.1 = 2) : 0 < x.2.2.1.length := by
 rcases h with ⟨a, -⟩ | ⟨-, -, -, -, b, -⟩ | ⟨a, -⟩ | ⟨a, -⟩
 ·omega
 ·omega
 ·omega
 ·omega
theorem aEk (x : ElT) (y) (h : aiX (x, ()) = some y) : (awW x).toO = some y := by
 unfold aiX at h
 split at h
 case isFalse => cases h
 case isTrue hl =>
 injection h with h
 subst h
 unfold awW
 refine uC _ (avF hl) ?_
 dsimp only
 by_cases c : abM x
 case neg => rw [if_neg c, if_neg c]; exact uT rfl rfl
 rw [if_pos c, if_pos c]
 refine uF rfl ?_
 unfold aEb
 by_cases k1 : x.1 = 1
 ·rw [if_pos k1]; exact uT (zz.2 k1) rfl
 rw [if_neg k1]
 refine uF (beq_eq_false_iff_ne.2 k1) ?_
 by_cases k2 : x.1 = 2
 ·rw [if_pos k2]; exact uT (zz.2 k2) (uN ⟨xk _, by rw [aaB]; have := aCl c k2; omega⟩ rfl)
 rw [if_neg k2]
 refine uF (beq_eq_false_iff_ne.2 k2) ?_
 by_cases k3 : x.1 = 3
 ·rw [if_pos k3]; exact uT (zz.2 k3) rfl
 rw [if_neg k3]
 exact uF (beq_eq_false_iff_ne.2 k3) rfl
theorem aAX (x : ElT) (y) (h : aj6 (x, ()) = some y) : (aqR x).toO = some y := by
 unfold aj6 aiX at h
 split at h
 case isFalse => cases h
 case isTrue hl =>
 injection h with h
 subst h
 unfold aqR
 refine uC _ (asX hl) ?_
 dsimp only
 by_cases c : abM x
 case neg => rw [if_neg c]; exact uT (nT c) rfl
 rw [if_pos c]
 refine uF (nF c) ?_
 unfold aEb
 by_cases k1 : x.1 = 1
 ·rw [if_pos k1]; exact uT (zz.2 k1) rfl
 rw [if_neg k1]
 refine uF (beq_eq_false_iff_ne.2 k1) ?_
 by_cases k2 : x.1 = 2
 ·rw [if_pos k2]; exact uT (zz.2 k2) (uN ⟨xk _, by rw [aaB]; have := aCl c k2; omega⟩ rfl)
 rw [if_neg k2]
 refine uF (beq_eq_false_iff_ne.2 k2) ?_
 by_cases k3 : x.1 = 3
 ·rw [if_pos k3]; exact uT (zz.2 k3) rfl
 rw [if_neg k3]
 exact uF (beq_eq_false_iff_ne.2 k3) rfl
theorem aBG (x : ElT) (y) (h : ae9 (x, ()) = some y) : (ar5 x).toO = some y := by
 unfold ae9 at h
 split at h
 case isFalse => cases h
 case isTrue hl =>
 injection h with h
 subst h
 unfold ar5
 refine uC _ (avF hl) ?_
 dsimp only
 by_cases c : abM x
 case neg => rw [if_neg c, if_neg c]; exact uT rfl rfl
 rw [if_pos c, if_pos c]
 refine uF rfl ?_
 unfold aiG
 by_cases k1 : x.1 = 1
 ·rw [if_pos k1]; exact uT (zz.2 k1) rfl
 rw [if_neg k1]
 refine uF (beq_eq_false_iff_ne.2 k1) ?_
 by_cases k2 : x.1 = 2
 ·rw [if_pos k2]; exact uT (zz.2 k2) rfl
 rw [if_neg k2]
 refine uF (beq_eq_false_iff_ne.2 k2) ?_
 by_cases k3 : x.1 = 3
 ·rw [if_pos k3]; exact uT (zz.2 k3) rfl
 rw [if_neg k3]
 exact uF (beq_eq_false_iff_ne.2 k3) rfl
theorem ayD (x : ElT) (y) (h : acT (x, ()) = some y) : (anN x).toO = some y := by
 unfold acT ae9 at h
 split at h
 case isFalse => cases h
 case isTrue hl =>
 injection h with h
 subst h
 unfold anN
 refine uC _ (asX hl) ?_
 dsimp only
 by_cases c : abM x
 case neg => rw [if_neg c]; exact uT (nT c) rfl
 rw [if_pos c]
 refine uF (nF c) ?_
 unfold aiG
 by_cases k1 : x.1 = 1
 ·rw [if_pos k1]; exact uT (zz.2 k1) rfl
 rw [if_neg k1]
 refine uF (beq_eq_false_iff_ne.2 k1) ?_
 by_cases k2 : x.1 = 2
 ·rw [if_pos k2]; exact uT (zz.2 k2) rfl
 rw [if_neg k2]
 refine uF (beq_eq_false_iff_ne.2 k2) ?_
 by_cases k3 : x.1 = 3
 ·rw [if_pos k3]; exact uT (zz.2 k3) rfl
 rw [if_neg k3]
 exact uF (beq_eq_false_iff_ne.2 k3) rfl
theorem aC3 {a b : CvT} (h : shC a) : aC2 (a, b, ()) = some (eqb a b, ()) := if_pos h
theorem aAq {a b : CvT} (h : shC a) : aj5 (a, b, ()) = some (eqb a b, ()) := if_pos h
theorem aJw {a b : GrT} (h : shG a) : apZ ((a.1, a.2.1, a.2.2.1, ()), (b.1, b.2.1, b.2.2.1, ()), ()) = some (eqb a b, ()) := if_pos h
theorem aEJ {a b : GrT} (h : shG a) : ah3 ((a.1, a.2.1, a.2.2.1, ()), (b.1, b.2.1, b.2.2.1, ()), ()) = some (eqb a b, ()) := if_pos h
theorem aLw {a b : List OpT} (h : shL a) : aoN (a, b, ()) = some (eqb a b, ()) := if_pos h
theorem aEI {a b : List OpT} (h : shL a) : ah2 (a, b, ()) = some (eqb a b, ()) := if_pos h
theorem eT {p : Bool} (h : p = false) : (!p) = true := by rw [h]; rfl
theorem eF {p : Bool} (h : p = true) : (!p) = false := by rw [h]; rfl
theorem aKu {α : Type} {a b : α} (c : Bool) (h1 : c = true → a = b) (h2 : a = b → c = true) : (c, ()) = (eqb a b, ()) := by rw [aBC ⟨h1, h2⟩]
theorem aLh (a b : ElT) (y) (h : am1 (a, b, ()) = some y) : (azZ a b).toO = some y := by
 unfold am1 at h
 split at h
 case isFalse => cases h
 case isTrue hl =>
 injection h with h
 subst h
 obtain ⟨k, cs, rs, of, gr, pg, ci, co, u⟩ := a
 obtain ⟨k', cs', rs', of', gr', pg', ci', co', u'⟩ := b
 obtain ⟨⟨l1, hc⟩, ⟨l2, hr⟩, l3, l4, l5⟩ := hl
 dsimp only at l1 l2 l3 l4 l5 hc hr ⊢
 have l1' : cs.length ≤ 1000000000000 := l1
 have l2' : rs.length ≤ 1000000000000 := l2
 unfold azZ
 dsimp only
 by_cases c1 : k = k'
 case neg => exact uF (beq_eq_false_iff_ne.2 c1) (by rw [aaQ (fun h => c1 (congrArg (fun z : ElT => z.1) h))]; rfl)
 by_cases c2 : ci = ci'
 case neg => exact uT (zz.2 c1) (uF (beq_eq_false_iff_ne.2 c2) (by rw [aaQ (fun h => c2 (congrArg (fun z : ElT => z.2.2.2.2.2.2.1) h))]; rfl))
 by_cases c3 : co = co'
 case neg => exact uT (zz.2 c1) (uT (zz.2 c2) (uF (beq_eq_false_iff_ne.2 c3) (by rw [aaQ (fun h => c3 (congrArg (fun z : ElT => z.2.2.2.2.2.2.2.1) h))]; rfl)))
 refine uT (zz.2 c1) (uT (zz.2 c2) (uT (zz.2 c3) (uV (uV ?_))))
 by_cases c4 : cs.length = cs'.length
 case neg => exact uT (yf.2 (by rw [aaB, aaB]; omega)) (by rw [aaQ (fun h => c4 (congrArg (fun z : ElT => z.2.1.length) h))]; rfl)
 refine uF (bne_eq_false_iff_eq.2 (by rw [aaB, aaB]; omega)) (uO (0, ()) rfl ?_)
 refine (abK (n := cs.length) (bad := (false, ())) (good := (decide (rs.length = rs'.length) && (eqb rs rs' && (eqb of of' && (eqb gr gr' && eqb pg pg'))), ())) (fun j => eqb (cs.getD j (0, [], [], ())) (cs'.getD j (0, [], [], ()))) (fun j hj hp => ?_) (fun j hj hp => ?_) ?_).trans ?_
 ·simp only [akN, aaJ]
  refine uT sd (uN sd (uN sd (uC _ (aC3 (hc _ (acW _ hj))) (uF (eF hp) (uV (uB (uV (uV ?_))))))))
  rw [apJ hj l1']; rfl
 ·simp only [akN, aaJ]
  exact uT sd (uN sd (uN sd (uC _ (aC3 (hc _ (acW _ hj))) (uT (eT hp) rfl))))
 ·simp only [akN, aaJ]
  refine uF sd (uV (uV ?_))
  by_cases d : rs.length = rs'.length
  case neg => exact uT (yf.2 (by rw [aaB, aaB]; omega)) (by rw [zk d]; rfl)
  rw [zl d]
  refine uF (bne_eq_false_iff_eq.2 (by rw [aaB, aaB]; omega)) (uO (0, ()) rfl ?_)
  refine (abK (n := rs.length) (bad := .inr (false, ())) (good := .inr (eqb of of' && (eqb gr gr' && eqb pg pg'), ())) (fun j => eqb (rs.getD j []) (rs'.getD j [])) (fun j hj hp => ?_) (fun j hj hp => ?_) ?_).trans ?_
  ·simp only [akM, aaJ]
   refine uT sd (uN sd (uN sd (uV (uV (uC _ (aB2 (hr _ (acW _ hj))) (uF (eF hp) (uV (uB (uV (uV ?_))))))))))
   rw [apJ hj l2']; rfl
  ·simp only [akM, aaJ]
   exact uT sd (uN sd (uN sd (uV (uV (uC _ (aB2 (hr _ (acW _ hj))) (uT (eT hp) rfl))))))
  ·simp only [akM, aaJ]
   refine uF sd (uC _ (aB2 l3) ?_)
   cases e1 : eqb of of' with
   | false => exact uF rfl rfl
   | true =>
    refine uT rfl (uC _ (aJw l4) ?_)
    cases e2 : eqb gr gr' with
    | false => exact uF rfl rfl
    | true => exact uT rfl (uC _ (aLw l5) rfl)
  ·rw [ajX _ d]
   cases e : eqb rs rs' <;> rfl
 ·rw [ajX _ c4]
  subst c1 c2 c3
  have key : (eqb cs cs' && (decide (rs.length = rs'.length) && (eqb rs rs' && (eqb of of' && (eqb gr gr' && eqb pg pg')))), ()) = (eqb (k, cs, rs, of, gr, pg, ci, co, u) (k, cs', rs', of', gr', pg', ci, co, u'), ()) := by
   refine aKu _ (fun h => ?_) (fun h => ?_)
   ·simp only [zn, eqb_iff, zC] at h
    obtain ⟨rfl, -, rfl, rfl, rfl, rfl⟩ := h
    rfl
   ·injection h with _ h
    injection h with h1 h
    injection h with h2 h
    injection h with h3 h
    injection h with h4 h
    injection h with h5 h
    subst h1 h2 h3 h4 h5
    simp [ac5 rfl]
  rw [← key]
  cases eqb cs cs' <;> rfl
theorem ayC (a b : ElT) (y) (h : ah1 (a, b, ()) = some y) : (anM a b).toO = some y := by
 unfold ah1 am1 at h
 split at h
 case isFalse => cases h
 case isTrue hl =>
 injection h with h
 subst h
 obtain ⟨k, cs, rs, of, gr, pg, ci, co, u⟩ := a
 obtain ⟨k', cs', rs', of', gr', pg', ci', co', u'⟩ := b
 obtain ⟨⟨l1, hc⟩, ⟨l2, hr⟩, l3, l4, l5⟩ := hl
 dsimp only at l1 l2 l3 l4 l5 hc hr ⊢
 have l1' : cs.length ≤ 1000000000000 := l1
 have l2' : rs.length ≤ 1000000000000 := l2
 unfold anM
 dsimp only
 by_cases c1 : k = k'
 case neg => exact uT (yf.2 c1) (by rw [aaQ (fun h => c1 (congrArg (fun z : ElT => z.1) h))]; rfl)
 refine uF (bne_eq_false_iff_eq.2 c1) ?_
 by_cases c2 : ci = ci'
 case neg => exact uT (yf.2 c2) (by rw [aaQ (fun h => c2 (congrArg (fun z : ElT => z.2.2.2.2.2.2.1) h))]; rfl)
 refine uF (bne_eq_false_iff_eq.2 c2) ?_
 by_cases c3 : co = co'
 case neg => exact uT (yf.2 c3) (by rw [aaQ (fun h => c3 (congrArg (fun z : ElT => z.2.2.2.2.2.2.2.1) h))]; rfl)
 refine uF (bne_eq_false_iff_eq.2 c3) ?_
 by_cases c4 : cs.length = cs'.length
 case neg => exact uT (yf.2 (by rw [aaB, aaB]; omega)) (by rw [aaQ (fun h => c4 (congrArg (fun z : ElT => z.2.1.length) h))]; rfl)
 refine uF (bne_eq_false_iff_eq.2 (by rw [aaB, aaB]; omega)) ?_
 by_cases c5 : rs.length = rs'.length
 case neg => exact uT (yf.2 (by rw [aaB, aaB]; omega)) (by rw [aaQ (fun h => c5 (congrArg (fun z : ElT => z.2.2.1.length) h))]; rfl)
 refine uF (bne_eq_false_iff_eq.2 (by rw [aaB, aaB]; omega)) (uC _ (ah6 l3) ?_)
 by_cases c6 : of = of'
 case neg => exact uT (eT (aaQ c6)) (by rw [aaQ (fun h => c6 (congrArg (fun z : ElT => z.2.2.2.1) h))]; rfl)
 refine uF (eF (ac5 c6)) (uC _ (aEJ l4) ?_)
 by_cases c7 : gr = gr'
 case neg => exact uT (eT (aaQ c7)) (by rw [aaQ (fun h => c7 (congrArg (fun z : ElT => z.2.2.2.2.1) h))]; rfl)
 refine uF (eF (ac5 c7)) (uC _ (aEI l5) ?_)
 by_cases c8 : pg = pg'
 case neg => exact uT (eT (aaQ c8)) (by rw [aaQ (fun h => c8 (congrArg (fun z : ElT => z.2.2.2.2.2.1) h))]; rfl)
 refine uF (eF (ac5 c8)) (uO (0, ()) rfl ?_)
 refine (abK (n := cs.length) (bad := (false, ())) (good := (eqb rs rs', ())) (fun j => eqb (cs.getD j (0, [], [], ())) (cs'.getD j (0, [], [], ()))) (fun j hj hp => ?_) (fun j hj hp => ?_) ?_).trans ?_
 ·simp only [aiC, aaJ]
  refine uT sd (uN sd (uN sd (uC _ (aAq (hc _ (acW _ hj))) (uF (eF hp) (uV (uB (uV (uV ?_))))))))
  rw [apJ hj l1']; rfl
 ·simp only [aiC, aaJ]
  exact uT sd (uN sd (uN sd (uC _ (aAq (hc _ (acW _ hj))) (uT (eT hp) rfl))))
 ·simp only [aiC, aaJ]
  refine uF sd (uO (0, ()) rfl ?_)
  refine (abK (n := rs.length) (bad := .inr (false, ())) (good := .inr (true, ())) (fun j => eqb (rs.getD j []) (rs'.getD j [])) (fun j hj hp => ?_) (fun j hj hp => ?_) ?_).trans ?_
  ·simp only [alJ, aaJ]
   refine uT sd (uN sd (uN sd (uC _ (ah6 (hr _ (acW _ hj))) (uF (eF hp) (uV (uB (uV (uV ?_))))))))
   rw [apJ hj l2']; rfl
  ·simp only [alJ, aaJ]
   exact uT sd (uN sd (uN sd (uC _ (ah6 (hr _ (acW _ hj))) (uT (eT hp) rfl))))
  ·exact uF sd rfl
  ·rw [ajX _ c5]
   cases e : eqb rs rs' <;> rfl
 ·rw [ajX _ c4]
  subst c1 c2 c3 c6 c7 c8
  have key : (eqb cs cs' && eqb rs rs', ()) = (eqb (k, cs, rs, of, gr, pg, ci, co, u) (k, cs', rs', of, gr, pg, ci, co, u'), ()) := by
   refine aKu _ (fun h => ?_) (fun h => ?_)
   ·simp only [zn, eqb_iff] at h
    obtain ⟨rfl, rfl⟩ := h
    rfl
   ·injection h with _ h
    injection h with h1 h
    injection h with h2 h
    subst h1 h2
    simp [ac5 rfl]
  rw [← key]
  cases eqb cs cs' <;> rfl
set_option maxRecDepth 100000
open Go Go.Vg Go.Proofs
noncomputable section
def aHr : LTab := [(58, 30, 38912, ⟨0, (Int) × (Int) × (Int) × Unit, .dat (.s 16) xX <| .dat (.s 4) xX <| .dat (.c 23 0) xX <| .nil, [15, 14, 1], [28, 27, 24, 23, 0], 0⟩)]
def aoF (l : ChT × Unit) (i : (Int) × (Int) × (Int) × Unit) : TT (wG ⊕ wE) :=
 .ite (decide (i.1 < len l.1.2.1))
 (.need (inb i.1 (len l.1.2.1)) <| .call (aiX ((rE (gE l.1.2.1 i.1)), ())) Dz0 fun y =>
 .ite (y.2.1 != 0)
 (.ok (.inr ((0, false, ()))))
 (.ite (y.1 != i.2.1)
 (.ok (.inr ((0, false, ()))))
 (.call (ae9 ((rE (gE l.1.2.1 i.1)), ())) Dz0 fun y1 =>
 .call (ae9 ((rE (gE l.1.2.1 i.1)), ())) Dz0 fun y2 =>
 .ite (y2.2.1 != 0)
 (.ok (.inr ((y1.1, true, ()))))
 (.tt <| .lt (w64 (i.1 + 1) : Int) fun z1 => .xD (xK y2.1 z1 (len l.1.2.1) l.1.2.1 <| (xS 27 true) ∧ True) <| .xD (xC (xH 95 l.1.1 l.1.2.1) <| xC (xT (LoopState.ready : LoopState) (none : Option Code) 55 (#[32, 33] : Array Tmp) (axN (apD Tryz.f31) [1, 0, 1, 1, 1, 0, 1, 0, 0]) (axN (apD Tryz.f31) [1, 0, 1, 1, 1, 0, 1, 0, 1]) <| (xL (58 : FuncId) <| (xR (((l.1.1, l.1.2.1, ()), ()) : ChT × Unit)) ∧ True) ∧ (xL (((l.1.1, l.1.2.1, ()), ()) : ChT × Unit) <| (xJ 24 0 true) ∧ ((xJ 23 0 true) ∧ (xL l.1.1 <| wc ∧ (wc ∧ (xV (decide (len l.1.2.1 > 8)) (decide (len l.1.2.1 > 8)) false (len l.1.2.1) l.1.2.1 <| (xJ 0 1 true) ∧ (wc ∧ (xK (decide (l.1.1 > 4)) (decide (l.1.1 > 4)) false l.1.1 <| wc ∧ (wc ∧ (xQ (decide (l.1.1 < 1)) l.1.1 <| wc ∧ (wc ∧ (xQ false (0 : Int) <| wc ∧ xR l)))))))))))) <| xC (xM 4 true) <| xC (xM 3 y1.1) <| xC (xH 95 l.1.1 l.1.2.1) True) <| .ok (.inl ((z1, y2.1, y1.1, ())))))))
 (.ok (.inr ((i.2.2.1, true, ()))))
def asI (l : ChT × Unit) : TT wE :=
 .ite (decide (l.1.1 < 1))
 (.ok ((0, false, ())))
 (.ite (decide (l.1.1 > 4))
 (.ok ((0, false, ())))
 (.ite (decide (len l.1.2.1 > 8))
 (.ok ((0, false, ())))
 (.tt <| .tt <| .loop 0 (.tt <| .lt (l.1.1 : Int) fun z => .xD (xK z (0 : Int) (len l.1.2.1) l.1.2.1 <| (xS 27 true) ∧ True) <| .xD (xC (xH 95 z l.1.2.1) <| xC (xT (LoopState.ready : LoopState) (none : Option Code) 55 (#[32, 33] : Array Tmp) (axN (apD Tryz.f31) [1, 0, 1, 1, 1, 0, 1, 0, 0]) (axN (apD Tryz.f31) [1, 0, 1, 1, 1, 0, 1, 0, 1]) <| (xL (58 : FuncId) <| (xR (((z, l.1.2.1, ()), ()) : ChT × Unit)) ∧ True) ∧ (xL (((z, l.1.2.1, ()), ()) : ChT × Unit) <| (xJ 24 0 true) ∧ ((xJ 23 0 true) ∧ (xL z <| wc ∧ (wc ∧ (xV (decide (len l.1.2.1 > 8)) (decide (len l.1.2.1 > 8)) false (len l.1.2.1) l.1.2.1 <| (xJ 0 1 true) ∧ (wc ∧ (xK (decide (z > 4)) (decide (z > 4)) false z <| wc ∧ (wc ∧ (xQ (decide (z < 1)) z <| wc ∧ (wc ∧ (xQ false (0 : Int) <| wc ∧ xR l)))))))))))) <| xC (xM 4 true) <| xC (xM 3 z) <| xC (xH 95 z l.1.2.1) True) <| .ok ((0, z, z, ()))) (aoF l))))
def aHs : LTab := []
def aAc (c : ChT) : TT xY :=
 .call (afA (((c.1, c.2.1, ()), ()), ())) Dz1 fun y =>
 .ite (!y.2.1)
 (.ok ((0, 140, ())))
 (.ok ((y.1, 0, ())))
def aEp : LTab := []
def au5 (c : ChT) : TT ww :=
 .call (afB ((c.1, c.2.1, ()), ())) Dz0 fun y =>
 .ok ((y.2.1, ()))
def aBQ : LTab := [(28, 58, 5122, ⟨0, (Int) × Bool × (List ElT) × Unit, .dat (.s 8) xX <| .appN (.s 3) 5 82 tyE <| .nil, [7, 6, 2], [], 1⟩)]
def aj0 (lists : List (List ElT)) (i : (Int) × Bool × (List ElT) × Unit) : TT (((Int) × Bool × (List ElT) × Unit) ⊕ (List ElT × Unit)) :=
 .ite (i.2.1)
 (.ite (decide (i.1 < len lists))
 (.need (inb i.1 (len lists)) <| .need (List.length (gi lists i.1 []) * 176 ≤ 140737488355328) <| .ite (List.isEmpty (gi lists i.1 []))
 (.tt <| .lt (w64 (i.1 + 1) : Int) fun z1 => .lt ([] : List ElT) fun z2 => .xD (True ∧ (xI z1 (len lists) lists <| True ∧ True)) <| .tr <| .ok (.inl ((z1, true, z2, ()))))
 (.tt <| .lt (w64 (i.1 + 1) : Int) fun z3 => .lt (gi lists i.1 [] : List ElT) fun z4 => .xD ((xU 5 0 (List.length z4) true) ∧ (xI z3 (len lists) lists <| True ∧ True)) <| .xD (xC (xS 82 z4) True) <| .ok (.inl ((z3, false, z4, ())))))
 (.ok (.inr (([], ())))))
 (.ite (decide (i.1 < len lists))
 (.need (inb i.1 (len lists)) <| .need ((List.length i.2.2.1 + List.length (gi lists i.1 [])) * 176 ≤ 140737488355328) <| .tt <| .lt (w64 (i.1 + 1) : Int) fun z5 => .lt (List.take (List.length i.2.2.1) i.2.2.1 ++ gi lists i.1 [] : List ElT) fun z6 => .need ((((5) = (5)) ∧ (((0) = (0)) ∧ ((List.length i.2.2.1 + List.length (gi lists i.1 []) = List.length z6) ∧ ((true) = (true))))) ∧ ((z5 : Int) = z5) ∧ ((len lists : Int) = len lists) ∧ ((lists) = (lists)) ∧ True ∧ True) <| .xD (xC (xS 82 z6) True) <| .ok (.inl ((z5, false, z6, ()))))
 (.ok (.inr ((List.take (List.length i.2.2.1) i.2.2.1, ())))))
def al8 (lists : List (List ElT)) : TT (List ElT × Unit) :=
 .loop 0 (.tt <| .lt ([] : List ElT) fun z => .xD (True ∧ (xI (0 : Int) (len lists) lists <| True ∧ True)) <| .tr <| .ok ((0, true, z, ()))) (aj0 lists)
def aHt : LTab := [(9, 254, 777777777, uS)]
def aAd (a : ChT) (b : ChT) : TT (ChT × Int × Unit) :=
 .call (afB ((a.1, a.2.1, ()), ())) Dz0 fun y =>
 .ite (y.2.1 != 0)
 (.ok (((0, [], ()), y.2.1, ())))
 (.call (afZ ((b.1, b.2.1, ()), ())) Dz3 fun y1 =>
 .ite (y1.1 != 0)
 (.ok (((0, [], ()), y1.1, ())))
 (.ite (b.1 != y.1)
 (.ok (((0, [], ()), 5, ())))
 (.ite (decide (w64 (len a.2.1 + len b.2.1) > 8))
 (.ok (((0, [], ()), 3, ())))
 (.triv (acU (AV.d xX (asT Int a.1)) (AV.d xX (asT Int a.1))) rfl <| .triv (acU (AV.d (Ty.sl tyE) (asT (List ElT) a.2.1)) (AV.d (Ty.sl tyE) (asT (List ElT) a.2.1))) rfl <| .triv (acU (AV.d (Ty.sl tyE) (asT (List ElT) b.2.1)) (AV.d (Ty.sl tyE) (asT (List ElT) b.2.1))) rfl <| .triv (acU (AV.d xX (asT Int a.1)) (AV.d xX (asT Int a.1))) rfl <| .call (ae1 (List.take 2 [a.2.1, b.2.1], ())) Dz4 fun y2 =>
 .triv (acU (AV.d xX (asT Int a.1)) (AV.d xX (asT Int a.1))) rfl <| .ok (((a.1, y2.1, ()), 0, ()))))))
def aJn : LTab := []
def aCX (c : ChT) (from0 : Int) (to0 : Int) : TT (ChT × Int × Unit) :=
 .call (afZ ((c.1, c.2.1, ()), ())) Dz3 fun y =>
 .ite (y.1 != 0)
 (.ok (((0, [], ()), y.1, ())))
 (.ite (decide (from0 < 0))
 (.ok (((0, [], ()), 2, ())))
 (.ite (decide (to0 < from0))
 (.ok (((0, [], ()), 2, ())))
 (.ite (decide (to0 > len c.2.1))
 (.ok (((0, [], ()), 2, ())))
 (.need (inc from0 (len c.2.1)) <| .need (inc from0 (↑(Int.toNat from0) : Int)) <| .call (afA (((c.1, List.take (Int.toNat from0) c.2.1, ()), ()), ())) Dz1 fun y1 =>
 .need (inc to0 (len c.2.1)) <| .need (inc to0 (↑(Int.toNat to0) : Int)) <| .need (inc from0 (↑(Int.toNat to0) : Int)) <| .call (ae1 ([win c.2.1 from0 to0], ())) Dz4 fun y2 =>
 .ok (((y1.1, y2.1, ()), 0, ()))))))
end
theorem aNS {x : ElT} (h : shE x) : aiX (rE x, ()) = some (if abM x then (aEb x, 0, ()) else (0, 130, ())) := if_pos h
theorem aKG {x : ElT} (h : shE x) : ae9 (rE x, ()) = some (if abM x then (aiG x, 0, ()) else (0, 130, ())) := if_pos h
theorem aCM (l : List ElT) (k : Nat) : gE l (k : Int) = l.getD k e0 := aaJ l k e0
theorem aa9 {α : Type} {l : List α} {k : Nat} (h : k < l.length) (d : α) : l.getD k d ∈ l := by
 rw [zX, zH h]; exact yv h
theorem aLi {α : Type} {l : List α} {k : Nat} (h : k < l.length) (d : α) : l.drop k = l.getD k d :: l.drop (k + 1) := by
 rw [yi h, zX, zH h]; rfl
def aE0 (l : List ElT) (i : Int × Int × Int × Unit) : Int × Bool × Unit := match adH i.2.1 (l.drop i.1.toNat) with | some n => (n, true, ()) | none => (0, false, ())
theorem aBP (l : ChT × Unit) (y) (h : afA (l, ()) = some y) : (asI l).toO = some y := by
 unfold afA at h
 split at h
 case isFalse => cases h
 case isTrue hl =>
 obtain ⟨⟨n, xs, u⟩, u'⟩ := l
 obtain ⟨hs, he⟩ := hl
 injection h with h
 subst h
 dsimp only at hs he ⊢
 unfold asI
 by_cases c1 : n < 1
 ·refine uT (zl c1) ?_
  rw [show acF (n, xs, u) = none from if_neg (fun h => by have := h.1.1; dsimp only at this; omega)]; rfl
 refine uF (zk c1) ?_
 by_cases c2 : n > 4
 ·refine uT (zl c2) ?_
  rw [show acF (n, xs, u) = none from if_neg (fun h => by have := h.1.2; dsimp only at this; omega)]; rfl
 refine uF (zk c2) ?_
 by_cases c3 : xs.length > 8
 ·refine uT (zl (by rw [aaB]; dsimp only; omega)) ?_
  rw [show acF (n, xs, u) = none from if_neg (fun h => by have := h.2; dsimp only at this; omega)]; rfl
 refine uF (zk (by rw [aaB]; dsimp only; omega)) (uV (uV (uO (0, n, n, ()) rfl ?_)))
 rw [show acF (n, xs, u) = adH n xs from if_pos ⟨⟨by omega, by omega⟩, by dsimp only; omega⟩]
 refine abE (fun i : Int × Int × Int × Unit => ∃ k : Nat, k ≤ xs.length ∧ i.1 = (k : Int) ∧ i.2.2.1 = i.2.1) (fun i => xs.length - i.1.toNat) (aE0 xs) (fun i hi => ?_) _ ⟨0, zA _, rfl, rfl⟩
 obtain ⟨k, hk, e1, e2⟩ := hi
 obtain ⟨i, a, b, u⟩ := i
 dsimp only at e1 e2
 subst e1; subst e2
 by_cases c : k < xs.length
 ·have hx := he _ (aa9 c e0)
  have hd := aLi c e0
  have eI := aNS hx
  have eO := aKG hx
  simp only [aoF, aCM, aE0, zt, hd, adH]
  by_cases r : abM (xs.getD k e0)
  ·rw [if_pos r] at eI eO
   by_cases q : aEb (xs.getD k e0) = b
   ·refine Or.inl ⟨((k + 1 : Nat), aiG (xs.getD k e0), aiG (xs.getD k e0), ()), ?_, ⟨k + 1, c, rfl, rfl⟩, by dsimp only; omega, ?_⟩
    ·refine uT (zl (by rw [aaB]; omega)) (uN sd (uC _ eI (uF rfl (uF (by dsimp only; rw [q]; simp) (uC _ eO (uC _ eO (uF rfl ?_)))))))
     show some _ = some _
     rw [show w64 ((k : Int) + 1) = ((k + 1 : Nat) : Int) from (aaD ⟨by omega, by omega⟩).trans zc]
    ·rw [if_pos ⟨r, q⟩]; simp only [zt]
   ·refine Or.inr ?_
    rw [if_neg (fun h => q h.2)]
    exact uT (zl (by rw [aaB]; omega)) (uN sd (uC _ eI (uF rfl (uT (by dsimp only; simpa using q) rfl))))
  ·rw [if_neg r] at eI eO
   refine Or.inr ?_
   rw [if_neg (fun h => r h.1)]
   exact uT (zl (by rw [aaB]; omega)) (uN sd (uC _ eI (uT rfl rfl)))
 ·refine Or.inr ?_
  simp only [aoF, aE0, zt, yz (show xs.length ≤ k by omega), adH]
  exact uF (zk (by rw [aaB]; omega)) rfl
theorem aAt {c : ChT} (h : as8 c) : afA (((c.1, c.2.1, ()), ()), ()) = some (match acF c with | some n => (n, true, ()) | none => (0, false, ())) := if_pos h
theorem aBR (c : ChT) (y) (h : afB (c, ()) = some y) : (aAc c).toO = some y := by
 unfold afB at h
 split at h
 case isFalse => cases h
 case isTrue hl =>
 injection h with h
 subst h
 refine uC _ (aAt hl) ?_
 cases acF c <;> rfl
theorem aAu {c : ChT} (h : as8 c) : afB ((c.1, c.2.1, ()), ()) = some (match acF c with | some n => (n, 0, ()) | none => (0, 140, ())) := if_pos h
theorem aAe (c : ChT) (y) (h : afZ (c, ()) = some y) : (au5 c).toO = some y := by
 unfold afZ at h
 split at h
 case isFalse => cases h
 case isTrue hl =>
 injection h with h
 subst h
 refine uC _ (aAu hl) ?_
 cases acF c <;> rfl
theorem avG {c : ChT} (h : as8 c) : afZ ((c.1, c.2.1, ()), ()) = some (match acF c with | some _ => (0, ()) | none => (140, ())) := if_pos h
theorem as0 {l : List (List ElT)} (h1 : l.length ≤ 4) (h2 : ∀ x ∈ l, x.length ≤ 100) : ae1 (l, ()) = some (l.flatten, ()) := if_pos ⟨h1, h2⟩
theorem af8 {c : ChT} {n : Int} (h : acF c = some n) : c.2.1.length ≤ 8 ∧ inR c.1 1 4 ∧ adH c.1 c.2.1 = some n := by
 unfold acF at h
 split at h
 ·rename_i e; exact ⟨e.2, e.1, h⟩
 ·cases h
theorem aBT (a b : ChT) (y) (h : agN (a, b, ()) = some y) : (aAd a b).toO = some y := by
 unfold agN at h
 split at h
 case isFalse => cases h
 case isTrue hl =>
 obtain ⟨ha, hb⟩ := hl
 dsimp only at ha hb
 injection h with h
 subst h
 refine uC _ (aAu ha) ?_
 dsimp only
 cases ea : acF a with
 | none => exact uT rfl rfl
 | some n =>
  refine uF rfl (uC _ (avG hb) ?_)
  cases eb : acF b with
  | none => exact uT rfl rfl
  | some m =>
   refine uF rfl ?_
   dsimp only
   by_cases c : b.1 = n
   ·rw [if_pos c]
    refine uF (by simpa using c) ?_
    have l1 := (af8 ea).1
    have l2 := (af8 eb).1
    have ew : w64 (len a.2.1 + len b.2.1) = ((a.2.1.length + b.2.1.length : Nat) : Int) := (aaD ⟨by rw [aaB, aaB]; omega, by rw [aaB, aaB]; omega⟩).trans (by rw [aaB, aaB]; omega)
    rw [ew]
    by_cases d : a.2.1.length + b.2.1.length > 8
    ·rw [if_pos d]; exact uT (zl zc) rfl
    ·rw [if_neg d]
     refine uF (zk zc) (uV (uV (uV (uV (uC _ (as0 (l := [a.2.1, b.2.1]) (show 2 ≤ 4 by omega) (fun x hx => ?_)) (uV ?_))))))
     ·rcases zp.1 hx with e | hx
      ·rw [e]; omega
      ·rw [zG.1 hx]; omega
     ·show some _ = some _
      simp
   ·rw [if_neg c]
    exact uT (by simpa using c) rfl
theorem aw7 (l : List (List ElT)) (y) (h : ae1 (l, ()) = some y) : (al8 l).toO = some y := by
 unfold ae1 at h
 split at h
 case isFalse => cases h
 case isTrue hl =>
 obtain ⟨h4, h100⟩ := hl
 injection h with h
 subst h
 dsimp only at h4 h100 ⊢
 unfold al8
 refine uO (0, true, [], ()) rfl ?_
 refine abE (fun i : Int × Bool × List ElT × Unit => ∃ k : Nat, k ≤ l.length ∧ i.1 = (k : Int) ∧ i.2.2.1.length ≤ 100 * k ∧ (i.2.1 = true → i.2.2.1 = [])) (fun i => l.length - i.1.toNat) (fun i => (i.2.2.1 ++ (l.drop i.1.toNat).flatten, ())) (fun i hi => ?_) _ ⟨0, zA _, rfl, by simp, fun _ => rfl⟩
 obtain ⟨i, f, m, u⟩ := i
 obtain ⟨k, hk, e, hm, hf⟩ := hi
 dsimp only at e hm hf
 subst e
 have etk : List.take (List.length m) m = m := zB
 by_cases c : k < l.length
 ·have hx := h100 _ (aa9 c [])
  have hd := aLi c ([] : List ElT)
  have eg : gi l (k : Int) [] = l.getD k [] := aaJ _ _ _
  have ewk : w64 ((k : Int) + 1) = ((k + 1 : Nat) : Int) := (aaD ⟨by omega, by omega⟩).trans zc
  simp only [aj0, zt, hd, List.flatten_cons, eg]
  cases f with
  | true =>
   have em := hf rfl
   subst em
   cases hp : (l.getD k []).isEmpty with
   | true =>
    have e0 : l.getD k [] = [] := List.isEmpty_iff.1 hp
    refine Or.inl ⟨((k + 1 : Nat), true, [], ()), ?_, ⟨k + 1, c, rfl, by simp, fun _ => rfl⟩, by dsimp only; omega, ?_⟩
    ·refine uT rfl (uT (zl (by rw [aaB]; omega)) (uN sd (uN zc (uT rfl (uV (uB (uB (uV (uV ?_)))))))))
     show some _ = some _
     rw [ewk]
    ·simp only [zt, e0, yE]
   | false =>
    refine Or.inl ⟨((k + 1 : Nat), false, l.getD k [], ()), ?_, ⟨k + 1, c, rfl, by dsimp only; omega, fun h => by cases h⟩, by dsimp only; omega, ?_⟩
    ·refine uT rfl (uT (zl (by rw [aaB]; omega)) (uN sd (uN zc (uF rfl (uV (uB (uB (uV (uV ?_)))))))))
     show some _ = some _
     rw [ewk]
    ·simp only [zt, yE]
  | false =>
   refine Or.inl ⟨((k + 1 : Nat), false, m ++ l.getD k [], ()), ?_, ⟨k + 1, c, rfl, by dsimp only; rw [zq]; omega, fun h => by cases h⟩, by dsimp only; omega, ?_⟩
   ·refine uF rfl (uT (zl (by rw [aaB]; omega)) (uN sd (uN zc (uV (uB (uB (uN ze (uV ?_))))))))
    show some _ = some _
    rw [ewk, etk]
   ·simp only [zt, yR]
 ·refine Or.inr ?_
  have hd : l.drop k = [] := yz zc
  simp only [aj0, zt, hd, List.flatten_nil, yF]
  cases f with
  | true =>
   have em := hf rfl
   subst em
   exact uT rfl (uF (zk (by rw [aaB]; omega)) rfl)
  | false =>
   refine uF rfl (uF (zk (by rw [aaB]; omega)) ?_)
   show some _ = some _
   rw [etk]
theorem aEo (c : ChT) (a b : Int) (y) (h : ag8 (c, a, b, ()) = some y) : (aCX c a b).toO = some y := by
 unfold ag8 at h
 split at h
 case isFalse => cases h
 case isTrue hs =>
 injection h with h
 subst h
 dsimp only at hs ⊢
 refine uC _ (avG hs) ?_
 cases ec : acF c with
 | none => exact uT rfl rfl
 | some m =>
  obtain ⟨l8, hr, hm⟩ := af8 ec
  refine uF rfl ?_
  by_cases c1 : a < 0
  ·rw [if_neg (fun h => by omega)]; exact uT (zl c1) rfl
  refine uF (zk c1) ?_
  by_cases c2 : b < a
  ·rw [if_neg (fun h => by omega)]; exact uT (zl c2) rfl
  refine uF (zk c2) ?_
  by_cases c3 : b > len c.2.1
  ·rw [if_neg (fun h => by rw [aaB] at c3; omega)]; exact uT (zl c3) rfl
  refine uF (zk c3) ?_
  rw [aaB] at c3
  rw [if_pos ⟨by omega, by omega, by omega⟩]
  obtain ⟨q, hq⟩ : ∃ q, adH c.1 (c.2.1.take a.toNat) = some q := by
   have h := hm
   rw [← yO a.toNat c.2.1, amH] at h
   cases hx : adH c.1 (c.2.1.take a.toNat) with
   | none => rw [hx] at h; cases h
   | some q => exact ⟨q, rfl⟩
  have hsh : as8 (c.1, c.2.1.take a.toNat, ()) := ⟨zF (List.length_take_le _ _) (show a.toNat ≤ 1000000000000 by omega), fun x hx => hs.2 x (zZ hx)⟩
  have ho : acF (c.1, c.2.1.take a.toNat, ()) = some q := by
   unfold acF
   rw [if_pos ⟨hr, by dsimp only; rw [zK]; omega⟩]; exact hq
  have h1 := aAt hsh
  rw [ho] at h1
  rw [hq]
  refine uN sd (uN sd (uC _ h1 (uN sd (uN sd (uN sd (uC _ (as0 (l := [win c.2.1 a b]) ze (fun x hx => ?_)) ?_))))))
  ·rw [zG.1 hx]
   unfold win
   rw [zK, zS]; omega
  ·show some _ = some _
   simp
set_option maxRecDepth 100000
open Go Go.Vg Go.Proofs
noncomputable section
def aFl : LTab := []
def ayH (d : Int × Int × List xY × Unit) : TT ww :=
 .triv (asT Int 3 ≠ 0) zd <| .ok ((w64 (1 + w64 (Int.tmod d.1 3)), ()))
def aDz : LTab := []
def auD (d : Int × Int × List xY × Unit) : TT ww :=
 .triv (asT Int 3 ≠ 0) zd <| .ok ((w64 (1 + w64 (Int.tmod d.2.1 3)), ()))
def av8 : LTab := [(51, 15, 4098, ⟨0, Bool × (List xY) × (Int) × Unit, .appN (.s 3) 4 161 wl <| .dat (.s 4) xX <| .nil, [1], [0], 1⟩), (51, 122, 5122, ⟨1, (Int) × (Int) × Bool × (List xY) × Unit, .dat (.s 5) xX <| .dat (.s 4) xX <| .appN (.s 3) 5 161 wl <| .nil, [1], [0], 1⟩), (51, 3913, 26626, ⟨2, (Int) × Unit, .dat (.c 25 0) xX <| .nil, [6, 3, 4, 5, 1], [25, 0], 0⟩), (51, 15655, 34817, ⟨3, (Int) × Unit, .dat (.c 25 1) xX <| .nil, [6, 3, 4, 5, 1], [25, 0], 0⟩), (51, 3913, 26625, ⟨4, (Int) × Unit, .dat (.c 25 0) xX <| .nil, [6, 3, 4, 5, 1], [25, 0], 0⟩), (51, 3913, 26624, ⟨5, (Int) × Unit, .dat (.c 25 0) xX <| .nil, [6, 3, 4, 5, 1], [25, 5, 0], 0⟩), (51, 15655, 34816, ⟨6, (Int) × Unit, .dat (.c 25 1) xX <| .nil, [6, 3, 4, 5, 1], [25, 5, 0], 0⟩), (51, 124, 5121, ⟨7, (Int) × Bool × (List xY) × Unit, .dat (.s 4) xX <| .appN (.s 3) 5 161 wl <| .nil, [1], [0], 1⟩), (51, 252, 10241, ⟨8, Bool × (List xY) × (Int) × Unit, .appN (.s 3) 10 161 wl <| .dat (.s 4) xX <| .nil, [1], [0], 1⟩), (51, 252, 10240, ⟨9, (List xY) × (Int) × Unit, .app (.s 3) 10 161 wl <| .dat (.s 4) xX <| .nil, [1], [0], 1⟩), (51, 124, 5120, ⟨10, (Int) × (List xY) × Unit, .dat (.s 4) xX <| .app (.s 3) 5 161 wl <| .nil, [1], [0], 1⟩)]
def atH (d : Int × Int × List xY × Unit) (i : Int × Int × Bool × List xY × Unit) (j : Int × Unit) (j1 : (Int) × Unit) : TT we :=
 .need (1 * 16 ≤ 140737488355328) <| .call (ab0 (j.1, ())) Dz3 fun y3 =>
 .tt <| .lt (w64 (i.1 + 1) : Int) fun z5 => .lt (w64 (w64 (i.2.1 - y3.1) + 1) : Int) fun z6 => .lt ([(j.1, j1.1, ())] : List xY) fun z7 => .xD ((xU 5 0 1 true) ∧ (xQ z6 z5 <| wc ∧ True)) <| .xD (xC (xS 161 z7) <| xC (xE 38 d.1 d.2.1 d.2.2.1) True) <| .ok (.inl ((z5, z6, false, z7, ())))
def atI (d : Int × Int × List xY × Unit) (i : Int × Int × Bool × List xY × Unit) (j : (Int) × Unit) : TT we :=
 .need (inb i.1 (len d.2.2.1)) <| .join 3 (ι := (Int) × Unit) (.ite (j.1 == 1)
 (.call (ae8 ((d.1, d.2.1, d.2.2.1, ()), ())) Dz3 fun y2 =>
 .need (y2.1 ≠ 0) <| .tt <| .lt (Int.tmod (w64 (IntKind.wrap IntKind.u16 (w64 (gi d.2.2.1 i.1 (0, 0, ())).2.1))) y2.1 : Int) fun z2 => .xD (wA ∧ (True ∧ (xQ i.2.1 i.1 <| wc ∧ True))) <| .xD (xC (xH 161 j.1 z2) <| xC (xE 38 d.1 d.2.1 d.2.2.1) True) <| .ok (.inl ((z2, ()))))
 (.ite (j.1 == 2)
 (.tt <| .lt (w64 (100 * w64 (gi d.2.2.1 i.1 (0, 0, ())).2.1) : Int) fun z3 => .xD (wA ∧ (True ∧ (xQ i.2.1 i.1 <| wc ∧ True))) <| .xD (xC (xH 161 j.1 z3) <| xC (xE 38 d.1 d.2.1 d.2.2.1) True) <| .ok (.inl ((z3, ()))))
 (.ite (j.1 == 11)
 (.need (i.2.1 ≠ 0) <| .tt <| .lt (Int.tmod (w64 (IntKind.wrap IntKind.u16 (w64 (gi d.2.2.1 i.1 (0, 0, ())).2.1))) i.2.1 : Int) fun z4 => .xD (wA ∧ (True ∧ (xQ i.2.1 i.1 <| wc ∧ True))) <| .xD (xC (xH 161 j.1 z4) <| xC (xE 38 d.1 d.2.1 d.2.2.1) True) <| .ok (.inl ((z4, ()))))
 (.tt <| .xD (wA ∧ (True ∧ (xQ i.2.1 i.1 <| wc ∧ True))) <| .xD (xC (xH 161 j.1 (0 : Int)) <| xC (xE 38 d.1 d.2.1 d.2.2.1) True) <| .ok (.inl ((0, ()))))))) (atH d i j)
def atF (d : Int × Int × List xY × Unit) (i : Int × Int × Bool × List xY × Unit) (j2 : Int × Unit) (j3 : (Int) × Unit) : TT we :=
 .need ((List.length i.2.2.2.1 + 1) * 16 ≤ 140737488355328) <| .call (ab0 (j2.1, ())) Dz3 fun y7 =>
 .tt <| .lt (w64 (i.1 + 1) : Int) fun z15 => .lt (w64 (w64 (i.2.1 - y7.1) + 1) : Int) fun z16 => .lt (List.take (List.length i.2.2.2.1) i.2.2.2.1 ++ [(j2.1, j3.1, ())] : List xY) fun z17 => .need ((((5) = (5)) ∧ (((0) = (0)) ∧ ((List.length i.2.2.2.1 + 1 = List.length z17) ∧ ((true) = (true))))) ∧ ((z16 : Int) = z16) ∧ ((z15 : Int) = z15) ∧ (((0) = (0)) ∧ (((0) = (0)) ∧ ((true) = (true)))) ∧ True) <| .xD (xC (xS 161 z17) <| xC (xE 38 d.1 d.2.1 d.2.2.1) True) <| .ok (.inl ((z15, z16, false, z17, ())))
def atG (d : Int × Int × List xY × Unit) (i : Int × Int × Bool × List xY × Unit) (j2 : (Int) × Unit) : TT we :=
 .need (inb i.1 (len d.2.2.1)) <| .join 6 (ι := (Int) × Unit) (.ite (j2.1 == 1)
 (.call (ae8 ((d.1, d.2.1, d.2.2.1, ()), ())) Dz3 fun y6 =>
 .need (y6.1 ≠ 0) <| .tt <| .lt (Int.tmod (w64 (IntKind.wrap IntKind.u16 (w64 (gi d.2.2.1 i.1 (0, 0, ())).2.1))) y6.1 : Int) fun z12 => .xD (wA ∧ ((xU 5 0 (List.length i.2.2.2.1) true) ∧ (xQ i.2.1 i.1 <| wc ∧ True))) <| .xD (xC (xH 161 j2.1 z12) <| xC (xS 161 i.2.2.2.1) <| xC (xE 38 d.1 d.2.1 d.2.2.1) True) <| .ok (.inl ((z12, ()))))
 (.ite (j2.1 == 2)
 (.tt <| .lt (w64 (100 * w64 (gi d.2.2.1 i.1 (0, 0, ())).2.1) : Int) fun z13 => .xD (wA ∧ ((xU 5 0 (List.length i.2.2.2.1) true) ∧ (xQ i.2.1 i.1 <| wc ∧ True))) <| .xD (xC (xH 161 j2.1 z13) <| xC (xS 161 i.2.2.2.1) <| xC (xE 38 d.1 d.2.1 d.2.2.1) True) <| .ok (.inl ((z13, ()))))
 (.ite (j2.1 == 11)
 (.need (i.2.1 ≠ 0) <| .tt <| .lt (Int.tmod (w64 (IntKind.wrap IntKind.u16 (w64 (gi d.2.2.1 i.1 (0, 0, ())).2.1))) i.2.1 : Int) fun z14 => .xD (wA ∧ ((xU 5 0 (List.length i.2.2.2.1) true) ∧ (xQ i.2.1 i.1 <| wc ∧ True))) <| .xD (xC (xH 161 j2.1 z14) <| xC (xS 161 i.2.2.2.1) <| xC (xE 38 d.1 d.2.1 d.2.2.1) True) <| .ok (.inl ((z14, ()))))
 (.tt <| .xD (wA ∧ ((xU 5 0 (List.length i.2.2.2.1) true) ∧ (xQ i.2.1 i.1 <| wc ∧ True))) <| .xD (xC (xH 161 j2.1 (0 : Int)) <| xC (xS 161 i.2.2.2.1) <| xC (xE 38 d.1 d.2.1 d.2.2.1) True) <| .ok (.inl ((0, ()))))))) (atF d i j2)
def aeI (i : (Int) × (Int) × Bool × (List xY) × Unit) (d : Int × Int × List xY × Unit) : TT (wv ⊕ we) :=
 .ite (decide (i.2.1 > 8))
 (.tt <| .xD (wA ∧ ((xU 5 0 (List.length i.2.2.2.1) true) ∧ (xQ i.2.1 i.1 <| wc ∧ True))) <| .xD (xC (xH 161 (3 : Int) (0 : Int)) <| xC (xS 161 i.2.2.2.1) <| xC (xE 38 d.1 d.2.1 d.2.2.1) True) <| .ok (.inl ((3, ()))))
 (.tt <| .xD (wA ∧ ((xU 5 0 (List.length i.2.2.2.1) true) ∧ (xQ i.2.1 i.1 <| wc ∧ True))) <| .xD (xC (xH 161 (1 : Int) (0 : Int)) <| xC (xS 161 i.2.2.2.1) <| xC (xE 38 d.1 d.2.1 d.2.2.1) True) <| .ok (.inl ((1, ()))))
def aeH (i : (Int) × (Int) × Bool × (List xY) × Unit) (d : Int × Int × List xY × Unit) : TT (wv ⊕ we) :=
 .ite (decide (i.2.1 > 8))
 (.tt <| .xD (wA ∧ (True ∧ (xQ i.2.1 i.1 <| wc ∧ True))) <| .xD (xC (xH 161 (3 : Int) (0 : Int)) <| xC (xE 38 d.1 d.2.1 d.2.2.1) True) <| .ok (.inl ((3, ()))))
 (.tt <| .xD (wA ∧ (True ∧ (xQ i.2.1 i.1 <| wc ∧ True))) <| .xD (xC (xH 161 (1 : Int) (0 : Int)) <| xC (xE 38 d.1 d.2.1 d.2.2.1) True) <| .ok (.inl ((1, ()))))
def ahP (d : Int × Int × List xY × Unit) (i : (Int) × (Int) × Bool × (List xY) × Unit) : TT (wv ⊕ we) :=
 .tt <| .lt (w64 (1 + w64 (Int.tmod (gi d.2.2.1 i.1 (0, 0, ())).1 12)) : Int) fun z10 => .xD (wA ∧ ((xU 5 0 (List.length i.2.2.2.1) true) ∧ (xQ i.2.1 i.1 <| wc ∧ True))) <| .xD (xC (xH 161 z10 (0 : Int)) <| xC (xS 161 i.2.2.2.1) <| xC (xE 38 d.1 d.2.1 d.2.2.1) True) <| .ok (.inl ((z10, ())))
def ahO (d : Int × Int × List xY × Unit) (i : (Int) × (Int) × Bool × (List xY) × Unit) : TT (wv ⊕ we) :=
 .tt <| .lt (w64 (1 + w64 (Int.tmod (gi d.2.2.1 i.1 (0, 0, ())).1 12)) : Int) fun z => .xD (wA ∧ (True ∧ (xQ i.2.1 i.1 <| wc ∧ True))) <| .xD (xC (xH 161 z (0 : Int)) <| xC (xE 38 d.1 d.2.1 d.2.2.1) True) <| .ok (.inl ((z, ())))
def ahN (i : (Int) × (Int) × Bool × (List xY) × Unit) (d : Int × Int × List xY × Unit) : TT we :=
 .tt <| .lt (i.2.2.2.1 : List xY) fun z18 => .lt (i.2.1 : Int) fun z19 => .xD (xL z19 <| (xU 4 0 (List.length z18) true) ∧ wc ∧ True) <| .xD (xC (xS 161 z18) <| xC (xE 38 d.1 d.2.1 d.2.2.1) True) <| .ok (.inr (.inl ((false, z18, z19, ()))))
def atJ (d : Int × Int × List xY × Unit) (i : (Int) × (Int) × Bool × (List xY) × Unit) : TT we :=
 .ite (i.2.2.1)
 (.ite (decide (i.1 < len d.2.2.1))
  (.ite (decide (i.1 < 12))
   (.need (inb i.1 (len d.2.2.1)) <| .triv (asT Int 12 ≠ 0) zd <| .join 4 (ι := (Int) × Unit) (.call (ab0 (w64 (1 + w64 (Int.tmod (gi d.2.2.1 i.1 (0, 0, ())).1 12)), ())) Dz3 fun y =>
     .ite (decide (y.1 > i.2.1))
     (aeH i d)
     (.ite (i.2.1 == 0)
      (aeH i d)
      (.ite (decide (i.2.1 > 8))
       (.call (ab0 (w64 (1 + w64 (Int.tmod (gi d.2.2.1 i.1 (0, 0, ())).1 12)), ())) Dz3 fun y1 =>
        .ite (y1.1 == 0)
        (aeH i d)
        (ahO d i))
       (ahO d i)))) (atI d i))
   (.tt <| .lt (i.2.1 : Int) fun z8 => .xD (xL z8 <| True ∧ wc ∧ True) <| .xD (xC (xE 38 d.1 d.2.1 d.2.2.1) True) <| .ok (.inr (.inl ((true, [], z8, ()))))))
  (.tt <| .lt (i.2.1 : Int) fun z9 => .xD (xL z9 <| True ∧ wc ∧ True) <| .xD (xC (xE 38 d.1 d.2.1 d.2.2.1) True) <| .ok (.inr (.inl ((true, [], z9, ()))))))
 (.ite (decide (i.1 < len d.2.2.1))
  (.ite (decide (i.1 < 12))
   (.need (inb i.1 (len d.2.2.1)) <| .triv (asT Int 12 ≠ 0) zd <| .join 5 (ι := (Int) × Unit) (.call (ab0 (w64 (1 + w64 (Int.tmod (gi d.2.2.1 i.1 (0, 0, ())).1 12)), ())) Dz3 fun y4 =>
     .ite (decide (y4.1 > i.2.1))
     (aeI i d)
     (.ite (i.2.1 == 0)
      (aeI i d)
      (.ite (decide (i.2.1 > 8))
       (.call (ab0 (w64 (1 + w64 (Int.tmod (gi d.2.2.1 i.1 (0, 0, ())).1 12)), ())) Dz3 fun y5 =>
        .ite (y5.1 == 0)
        (aeI i d)
        (ahP d i))
       (ahP d i)))) (atG d i))
   (ahN i d))
  (ahN i d))
def ak4 (d : Int × Int × List xY × Unit) (j4 : Bool × List xY × Int × Unit) (i1 : Int × Bool × List xY × Unit) (y8 : Int × Unit) (i2 : Bool × (List xY) × (Int) × Unit) : TT ((Bool × (List xY) × (Int) × Unit) ⊕ wI) :=
 .ite (i2.1)
 (.call (aaV ((d.1, d.2.1, d.2.2.1, ()), ())) Dz3 fun y10 =>
 .ite (decide (i2.2.2.1 > y10.1))
 (.triv (1 * 16 ≤ 140737488355328) zd <| .tt <| .lt ([(3, 0, ())] : List xY) fun z26 => .lt (w64 (i2.2.2.1 - 1) : Int) fun z27 => .xD (xL z27 <| (xU 10 0 1 true) ∧ wc ∧ True) <| .xD (xC (xS 161 z26) <| xC (xE 38 d.1 d.2.1 d.2.2.1) True) <| .ok (.inl ((false, z26, z27, ()))))
 (.ok (.inr (.inr (([], ()))))))
 (.call (aaV ((d.1, d.2.1, d.2.2.1, ()), ())) Dz3 fun y11 =>
 .ite (decide (i2.2.2.1 > y11.1))
 (.need ((List.length i2.2.1 + 1) * 16 ≤ 140737488355328) <| .tt <| .lt (List.take (List.length i2.2.1) i2.2.1 ++ [(3, 0, ())] : List xY) fun z28 => .lt (w64 (i2.2.2.1 - 1) : Int) fun z29 => .need (((z29 : Int) = z29) ∧ (((10) = (10)) ∧ (((0) = (0)) ∧ ((List.length i2.2.1 + 1 = List.length z28) ∧ ((true) = (true))))) ∧ (((0) = (0)) ∧ (((0) = (0)) ∧ ((true) = (true)))) ∧ True) <| .xD (xC (xS 161 z28) <| xC (xE 38 d.1 d.2.1 d.2.2.1) True) <| .ok (.inl ((false, z28, z29, ()))))
 (.ok (.inr (.inr ((List.take (List.length i2.2.1) i2.2.1, ()))))))
def ak3 (d : Int × Int × List xY × Unit) (j4 : Bool × List xY × Int × Unit) (i1 : Int × Bool × List xY × Unit) (y12 : Int × Unit) (i3 : (List xY) × (Int) × Unit) : TT (((List xY) × (Int) × Unit) ⊕ wI) :=
 .call (aaV ((d.1, d.2.1, d.2.2.1, ()), ())) Dz3 fun y14 =>
 .ite (decide (i3.2.1 > y14.1))
 (.need ((List.length i3.1 + 1) * 16 ≤ 140737488355328) <| .tt <| .lt (List.take (List.length i3.1) i3.1 ++ [(3, 0, ())] : List xY) fun z34 => .lt (w64 (i3.2.1 - 1) : Int) fun z35 => .need (((z35 : Int) = z35) ∧ (((10) = (10)) ∧ (((0) = (0)) ∧ ((List.length i3.1 + 1 = List.length z34) ∧ ((true) = (true))))) ∧ (((0) = (0)) ∧ (((0) = (0)) ∧ ((true) = (true)))) ∧ True) <| .xD (xC (xS 161 z34) <| xC (xE 38 d.1 d.2.1 d.2.2.1) True) <| .ok (.inl ((z34, z35, ()))))
 (.ok (.inr (.inr ((List.take (List.length i3.1) i3.1, ())))))
def ak5 (d : Int × Int × List xY × Unit) (j4 : Bool × List xY × Int × Unit) (i1 : (Int) × Bool × (List xY) × Unit) : TT wI :=
 .ite (i1.2.1)
 (.call (aaV ((d.1, d.2.1, d.2.2.1, ()), ())) Dz3 fun y8 =>
 .ite (decide (i1.1 < y8.1))
 (.call (ae8 ((d.1, d.2.1, d.2.2.1, ()), ())) Dz3 fun y9 =>
 .need (y9.1 ≠ 0) <| .need (1 * 16 ≤ 140737488355328) <| .tt <| .lt (w64 (i1.1 + 1) : Int) fun z23 => .lt ([(1, Int.tmod i1.1 y9.1, ())] : List xY) fun z24 => .xD ((xU 5 0 1 true) ∧ (xL z23 <| wc ∧ True)) <| .xD (xC (xS 161 z24) <| xC (xE 38 d.1 d.2.1 d.2.2.1) True) <| .ok (.inl ((z23, false, z24, ()))))
 (.loop 8 (.tt <| .lt (i1.1 : Int) fun z25 => .xD (xL z25 <| True ∧ wc ∧ True) <| .xD (xC (xE 38 d.1 d.2.1 d.2.2.1) True) <| .ok ((true, [], z25, ()))) (ak4 d j4 i1 y8)))
 (.call (aaV ((d.1, d.2.1, d.2.2.1, ()), ())) Dz3 fun y12 =>
 .ite (decide (i1.1 < y12.1))
 (.call (ae8 ((d.1, d.2.1, d.2.2.1, ()), ())) Dz3 fun y13 =>
 .need (y13.1 ≠ 0) <| .need ((List.length i1.2.2.1 + 1) * 16 ≤ 140737488355328) <| .tt <| .lt (w64 (i1.1 + 1) : Int) fun z30 => .lt (List.take (List.length i1.2.2.1) i1.2.2.1 ++ [(1, Int.tmod i1.1 y13.1, ())] : List xY) fun z31 => .need ((((5) = (5)) ∧ (((0) = (0)) ∧ ((List.length i1.2.2.1 + 1 = List.length z31) ∧ ((true) = (true))))) ∧ ((z30 : Int) = z30) ∧ (((0) = (0)) ∧ (((0) = (0)) ∧ ((true) = (true)))) ∧ True) <| .xD (xC (xS 161 z31) <| xC (xE 38 d.1 d.2.1 d.2.2.1) True) <| .ok (.inl ((z30, false, z31, ()))))
 (.loop 9 (.tt <| .lt (i1.2.2.1 : List xY) fun z32 => .lt (i1.1 : Int) fun z33 => .xD (xL z33 <| (xU 10 0 (List.length z32) true) ∧ wc ∧ True) <| .xD (xC (xS 161 z32) <| xC (xE 38 d.1 d.2.1 d.2.2.1) True) <| .ok ((z32, z33, ()))) (ak3 d j4 i1 y12)))
def ajJ (d : Int × Int × List xY × Unit) (j4 : Bool × List xY × Int × Unit) (i4 : Int × List xY × Unit) (y15 : Int × Unit) (i5 : (List xY) × (Int) × Unit) : TT (((List xY) × (Int) × Unit) ⊕ ve) :=
 .call (aaV ((d.1, d.2.1, d.2.2.1, ()), ())) Dz3 fun y17 =>
 .ite (decide (i5.2.1 > y17.1))
 (.need ((List.length i5.1 + 1) * 16 ≤ 140737488355328) <| .tt <| .lt (List.take (List.length i5.1) i5.1 ++ [(3, 0, ())] : List xY) fun z42 => .lt (w64 (i5.2.1 - 1) : Int) fun z43 => .need (((z43 : Int) = z43) ∧ (((10) = (10)) ∧ (((0) = (0)) ∧ ((List.length i5.1 + 1 = List.length z42) ∧ ((true) = (true))))) ∧ (((0) = (0)) ∧ (((0) = (0)) ∧ ((true) = (true)))) ∧ True) <| .xD (xC (xS 161 z42) <| xC (xE 38 d.1 d.2.1 d.2.2.1) True) <| .ok (.inl ((z42, z43, ()))))
 (.ok (.inr (.inr ((List.take (List.length i5.1) i5.1, ())))))
def ajK (d : Int × Int × List xY × Unit) (j4 : Bool × List xY × Int × Unit) (i4 : (Int) × (List xY) × Unit) : TT ve :=
 .call (aaV ((d.1, d.2.1, d.2.2.1, ()), ())) Dz3 fun y15 =>
 .ite (decide (i4.1 < y15.1))
 (.call (ae8 ((d.1, d.2.1, d.2.2.1, ()), ())) Dz3 fun y16 =>
 .need (y16.1 ≠ 0) <| .need ((List.length i4.2.1 + 1) * 16 ≤ 140737488355328) <| .tt <| .lt (w64 (i4.1 + 1) : Int) fun z38 => .lt (List.take (List.length i4.2.1) i4.2.1 ++ [(1, Int.tmod i4.1 y16.1, ())] : List xY) fun z39 => .need ((((5) = (5)) ∧ (((0) = (0)) ∧ ((List.length i4.2.1 + 1 = List.length z39) ∧ ((true) = (true))))) ∧ ((z38 : Int) = z38) ∧ (((0) = (0)) ∧ (((0) = (0)) ∧ ((true) = (true)))) ∧ True) <| .xD (xC (xS 161 z39) <| xC (xE 38 d.1 d.2.1 d.2.2.1) True) <| .ok (.inl ((z38, z39, ()))))
 (.loop 9 (.tt <| .lt (i4.2.1 : List xY) fun z40 => .lt (i4.1 : Int) fun z41 => .xD (xL z41 <| (xU 10 0 (List.length z40) true) ∧ wc ∧ True) <| .xD (xC (xS 161 z40) <| xC (xE 38 d.1 d.2.1 d.2.2.1) True) <| .ok ((z40, z41, ()))) (ajJ d j4 i4 y15))
def ak6 (d : Int × Int × List xY × Unit) (j4 : Bool × (List xY) × (Int) × Unit) : TT (List xY × Unit) :=
 .ite (j4.1)
 (.loop 7 (.tt <| .lt (j4.2.2.1 : Int) fun z22 => .xD (True ∧ (xL z22 <| wc ∧ True)) <| .xD (xC (xE 38 d.1 d.2.1 d.2.2.1) True) <| .ok ((z22, true, [], ()))) (ak5 d j4))
 (.loop 10 (.tt <| .lt (j4.2.2.1 : Int) fun z36 => .lt (j4.2.1 : List xY) fun z37 => .xD ((xU 5 0 (List.length z37) true) ∧ (xL z36 <| wc ∧ True)) <| .xD (xC (xS 161 z37) <| xC (xE 38 d.1 d.2.1 d.2.2.1) True) <| .ok ((z36, z37, ()))) (ajK d j4))
def ad3 (d : Int × Int × List xY × Unit) : TT (List xY × Unit) :=
 .join 0 (ι := Bool × (List xY) × (Int) × Unit) (.loop 1 (.tt <| .xD (True ∧ (xQ (0 : Int) (0 : Int) <| wc ∧ True)) <| .xD (xC (xE 38 d.1 d.2.1 d.2.2.1) True) <| .ok ((0, 0, true, [], ()))) (atJ d)) (ak6 d)
end
end Go.Vs
