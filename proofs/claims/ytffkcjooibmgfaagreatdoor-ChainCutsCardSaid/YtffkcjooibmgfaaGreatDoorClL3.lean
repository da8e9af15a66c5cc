/-
  Trees of what the functions compute, and their laws. Own work; no condition.
-/
import Derived.Test.YtffkcjooibmgfaaGreatDoorClL2
import Derived.Test.YtffkcjooibmgfaaGreatDoorProg
set_option linter.unusedVariables false
set_option linter.unusedSimpArgs false
namespace Go.Vs
open Go Go.Vg
theorem alK {l : List Int} (h : avO l) (k : Nat) : 0 ≤ l.getD k 0 ∧ l.getD k 0 ≤ 65535 := by
 rw [yf]
 rcases zO k l.length with hk | hk
 ·rw [zG hk]; exact h _ (yv hk)
 ·rw [yO hk]; decide
theorem au2 {l : List Int} {v : Int} (h : avO l) (hv : 0 ≤ v ∧ v ≤ 65535) : avO (l ++ [v]) := by
 intro w hw
 rcases zw.mp hw with hw | hw
 ·exact h w hw
 ·rw [zJ.mp hw]; exact hv
theorem aHo {l : List Int} {v : Int} {k : Nat} (h : avO l) (hv : 0 ≤ v ∧ v ≤ 65535) : avO (l.set k v) := by
 intro w hw
 rcases List.mem_or_eq_of_mem_set hw with hw | hw
 ·exact h w hw
 ·rw [hw]; exact hv
theorem aFd {l : List Int} {k : Nat} (h : avO l) : avO (l.take k) := fun w hw => h w (yh hw)
theorem aDq {A : Type} {R : Int × Int × List Int × Unit → Option ((Int × Int × List Int × Unit) ⊕ (A ⊕ (CvT × Unit)))} (l : List Int) (hl : 2 ≤ l.length ∧ l.length ≤ 8) (he : avO l)
  (hs : ∀ (k : Nat) (a : Int) (s : List Int), k < l.length → s.length = l.length → avO s → 0 ≤ a → a ≤ 65535 → R ((k : Int), a, s, ()) = some (.inl (((k + 1 : Nat) : Int), a + 1 + Int.tmod (s.getD k 0) (Int.tdiv 65535 l.length), s.set k (a + Int.tmod (s.getD k 0) (Int.tdiv 65535 l.length)), ())))
  (hd : ∀ (a : Int) (s : List Int), s.length = l.length → R ((l.length : Int), a, s, ()) = some (.inr (.inr ((2, s.take l.length, [], ()), ())))) :
  ∃ t, afD R (0, 0, l, ()) = some (.inr ((2, t, [], ()), ())) ∧ aeY t := by
 obtain ⟨n, hn⟩ : ∃ n : Nat, n = l.length := ⟨_, rfl⟩
 rw [← hn] at hl hs hd
 have hq : Int.tdiv 65535 (n : Int) = 65535 / (n : Int) := yA zc
 have hq1 : (n : Int) * (65535 / (n : Int)) ≤ 65535 := by have := Int.ediv_mul_le 65535 (b := (n : Int)) zc; rw [Int.mul_comm]; omega
 have hq0 : 1 ≤ 65535 / (n : Int) := by
  rw [xq zc]; omega
 rw [hq] at hs
 obtain ⟨q, hqq⟩ : ∃ q : Int, q = 65535 / (n : Int) := ⟨_, rfl⟩
 rw [← hqq] at hs hq1 hq0
 suffices H : ∃ a, afD R (0, 0, l, ()) = some a ∧ ∃ t, a = .inr ((2, t, [], ()), ()) ∧ aeY t by
  obtain ⟨a, h1, t, rfl, h2⟩ := H
  exact ⟨t, h1, h2⟩
 refine afU (R := R) (fun i => ∃ k : Nat, k ≤ n ∧ i.1 = (k : Int) ∧ 0 ≤ i.2.1 ∧ i.2.1 ≤ (k : Int) * q ∧ i.2.2.1.length = n ∧ avO i.2.2.1) (fun i => ((n : Int) - i.1).toNat) (fun a => ∃ t, a = .inr ((2, t, [], ()), ()) ∧ aeY t) ?_ (0, 0, l, ()) ⟨0, by omega, rfl, by simp, by simp, hn.symm, he⟩
 rintro ⟨i, a, s, u⟩ ⟨k, h1, h2, h3, h4, h5, h6⟩
 simp only at h2 h3 h4 h5 h6
 subst h2
 rcases zO k n with hk | hk
 ·left
  have hg := alK h6 k
  have hm : Int.tmod (s.getD k 0) q = s.getD k 0 % q := zQ hg.1
  have m0 := yZ (s.getD k 0) (b := q) zc
  have m1 := yL (s.getD k 0) (b := q) zc
  have hkn : ((k : Int) + 1) * q ≤ (n : Int) * q := xa zc zc
  have hk1 : ((k : Int) + 1) * q = (k : Int) * q + q := by rw [Int.add_mul, Int.one_mul]
  refine ⟨_, hs k a s hk h5 h6 h3 zc, ⟨k + 1, hk, rfl, ?_, ?_, ?_, ?_⟩, ?_⟩
  ·simp only [hm]; omega
  ·simp only [hm]; rw [Int.natCast_add]; show _ ≤ ((k : Int) + 1) * q; omega
  ·simp only [yP, h5]
  ·simp only [hm]; exact aHo h6 ⟨by omega, by omega⟩
  ·simp only; omega
 ·right
  obtain rfl : k = n := zc
  exact ⟨_, hd a s h5, s.take k, rfl, by rw [zM]; omega, by rw [zM]; omega, aFd h6⟩
theorem s9 {p : Prop} (h : p := by first | omega | ((try simp only [aaB, inb, inc, ge_iff_le, gt_iff_lt, zA, asT, ne_eq, zz, zM, yi, yQ, Nat.min_self, DTl]) <;> (first | omega | (refine ⟨?_, ?_⟩ <;> omega) | simp))) : p := h
theorem zb {α : Type} {x y : TT α} {r : Option α} (k : y.toO = r) (h : x.toO = y.toO := by first | exact uV rfl | exact uB rfl | exact uN s9 rfl) : x.toO = r := h.trans k
theorem aFh (d : DrT) (j : Bool × List Int × Unit) (b : Bool) (l : List Int) (hl : 2 ≤ l.length ∧ l.length ≤ 8) (he : avO l) :
  ∃ t, afD (fun i => (agB d j (b, l, ()) i).toO) (0, 0, l, ()) = some (.inr ((2, t, [], ()), ())) ∧ aeY t := by
 have hq : Int.tdiv 65535 (l.length : Int) = 65535 / (l.length : Int) := yA zc
 have hq0 : 1 ≤ 65535 / (l.length : Int) := by rw [xq zc]; omega
 have hq1 : 65535 / (l.length : Int) ≤ 65535 := Int.ediv_le_self _ zc
 refine aDq l hl he ?_ ?_
 ·intro k a s hk hs hes h0 h1
  have hg := alK hes k
  have hm : Int.tmod (s.getD k 0) (Int.tdiv 65535 (l.length : Int)) = s.getD k 0 % (65535 / (l.length : Int)) := by rw [hq]; exact zQ hg.1
  have m0 := yZ (s.getD k 0) (b := 65535 / (l.length : Int)) zc
  have m1 := yL (s.getD k 0) (b := 65535 / (l.length : Int)) zc
  have e1 : w64 (Int.tdiv 65535 (l.length : Int)) = Int.tdiv 65535 (l.length : Int) := aaF (by rw [hq]; omega)
  have e2 : w64 ((k : Int) + 1) = ((k + 1 : Nat) : Int) := by rw [aaF (x := (k : Int) + 1) zc]; omega
  have e3 : w64 (a + 1) = a + 1 := aaF zc
  have e4 : w64 (a + 1 + Int.tmod (s.getD k 0) (Int.tdiv 65535 (l.length : Int))) = a + 1 + Int.tmod (s.getD k 0) (Int.tdiv 65535 (l.length : Int)) := aaF (by rw [hm]; omega)
  have e5 : w64 (a + 1 + Int.tmod (s.getD k 0) (Int.tdiv 65535 (l.length : Int)) - 1) = a + Int.tmod (s.getD k 0) (Int.tdiv 65535 (l.length : Int)) := by rw [aaF (x := a + 1 + Int.tmod (s.getD k 0) (Int.tdiv 65535 (l.length : Int)) - 1) (by rw [hm]; omega)]; omega
  simp only [agB, aaB, e1, e2, e3, zx, zA, e4, e5]
  refine uT (zn zc) ?_
  refine uN ⟨by omega, by omega⟩ ?_
  refine uN (by rw [hq]; omega) ?_
  refine uN ⟨by omega, by omega⟩ ?_
  refine uB (uB (uB ?_))
  repeat refine uV ?_
  simp only [abQ, e5]
 ·intro a s hs
  simp only [agB, aaB]
  refine uF (zl zc) ?_
  rfl
theorem aFg (d : DrT) (j : Bool × List Int × Unit) (l : List Int) (hl : 2 ≤ l.length ∧ l.length ≤ 8) (he : avO l) :
  ∃ t, afD (fun i => (agA d j (l, ()) i).toO) (0, 0, l, ()) = some (.inr ((2, t, [], ()), ())) ∧ aeY t := by
 have hq : Int.tdiv 65535 (l.length : Int) = 65535 / (l.length : Int) := yA zc
 have hq0 : 1 ≤ 65535 / (l.length : Int) := by rw [xq zc]; omega
 have hq1 : 65535 / (l.length : Int) ≤ 65535 := Int.ediv_le_self _ zc
 refine aDq l hl he ?_ ?_
 ·intro k a s hk hs hes h0 h1
  have hg := alK hes k
  have hm : Int.tmod (s.getD k 0) (Int.tdiv 65535 (l.length : Int)) = s.getD k 0 % (65535 / (l.length : Int)) := by rw [hq]; exact zQ hg.1
  have m0 := yZ (s.getD k 0) (b := 65535 / (l.length : Int)) zc
  have m1 := yL (s.getD k 0) (b := 65535 / (l.length : Int)) zc
  have e1 : w64 (Int.tdiv 65535 (l.length : Int)) = Int.tdiv 65535 (l.length : Int) := aaF (by rw [hq]; omega)
  have e2 : w64 ((k : Int) + 1) = ((k + 1 : Nat) : Int) := by rw [aaF (x := (k : Int) + 1) zc]; omega
  have e3 : w64 (a + 1) = a + 1 := aaF zc
  have e4 : w64 (a + 1 + Int.tmod (s.getD k 0) (Int.tdiv 65535 (l.length : Int))) = a + 1 + Int.tmod (s.getD k 0) (Int.tdiv 65535 (l.length : Int)) := aaF (by rw [hm]; omega)
  have e5 : w64 (a + 1 + Int.tmod (s.getD k 0) (Int.tdiv 65535 (l.length : Int)) - 1) = a + Int.tmod (s.getD k 0) (Int.tdiv 65535 (l.length : Int)) := by rw [aaF (x := a + 1 + Int.tmod (s.getD k 0) (Int.tdiv 65535 (l.length : Int)) - 1) (by rw [hm]; omega)]; omega
  simp only [agA, aaB, e1, e2, e3, zx, zA, e4, e5]
  refine uT (zn zc) ?_
  refine uN ⟨by omega, by omega⟩ ?_
  refine uN (by rw [hq]; omega) ?_
  refine uN ⟨by omega, by omega⟩ ?_
  refine uB (uB (uB ?_))
  repeat refine uV ?_
  simp only [abQ, e5]
 ·intro a s hs
  simp only [agA, aaB]
  refine uF (zl zc) ?_
  rfl
theorem aFi (d : DrT) (b : Bool) (l : List Int) (hl : l.length ≤ 8) (he : avO l) (hb : b = true → l = []) :
  ∃ t, (agC d (b, l, ())).toO = some ((2, t, [], ()), ()) ∧ aeY t := by
 cases b
 ·suffices H : ∃ a, afD (fun i => (aiL d (false, l, ()) i).toO) (l, ()) = some a ∧ ∃ t, a = ((2, t, [], ()), ()) ∧ aeY t by
   obtain ⟨a, h1, t, rfl, h2⟩ := H
   refine ⟨t, ?_, h2⟩
   simp only [agC]
   refine uF rfl ?_
   exact uO (l, ()) (uB rfl) h1
  refine afU (fun i => i.1.length ≤ 8 ∧ avO i.1) (fun i => 2 - i.1.length) _ ?_ (l, ()) ⟨hl, he⟩
  rintro ⟨l, u⟩ ⟨h1, h2⟩
  simp only at h1 h2
  simp only [aiL, aaB, zF]
  rcases zO l.length 2 with hk | hk
  ·left
   have e1 : w64 (65535 * (l.length : Int)) = 65535 * (l.length : Int) := aaF zc
   refine ⟨(l ++ [65535 * (l.length : Int)], ()), ?_, ⟨by rw [zz]; simp only [yi, yQ]; omega, au2 h2 zc⟩, by simp only [zz, yi, yQ]; omega⟩
   refine uT (zn zc) ?_
   simp only [e1]
   repeat refine zb ?_
   rfl
  ·right
   rcases (yw d.2.2.2.2.1).symm with hd | hd
   ·refine ⟨_, uF (zl zc) (uF hd ?_), l, rfl, hk, by omega, h2⟩
    repeat refine zb ?_
    rfl
   ·obtain ⟨t, h3, h4⟩ := aFg d (false, l, ()) l ⟨hk, h1⟩ h2
    refine ⟨_, uF (zl zc) (uT hd ?_), t, rfl, h4⟩
    repeat refine zb ?_
    refine uO (0, 0, l, ()) ?_ ?_
    ·repeat refine zb ?_
     rfl
    ·exact h3
 ·suffices H : ∃ a, afD (fun i => (aiM d (true, l, ()) i).toO) (true, [], ()) = some a ∧ ∃ t, a = ((2, t, [], ()), ()) ∧ aeY t by
   obtain ⟨a, h1, t, rfl, h2⟩ := H
   refine ⟨t, ?_, h2⟩
   simp only [agC]
   refine uT rfl ?_
   exact uO (true, [], ()) rfl h1
  refine afU (fun i => i.2.1.length ≤ 8 ∧ avO i.2.1 ∧ (i.1 = true → i.2.1 = [])) (fun i => 2 - i.2.1.length) _ ?_ (true, [], ()) ⟨by simp, (by intro v hv; cases hv), fun _ => rfl⟩
  rintro ⟨b, l, u⟩ ⟨h1, h2, h5⟩
  simp only at h1 h2 h5
  simp only [aiM, aaB, zF]
  cases b
  ·rcases zO l.length 2 with hk | hk
   ·left
    have e1 : w64 (65535 * (l.length : Int)) = 65535 * (l.length : Int) := aaF zc
    refine ⟨(false, l ++ [65535 * (l.length : Int)], ()), ?_, ⟨by rw [zz]; simp only [yi, yQ]; omega, au2 h2 zc, by intro h; cases h⟩, by simp only [zz, yi, yQ]; omega⟩
    refine uF rfl (uT (zn zc) ?_)
    simp only [e1]
    repeat refine zb ?_
    rfl
   ·right
    rcases (yw d.2.2.2.2.1).symm with hd | hd
    ·refine ⟨_, uF rfl (uF (zl zc) (uF hd ?_)), l, rfl, hk, by omega, h2⟩
     repeat refine zb ?_
     rfl
    ·obtain ⟨t, h3, h4⟩ := aFh d (true, ‹List Int›, ()) false l ⟨hk, h1⟩ h2
     refine ⟨_, uF rfl (uF (zl zc) (uT hd ?_)), t, rfl, h4⟩
     repeat refine zb ?_
     refine uO (0, 0, l, ()) ?_ ?_
     ·repeat refine zb ?_
      rfl
     ·exact h3
  ·left
   have := h5 rfl
   subst this
   refine ⟨(false, [0], ()), ?_, ⟨by simp, by intro v hv; rw [zJ.mp hv]; decide, by intro h; cases h⟩, by simp⟩
   refine uT rfl ?_
   repeat refine zb ?_
   rfl
theorem aFf (d : DrT) (hd : aJi d) : ∃ t, af3 (d, ()) = some ((2, t, [], ()), ()) ∧ aeY t := by
 suffices H : ∃ a, afD (fun i => (aiN d i).toO) (0, true, [], ()) = some a ∧ ∃ b l, a = .inl (b, l, ()) ∧ l.length ≤ 8 ∧ avO l ∧ (b = true → l = []) by
  obtain ⟨a, h1, b, l, rfl, h2, h3, h4⟩ := H
  obtain ⟨t, h5, h6⟩ := aFi d b l h2 h3 h4
  refine ⟨t, ?_, h6⟩
  simp only [af3, ahK]
  exact uL (b, l, ()) (uO (0, true, [], ()) rfl h1) h5
 refine afU (fun i => ∃ k : Nat, k ≤ 8 ∧ i.1 = (k : Int) ∧ i.2.2.1.length = k ∧ avO i.2.2.1 ∧ (i.2.1 = true → i.2.2.1 = [] )) (fun i => (8 - i.1).toNat) _ ?_ _ ⟨0, by omega, rfl, rfl, (by intro v hv; cases hv), fun _ => rfl⟩
 rintro ⟨i, b, l, u⟩ ⟨k, h1, h2, h3, h4, h5⟩
 simp only at h2 h3 h4 h5
 subst h2
 simp only [aiN, afO, aaB, zF, aaL]
 have hg := alK hd.2.1 k
 have e0 : w64 (d.2.1.getD k 0) = d.2.1.getD k 0 := aaF zc
 have e2 : w64 ((k : Int) + 1) = ((k + 1 : Nat) : Int) := by rw [aaF (x := (k : Int) + 1) zc]; omega
 simp only [e0, e2]
 by_cases c1 : (k : Int) < d.2.1.length
 ·by_cases c2 : (k : Int) < 8
  ·left
   refine ⟨(((k + 1 : Nat) : Int), false, l ++ [d.2.1.getD k 0], ()), ?_, ⟨k + 1, by omega, rfl, by simp [h3], au2 h4 hg, by intro h; cases h⟩, by simp only; omega⟩
   cases b
   ·refine uF rfl (uT (zn c1) (uT (zn c2) ?_))
    repeat refine zb ?_
    rfl
   ·have := h5 rfl
    subst this
    refine uT rfl (uT (zn c1) (uT (zn c2) ?_))
    repeat refine zb ?_
    rfl
  ·right
   cases b
   ·refine ⟨_, uF rfl (uT (zn c1) (uF (zl c2) ?_)), false, l, rfl, by omega, h4, by intro h; cases h⟩
    repeat refine zb ?_
    rfl
   ·refine ⟨_, uT rfl (uT (zn c1) (uF (zl c2) ?_)), true, [], rfl, by simp, (by intro v hv; cases hv), fun _ => rfl⟩
    repeat refine zb ?_
    rfl
 ·right
  cases b
  ·refine ⟨_, uF rfl (uF (zl c1) ?_), false, l, rfl, by omega, h4, by intro h; cases h⟩
   repeat refine zb ?_
   rfl
  ·refine ⟨_, uT rfl (uF (zl c1) ?_), true, [], rfl, by simp, (by intro v hv; cases hv), fun _ => rfl⟩
   repeat refine zb ?_
   rfl
def aJy : Int → List aiD → Int → Prop
 | last, [], t => t = last
 | last, s :: r, t => ag0 last s ∧ aJy s.1 r t
theorem aAZ : ∀ (l : List aiD) (last t : Int) (s : aiD), aJy last l t → ag0 t s → aJy last (l ++ [s]) s.1
 | [], last, t, s, h, hs => by
  have : t = last := h
  subst this; exact ⟨hs, rfl⟩
 | x :: r, last, t, s, h, hs => ⟨h.1, aAZ r x.1 t s h.2 hs⟩
theorem aAY : ∀ (l : List aiD) (last t : Int), aJy last l t → 1 ≤ l.length → t < 1000000 → af9 last (l.set (l.length - 1) (1000000, (l.getD (l.length - 1) (0, 0, 0, 0, 0, 0, ())).2))
 | [], _, _, _, h, _ => absurd h zd
 | [s], last, t, h, _, ht => by
  have h2 : t = s.1 := h.2
  obtain ⟨h3, h4⟩ := h.1
  exact ⟨⟨h3, ⟨by have := h4.1; omega, by show (1000000 : Int) ≤ 1000000; omega⟩⟩, rfl⟩
 | s :: x :: r, last, t, h, _, ht => by
  have := aAY (x :: r) s.1 t h.2 ze ht
  simp only [yi, Nat.add_sub_cancel] at this ⊢
  exact ⟨h.1, by simpa using this⟩
theorem aoI {a b : Int} (ha : inR a 1 36) (hb : inR b 1 12) : aa5 (a, b, ()) = some (!decide (Nat.gcd a.natAbs b.natAbs = 1), ()) := by
 unfold aa5
 rw [if_pos ⟨ha, hb⟩]
theorem aAj (d : DrT) (hd : aJi d) : ∃ l, ad2 (d, ()) = some ((3, [], l, ()), ()) ∧ adE l := by
 suffices H : ∃ a, afD (fun i => (agQ d i).toO) (0, 0, true, [], ()) = some a ∧ ∃ l, a = ((3, [], l, ()), ()) ∧ adE l by
  obtain ⟨a, h1, l, rfl, h2⟩ := H
  refine ⟨l, ?_, h2⟩
  simp only [ad2, afB]
  exact uO (0, 0, true, [], ()) (uB rfl) h1
 obtain ⟨n, hn⟩ : ∃ n : Nat, n = (if 3 < d.2.2.1.length then 3 else d.2.2.1.length) := ⟨_, rfl⟩
 have hnz : (if 3 < len d.2.2.1 then 3 else len d.2.2.1) = (n : Int) := by
  rw [hn]
  by_cases h : 3 < d.2.2.1.length
  ·rw [if_pos h]; exact (if_pos (by rw [aaB]; omega)).trans rfl
  ·rw [if_neg h]; exact (if_neg (by rw [aaB]; omega)).trans rfl
 have hn3 : n ≤ 3 := by rw [hn]; split <;> omega
 have hnl : n ≤ d.2.2.1.length := by rw [hn]; split <;> omega
 clear hn
 refine afU (fun i : Int × Int × Bool × List aiD × Unit => ∃ k : Nat, k ≤ n ∧ i.1 = (k : Int) ∧ i.2.2.2.1.length = k ∧ (i.2.2.1 = true → i.2.2.2.1 = []) ∧ (i.2.2.1 = false → 1 ≤ k) ∧ 0 ≤ i.2.1 ∧ i.2.1 ≤ 256000 * (k : Int) ∧ aJy 0 i.2.2.2.1 i.2.1) (fun i => (3 - i.1).toNat) _ ?_ _ ⟨0, by omega, rfl, rfl, fun _ => rfl, (by intro h; cases h), xp _, (by show (0 : Int) ≤ _; omega), rfl⟩
 rintro ⟨i, t, b, l, u⟩ ⟨k, h1, h2, h3, h4, h5, h6, h7, h8⟩
 simp only at h2 h3 h4 h5 h6 h7 h8
 subst h2
 simp only [agQ, ad9, gP, hnz, aaL, zF]
 rcases zO k n with hk | hk
 ·left
  have hmem : d.2.2.1.getD k (0, 0, 0, 0, 0, 0, ()) ∈ d.2.2.1 := by
   rw [yf, zG zc]; exact yv _
  obtain ⟨p, hp⟩ : ∃ p, p = d.2.2.1.getD k (0, 0, 0, 0, 0, 0, ()) := ⟨_, rfl⟩
  have hpb := hd.2.2 p (by rw [hp]; exact hmem)
  simp only [← hp]
  clear hp hmem
  obtain ⟨w, m, a, o, nu, de, uu⟩ := p
  obtain ⟨b1, b2, b3, b4, b5, b6⟩ := hpb
  simp only [inR] at b1 b2 b3 b4 b5 b6 ⊢
  have q1 : w64 w = w := aaF zc
  have q2 : w64 m = m := aaF zc
  have q3 : w64 a = a := aaF zc
  have q4 : w64 o = o := aaF zc
  have q5 : Int.tmod nu 4 = nu % 4 := zQ zc
  have q6 : Int.tmod de 4 = de % 4 := zQ zc
  have q7 : w64 (nu % 4) = nu % 4 := aaF zc
  have q8 : w64 (de % 4) = de % 4 := aaF zc
  have q9 : w64 (1 + nu % 4) = 1 + nu % 4 := aaF zc
  have q10 : w64 (1 + de % 4) = 1 + de % 4 := aaF zc
  have q11 : w64 (t + 1000) = t + 1000 := aaF zc
  have q12 : w64 (1000 * w) = 1000 * w := aaF zc
  have q13 : w64 (t + 1000 + 1000 * w) = t + 1000 + 1000 * w := aaF zc
  have q14 : w64 (100 * m) = 100 * m := aaF zc
  have q15 : w64 (10 * a) = 10 * a := aaF zc
  have q16 : w64 (10 * o) = 10 * o := aaF zc
  have q17 : w64 (0 - 100 * m) = 0 - 100 * m := aaF zc
  have q18 : w64 (0 - 10 * a) = 0 - 10 * a := aaF zc
  have q19 : w64 ((k : Int) + 1) = ((k + 1 : Nat) : Int) := by rw [aaF (x := (k : Int) + 1) zc]; omega
  simp only [q1, q2, q3, q4, q5, q6, q7, q8, q9, q10, q11, q12, q13, q14, q15, q16, q17, q18, q19]
  have inv : ∀ M A N D : Int, inR M (-100000000) 100000000 → inR A (-100000000) 100000000 → inR N 1 36 → inR D 1 12 → Nat.gcd N.natAbs D.natAbs = 1 →
    (∃ k' : Nat, k' ≤ n ∧ ((k + 1 : Nat) : Int) = (k' : Int) ∧ (l ++ [((t + 1000 + 1000 * w, M, A, N, D, 10 * o, ()) : aiD)]).length = k' ∧ ((false = true) → l ++ [((t + 1000 + 1000 * w, M, A, N, D, 10 * o, ()) : aiD)] = []) ∧ (false = false → 1 ≤ k') ∧ 0 ≤ t + 1000 + 1000 * w ∧ t + 1000 + 1000 * w ≤ 256000 * (k' : Int) ∧ aJy 0 (l ++ [((t + 1000 + 1000 * w, M, A, N, D, 10 * o, ()) : aiD)]) (t + 1000 + 1000 * w)) := by
   intro M A N D c1 c2 c3 c4 c5
   refine ⟨k + 1, hk, rfl, by simp [h3], (by intro h; cases h), (by intro _; omega), by omega, by omega, ?_⟩
   exact aAZ l 0 t (t + 1000 + 1000 * w, M, A, N, D, 10 * o, ()) h8 ⟨⟨c1, c2, ⟨by show -100000000 ≤ 10 * o; omega, by show 10 * o ≤ 100000000; omega⟩, c3, c4, c5⟩, ⟨by show t + 1 ≤ t + 1000 + 1000 * w; omega, by show t + 1000 + 1000 * w ≤ 1000000; omega⟩⟩
  have n1 : inR (1 : Int) 1 36 := zd
  have n2 : inR (1 : Int) 1 12 := zd
  have n3 : inR (1 + nu % 4) 1 36 := ⟨by omega, by omega⟩
  have n4 : inR (1 + de % 4) 1 12 := ⟨by omega, by omega⟩
  have n5 : inR (100 * m) (-100000000) 100000000 := ⟨by omega, by omega⟩
  have n6 : inR (10 * a) (-100000000) 100000000 := ⟨by omega, by omega⟩
  have n7 : inR (if 0 - 100 * m > 100 * m then 0 - 100 * m else 100 * m) (-100000000) 100000000 := by split <;> exact ⟨by omega, by omega⟩
  have n8 : inR (if 0 - 10 * a > 10 * a then 0 - 10 * a else 10 * a) (-100000000) 100000000 := by split <;> exact ⟨by omega, by omega⟩
  have g1 : ∀ D : Int, Nat.gcd (1 : Int).natAbs D.natAbs = 1 := fun D => Nat.gcd_one_left _
  have g2 : ∀ N : Int, Nat.gcd N.natAbs (1 : Int).natAbs = 1 := fun N => Nat.gcd_one_right _
  rcases (yw d.2.2.2.1).symm with hr | hr <;> rcases (yw d.2.2.2.2.1).symm with hi | hi <;> by_cases g : Nat.gcd (1 + nu % 4).natAbs (1 + de % 4).natAbs = 1
  all_goals
   cases b
   ·apply Exists.intro
    refine ⟨?_, ?_, ?_⟩
    ·refine uF rfl (uT (zn zc) (uN ⟨by omega, by rw [aaB]; omega⟩ ?_))
     first | refine uT hr ?_ | refine uF hr ?_
     first | refine uT hi ?_ | refine uF hi ?_
     first | refine uC _ (aoI n3 n4) ?_ | refine uC _ (aoI n3 n2) ?_
     first | refine uF (congrArg Bool.not (zn g)) ?_ | refine uF (congrArg Bool.not (zn (g2 _))) ?_ | refine uT (congrArg Bool.not (zl g)) ?_
     repeat refine zb ?_
     rfl
    ·exact inv _ _ _ _ zk zk zk zk (by first | exact g | exact g2 _ | exact g1 _)
    ·show (3 - ((k + 1 : Nat) : Int)).toNat < (3 - (k : Int)).toNat; omega
   ·have := h4 rfl
    subst this
    apply Exists.intro
    refine ⟨?_, ?_, ?_⟩
    ·refine uT rfl (uT (zn zc) (uN ⟨by omega, by rw [aaB]; omega⟩ ?_))
     first | refine uT hr ?_ | refine uF hr ?_
     first | refine uT hi ?_ | refine uF hi ?_
     first | refine uC _ (aoI n3 n4) ?_ | refine uC _ (aoI n3 n2) ?_
     first | refine uF (congrArg Bool.not (zn g)) ?_ | refine uF (congrArg Bool.not (zn (g2 _))) ?_ | refine uT (congrArg Bool.not (zl g)) ?_
     repeat refine zb ?_
     rfl
    ·exact inv _ _ _ _ zk zk zk zk (by first | exact g | exact g2 _ | exact g1 _)
    ·show (3 - ((k + 1 : Nat) : Int)).toNat < (3 - (k : Int)).toNat; omega
 ·right
  obtain rfl : k = n := zc
  have e0 : w64 (1 - 1) = 0 := aaF zc
  cases b
  ·have h5 := h5 rfl
   rcases (yw d.2.2.2.2.1).symm with hi | hi
   ·have e1 : w64 ((k : Int) - 1) = ((k - 1 : Nat) : Int) := by rw [aaF (x := (k : Int) - 1) zc]; omega
    refine ⟨_, uF rfl (uF (zl zc) (uF (beq_eq_false_iff_ne.mpr zc) (uF hi (uN ?_ rfl)))), _, rfl, ?_⟩
    ·rw [e1, aaB]; exact ⟨by omega, by omega⟩
    ·rw [e1, zA, zx, ← h3, zy (by rw [yP]; omega)]
     refine ⟨by rw [yP]; omega, by rw [yP]; omega, aAY l 0 t h8 zc zc⟩
   ·refine ⟨_, uF rfl (uF (zl zc) (uF (beq_eq_false_iff_ne.mpr zc) (uT hi (uN ?_ rfl)))), _, rfl, ?_⟩
    ·rw [aaB]; exact ⟨by simp only [asT]; omega, by omega⟩
    ·rw [e0]
     obtain ⟨s, r, rfl⟩ : ∃ s r, l = s :: r := by
      cases l with
      | nil => simp at h3; omega
      | cons s r => exact ⟨s, r, rfl⟩
     show adE [((1000000, s.2) : aiD)]
     exact ⟨zm 1, by show 1 ≤ 4; omega, ⟨h8.1.1, ⟨by show (0 : Int) + 1 ≤ 1000000; omega, by show (1000000 : Int) ≤ 1000000; omega⟩⟩, rfl⟩
  ·have := h4 rfl
   subst this
   have : k = 0 := h3.symm
   subst this
   rcases (yw d.2.2.2.2.1).symm with hi | hi
   ·refine ⟨_, uT rfl (uF (zl zc) (uT rfl (uF hi rfl))), _, rfl, ?_⟩
    rw [e0]; decide
   ·refine ⟨_, uT rfl (uF (zl zc) (uT rfl (uT hi rfl))), _, rfl, ?_⟩
    rw [e0]; decide
theorem aHG (d : DrT) (hd : aJi d) : ∃ c, aaI (d, ()) = some (c, ()) ∧ acR c := by
 obtain ⟨k, ta, pa, ro, ri, u⟩ := d
 obtain ⟨l1, e1, o1⟩ := aFf _ hd
 obtain ⟨l2, e2, o2⟩ := aAj _ hd
 simp only [aaI, ajF]
 by_cases c0 : Int.tmod k 4 = 0
 ·exact ⟨(1, [], [], ()), uT (zu.mpr c0) rfl, Or.inl ⟨rfl, rfl, rfl⟩⟩
 ·by_cases c1 : Int.tmod k 4 = 1
  ·refine ⟨(3, [], l2, ()), uF (beq_eq_false_iff_ne.mpr c0) (uT (zu.mpr c1) (uC _ e2 ?_)), Or.inr (Or.inr ⟨rfl, rfl, o2⟩)⟩
   repeat refine zb ?_
   rfl
  ·refine ⟨(2, l1, [], ()), uF (beq_eq_false_iff_ne.mpr c0) (uF (beq_eq_false_iff_ne.mpr c1) (uC _ e1 ?_)), Or.inr (Or.inl ⟨rfl, o1, rfl⟩)⟩
   repeat refine zb ?_
   rfl
theorem at1 (d : DrT) (y) (h : af3 (d, ()) = some y) : (ahK d).toO = some y := h
theorem aoZ (d : DrT) (y) (h : ad2 (d, ()) = some y) : (afB d).toO = some y := h
theorem av5 (d : DrT) (y) (h : aaI (d, ()) = some y) : (ajF d).toO = some y := h
def ay1 : Int → List aiD → Prop
 | last, [] => last = 1000000
 | last, s :: r => (agF s ∧ last < s.1) ∧ ay1 s.1 r
theorem aAT : ∀ (l : List aiD) (last : Int), ay1 last l → last ≤ 1000000
 | [], _, h => by have : _ = _ := h; omega
 | _ :: r, _, h => by have := aAT r _ h.2; have := h.1.2; omega
theorem aiH : ∀ (l : List aiD) (last : Int), ay1 last l ↔ af9 last l
 | [], _ => Iff.rfl
 | s :: r, last => by
  constructor
  ·intro h
   have := aAT r _ h.2
   exact ⟨⟨h.1.1, by have := h.1.2; omega, this⟩, (aiH r _).1 h.2⟩
  ·intro h
   exact ⟨⟨h.1.1, by have := h.1.2.1; omega⟩, (aiH r _).2 h.2⟩
theorem aBL {last : Int} {s : aiD} {r : List aiD} : ay1 last (s :: r) ↔ (agF s ∧ last < s.1) ∧ ay1 s.1 r := Iff.rfl
theorem av4 (c : CvT) (y) (h : afI (c, ()) = some y) : (al6 c).toO = some y := by
 unfold afI at h
 split at h
 case isFalse => cases h
 case isTrue hp =>
 injection h with h
 subst h
 obtain ⟨kind, tab, l, u0⟩ := c
 obtain ⟨hs1, hs2⟩ := hp
 dsimp only at hs1 hs2
 unfold al6
 dsimp only
 by_cases k1 : kind = 1
 ·subst k1
  have hd : decide (acR (1, tab, l, u0)) = decide (tab = [] ∧ l = []) := decide_eq_decide.2 ⟨fun h => by
   rcases h with h | h | h
   ·exact h.2
   ·exact absurd h.1 (by decide : ¬ (1 : Int) = 2)
   ·exact absurd h.1 (by decide : ¬ (1 : Int) = 3), fun h => Or.inl ⟨rfl, h⟩⟩
  rw [hd]
  refine uT rfl ?_
  simp only [ahR]
  by_cases a1 : tab = []
  ·refine uT (zn a1) ?_
   rw [abQ]
   by_cases a2 : l = []
   ·rw [zn a2, zn (show tab = [] ∧ l = [] from ⟨a1, a2⟩)]
   ·rw [zl a2, zl (fun h : tab = [] ∧ l = [] => a2 h.2)]
  ·refine uF (zl a1) ?_
   rw [abQ, zl (fun h : tab = [] ∧ l = [] => a1 h.1)]
 refine uF (beq_eq_false_iff_ne.2 k1) ?_
 by_cases k2 : kind = 2
 ·subst k2
  have hd : decide (acR (2, tab, l, u0)) = decide (aeY tab ∧ l = []) := decide_eq_decide.2 ⟨fun h => by
   rcases h with h | h | h
   ·exact absurd h.1 (by decide : ¬ (2 : Int) = 1)
   ·exact h.2
   ·exact absurd h.1 (by decide : ¬ (2 : Int) = 3), fun h => Or.inr (Or.inl ⟨rfl, h⟩)⟩
  rw [hd]
  refine uT rfl (uO (0, ()) rfl ?_)
  refine acJ (fun i : Int × Unit => ∃ k : Nat, k ≤ tab.length ∧ i = ((k : Int), ()) ∧ ∀ v ∈ tab.take k, inR v 0 65535) (fun i => ((tab.length : Int) - i.1).toNat) (fun _ => (decide (aeY tab ∧ l = []), ())) ?_ _ ⟨0, by omega, rfl, by simp⟩
  rintro i ⟨k, h3, rfl, h4⟩
  simp only [ao1, aaL]
  rcases zO k tab.length with hk | hk
  ·have e : tab.getD k 0 = tab[k] := by simp [hk]
   rw [e]
   by_cases c : inR tab[k] 0 65535
   ·left
    refine ⟨(((k + 1 : Nat) : Int), ()), ?_, ⟨k + 1, by omega, rfl, ?_⟩, by simp only; omega, zf⟩
    ·refine uT sd (uN sd (uC _ (acN _ _ _) (uF (by rw [zn c]; rfl) ?_)))
     rw [aaF (x := (k : Int) + 1) zc]
     rfl
    ·intro v hv
     rw [yc hk] at hv
     rcases zw.1 hv with hv | hv
     ·exact h4 v hv
     ·rw [zJ.1 hv]; exact c
   ·right
    rw [zl (fun h : aeY tab ∧ l = [] => c (h.1.2.2 _ (yv hk)))]
    exact uT sd (uN sd (uC _ (acN _ _ _) (uT (by rw [zl c]; rfl) rfl)))
  ·right
   rw [zy hk] at h4
   refine uF sd (uC _ (acN _ _ _) ?_)
   by_cases c1 : inR (len tab) 2 17
   ·refine uT (zn c1) ?_
    rw [abQ, ahR]
    have ht : aeY tab := ⟨by have := c1.1; rw [aaB] at this; omega, by have := c1.2; rw [aaB] at this; omega, h4⟩
    by_cases c2 : l = []
    ·rw [zn c2, zn (show aeY tab ∧ l = [] from ⟨ht, c2⟩)]
    ·rw [zl c2, zl (fun h : aeY tab ∧ l = [] => c2 h.2)]
   ·refine uF (zl c1) ?_
    rw [abQ, zl (fun h : aeY tab ∧ l = [] => c1 ⟨by have := h.1.1; rw [aaB]; omega, by have := h.1.2.1; rw [aaB]; omega⟩)]
 refine uF (beq_eq_false_iff_ne.2 k2) ?_
 by_cases k3 : kind = 3
 ·subst k3
  have hd : decide (acR (3, tab, l, u0)) = decide (tab = [] ∧ adE l) := decide_eq_decide.2 ⟨fun h => by
   rcases h with h | h | h
   ·exact absurd h.1 (by decide : ¬ (3 : Int) = 1)
   ·exact absurd h.1 (by decide : ¬ (3 : Int) = 2)
   ·exact h.2, fun h => Or.inr (Or.inr ⟨rfl, h⟩)⟩
  rw [hd]
  refine uT rfl (uO (0, 0, ()) rfl ?_)
  refine acJ (fun i : Int × Int × Unit => ∃ k : Nat, k ≤ l.length ∧ i.1 = (k : Int) ∧ (ay1 0 l ↔ ay1 i.2.1 (l.drop k))) (fun i => ((l.length : Int) - i.1).toNat) (fun _ => (decide (tab = [] ∧ adE l), ())) ?_ _ ⟨0, by omega, rfl, Iff.rfl⟩
  rintro ⟨i, last, u⟩ ⟨k, h3, h4, h6⟩
  dsimp only at h4 h6
  subst h4
  simp only [ao0, aaL]
  rcases zO k l.length with hk | hk
  ·have e : l.getD k zs = l[k] := by simp [hk]
   rw [yj hk, aBL] at h6
   have hv : agN (((l.getD k zs).1, (l.getD k zs).2.1, (l.getD k zs).2.2.1, (l.getD k zs).2.2.2.1, (l.getD k zs).2.2.2.2.1, (l.getD k zs).2.2.2.2.2.1, ()), ()) = some (decide (agF l[k]), ()) := by
    rw [← e]; rfl
   by_cases c : agF l[k]
   ·by_cases c2 : last < l[k].1
    ·left
     refine ⟨(((k + 1 : Nat) : Int), l[k].1, ()), ?_, ⟨k + 1, by omega, rfl, ⟨fun h => (h6.1 h).2, fun h => h6.2 ⟨⟨c, c2⟩, h⟩⟩⟩, by dsimp only; omega, zf⟩
     refine uT sd (uN sd (uC _ hv (uF (by rw [zn c]; rfl) (uF (zl (by rw [e]; omega)) ?_))))
     rw [aaF (x := (k : Int) + 1) zc, e]
     rfl
    ·right
     rw [zl (fun h : tab = [] ∧ adE l => c2 (h6.1 ((aiH _ _).2 h.2.2.2)).1.2)]
     exact uT sd (uN sd (uC _ hv (uF (by rw [zn c]; rfl) (uT (zn (by rw [e]; omega)) rfl))))
   ·right
    rw [zl (fun h : tab = [] ∧ adE l => c (h6.1 ((aiH _ _).2 h.2.2.2)).1.1)]
    exact uT sd (uN sd (uC _ hv (uT (by rw [zl c]; rfl) rfl)))
  ·right
   have hkl : k = l.length := zc
   subst hkl
   rw [List.drop_length] at h6
   have h7 : af9 0 l ↔ last = 1000000 := by rw [← aiH]; exact h6
   refine uF sd (uC _ (acN _ _ _) ?_)
   by_cases c1 : inR (len l) 1 4
   ·refine uT (zn c1) ?_
    by_cases c2 : last = 1000000
    ·refine uT (zu.2 c2) ?_
     have hs : adE l := ⟨by have := c1.1; rw [aaB] at this; omega, by have := c1.2; rw [aaB] at this; omega, h7.2 c2⟩
     rw [abQ, ahR]
     by_cases c3 : tab = []
     ·rw [zn c3, zn (show tab = [] ∧ adE l from ⟨c3, hs⟩)]
     ·rw [zl c3, zl (fun h : tab = [] ∧ adE l => c3 h.1)]
    ·refine uF (beq_eq_false_iff_ne.2 c2) ?_
     rw [abQ, zl (fun h : tab = [] ∧ adE l => c2 (h7.1 h.2.2.2))]
   ·refine uF (zl c1) ?_
    rw [abQ, zl (fun h : tab = [] ∧ adE l => c1 ⟨by have := h.2.1; rw [aaB]; omega, by have := h.2.2.1; rw [aaB]; omega⟩)]
 ·refine uF (beq_eq_false_iff_ne.2 k3) ?_
  rw [abQ, zl (fun h : acR (kind, tab, l, u0) => by
   rcases h with h | h | h
   ·exact k1 h.1
   ·exact k2 h.1
   ·exact k3 h.1)]
noncomputable def aK2 (off : Int) (y : Rat) : Option Rat := (aLd (y + mkRat off 1000000)).map aKF
theorem aDs {c : CvT} (h : acR c) : shC c := by
 rcases h with ⟨h1, h2, h3⟩ | ⟨h1, h2, h3⟩ | ⟨h1, h2, h3⟩
 ·unfold shC; rw [h2, h3]; exact ⟨by simp, by simp⟩
 ·unfold shC; rw [h3]; exact ⟨by have := h2.2.1; omega, by simp⟩
 ·unfold shC; rw [h2]; exact ⟨by simp, by have := h3.2.1; omega⟩
theorem anL {k : IntKind} {x a b : Int} (h : k.min ≤ x ∧ x ≤ k.max) (ha : k.min = a := by rfl) (hb : k.max = b := by rfl) : inR x a b := by subst ha; subst hb; exact h
theorem aCY (g : GrT) : ahE ((g.1, g.2.1, g.2.2.1, ()), ()) = some (decide (ar6 g), ()) := rfl
theorem ayG {l : List CvT} (h : shL l ∧ ∀ c ∈ l, shC c) : acH (l, ()) = some (decide (ah9 l), ()) := if_pos h
theorem aCX {x : ElT} (h : shE x) : aeN ((x.1, x.2.1, x.2.2.1, x.2.2.2.1, (x.2.2.2.2.1.1, x.2.2.2.2.1.2.1, x.2.2.2.2.1.2.2.1, ()), x.2.2.2.2.2.1, x.2.2.2.2.2.2.1, x.2.2.2.2.2.2.2.1, ()), ()) = some (decide (adV x.2.2.1 x.2.2.2.1), ()) := if_pos h
theorem aAE {g : GrT} (h : shG g) : acW ((g.1, g.2.1, g.2.2.1, ()), ()) = some (decide (afN g), ()) := if_pos h
theorem aAD {p : List OpT} (i o : Int) (h : shL p) : acV (p, i, o, ()) = some ((ad7 p i o).isSome, ()) := if_pos h
theorem aoF (n : Int) : (n == 0) = decide (n = 0) := (afA (by rw [zu])).symm
theorem at6 (x : ElT) (y) (h : af4 (x, ()) = some y) : (akK x).toO = some y := by
 unfold af4 at h
 split at h
 case isFalse => cases h
 case isTrue hl =>
 have hx : shE x := hl
 obtain ⟨a1, a2, a3, a4, a5⟩ := hl
 injection h with h
 subst h
 dsimp only at a1 a2 a3 a4 a5 ⊢
 unfold akK agR agS agT
 simp only [aCY, ayG a1, aCX hx, aAE a4, aAD _ _ a5]
 have k1 : x.1 = 1 ∨ x.1 = 2 ∨ x.1 = 3 ∨ x.1 = 4 ∨ (x.1 ≠ 1 ∧ x.1 ≠ 2 ∧ x.1 ≠ 3 ∧ x.1 ≠ 4) := zc
 rcases k1 with k | k | k | k | ⟨e1, e2, e3, e4⟩
 ·simp only [k, show ((1 : Int) == 1) = true from rfl, show ((1 : Int) == 2) = false from rfl, show ((1 : Int) == 3) = false from rfl, show ((1 : Int) == 4) = false from rfl]
  repeat' (first | (refine uC _ rfl ?_) | (refine (adT ..).trans ?_; split))
  all_goals simp_all [abQ, ab0, aGZ, aGY, alF, adT, aoF]
 ·simp only [k, show ((2 : Int) == 1) = false from rfl, show ((2 : Int) == 2) = true from rfl, show ((2 : Int) == 3) = false from rfl, show ((2 : Int) == 4) = false from rfl]
  repeat' (first | (refine uC _ rfl ?_) | (refine (adT ..).trans ?_; split))
  all_goals simp_all [abQ, ab0, aGZ, aGY, alF, adT, aoF]
 ·simp only [k, show ((3 : Int) == 1) = false from rfl, show ((3 : Int) == 2) = false from rfl, show ((3 : Int) == 3) = true from rfl, show ((3 : Int) == 4) = false from rfl]
  repeat' (first | (refine uC _ rfl ?_) | (refine (adT ..).trans ?_; split))
  all_goals simp_all [abQ, ab0, aGZ, aGY, alF, adT, aoF]
 ·simp only [k, show ((4 : Int) == 1) = false from rfl, show ((4 : Int) == 2) = false from rfl, show ((4 : Int) == 3) = false from rfl, show ((4 : Int) == 4) = true from rfl]
  repeat' (first | (refine uC _ rfl ?_) | (refine (adT ..).trans ?_; split))
  all_goals simp_all [abQ, ab0, aGZ, aGY, alF, adT, aoF]
 ·simp only [beq_eq_false_iff_ne.2 e1, beq_eq_false_iff_ne.2 e2, beq_eq_false_iff_ne.2 e3, beq_eq_false_iff_ne.2 e4]
  repeat' (first | (refine uC _ rfl ?_) | (refine (adT ..).trans ?_; split))
  all_goals simp_all [abQ, ab0]
theorem aAB {x : ElT} (h : shE x) : af4 ((x.1, x.2.1, x.2.2.1, x.2.2.2.1, (x.2.2.2.2.1.1, x.2.2.2.2.1.2.1, x.2.2.2.2.1.2.2.1, ()), x.2.2.2.2.2.1, x.2.2.2.2.2.2.1, x.2.2.2.2.2.2.2.1, ()), ()) = some (decide (ab0 x), ()) := if_pos h
theorem atI {x : ElT} (h : shE x) : afK ((x.1, x.2.1, x.2.2.1, x.2.2.2.1, (x.2.2.2.2.1.1, x.2.2.2.2.1.2.1, x.2.2.2.2.1.2.2.1, ()), x.2.2.2.2.2.1, x.2.2.2.2.2.2.1, x.2.2.2.2.2.2.2.1, ()), ()) = some (if ab0 x then 0 else 130, ()) := if_pos h
theorem aGm {x : ElT} (h : ab0 x) (k : x.1 = 2) : 0 < x.2.2.1.length := by
 rcases h with ⟨a, -⟩ | ⟨-, -, -, -, b, -⟩ | ⟨a, -⟩ | ⟨a, -⟩
 ·omega
 ·omega
 ·omega
 ·omega
theorem aCA (x : ElT) (y) (h : alU (x, ()) = some y) : (au1 x).toO = some y := by
 unfold alU at h
 split at h
 case isFalse => cases h
 case isTrue hl =>
 injection h with h
 subst h
 unfold au1
 refine uC _ (atI hl) ?_
 dsimp only
 by_cases c : ab0 x
 case neg => rw [if_neg c, if_neg c]; exact uT rfl rfl
 rw [if_pos c, if_pos c]
 refine uF rfl ?_
 unfold aFY
 by_cases k1 : x.1 = 1
 ·rw [if_pos k1]; exact uT (zu.2 k1) rfl
 rw [if_neg k1]
 refine uF (beq_eq_false_iff_ne.2 k1) ?_
 by_cases k2 : x.1 = 2
 ·rw [if_pos k2]; exact uT (zu.2 k2) (uN ⟨xp _, by rw [aaB]; have := aGm c k2; omega⟩ rfl)
 rw [if_neg k2]
 refine uF (beq_eq_false_iff_ne.2 k2) ?_
 by_cases k3 : x.1 = 3
 ·rw [if_pos k3]; exact uT (zu.2 k3) rfl
 rw [if_neg k3]
 exact uF (beq_eq_false_iff_ne.2 k3) rfl
theorem aAh (x : ElT) (y) (h : ae3 (x, ()) = some y) : (aqE x).toO = some y := by
 unfold ae3 at h
 split at h
 case isFalse => cases h
 case isTrue hl =>
 injection h with h
 subst h
 unfold aqE
 refine uC _ (atI hl) ?_
 dsimp only
 by_cases c : ab0 x
 case neg => rw [if_neg c, if_neg c]; exact uT rfl rfl
 rw [if_pos c, if_pos c]
 refine uF rfl ?_
 unfold aiX
 by_cases k1 : x.1 = 1
 ·rw [if_pos k1]; exact uT (zu.2 k1) rfl
 rw [if_neg k1]
 refine uF (beq_eq_false_iff_ne.2 k1) ?_
 by_cases k2 : x.1 = 2
 ·rw [if_pos k2]; exact uT (zu.2 k2) rfl
 rw [if_neg k2]
 refine uF (beq_eq_false_iff_ne.2 k2) ?_
 by_cases k3 : x.1 = 3
 ·rw [if_pos k3]; exact uT (zu.2 k3) rfl
 rw [if_neg k3]
 exact uF (beq_eq_false_iff_ne.2 k3) rfl
theorem awB (x : ElT) (y) (h : adN (x, ()) = some y) : (al9 x).toO = some y := by
 unfold adN ae3 at h
 split at h
 case isFalse => cases h
 case isTrue hl =>
 injection h with h
 subst h
 unfold al9
 refine uC _ (aAB hl) ?_
 dsimp only
 by_cases c : ab0 x
 case neg => rw [if_neg c]; exact uT (nT c) rfl
 rw [if_pos c]
 refine uF (nF c) ?_
 unfold aiX
 by_cases k1 : x.1 = 1
 ·rw [if_pos k1]; exact uT (zu.2 k1) rfl
 rw [if_neg k1]
 refine uF (beq_eq_false_iff_ne.2 k1) ?_
 by_cases k2 : x.1 = 2
 ·rw [if_pos k2]; exact uT (zu.2 k2) rfl
 rw [if_neg k2]
 refine uF (beq_eq_false_iff_ne.2 k2) ?_
 by_cases k3 : x.1 = 3
 ·rw [if_pos k3]; exact uT (zu.2 k3) rfl
 rw [if_neg k3]
 exact uF (beq_eq_false_iff_ne.2 k3) rfl
theorem aBA {a b : CvT} (h : shC a) : alV (a, b, ()) = some (eqb a b, ()) := if_pos h
theorem aHD {a b : GrT} (h : shG a) : alS ((a.1, a.2.1, a.2.2.1, ()), (b.1, b.2.1, b.2.2.1, ()), ()) = some (eqb a b, ()) := if_pos h
theorem aJr {a b : List OpT} (h : shL a) : aq7 (a, b, ()) = some (eqb a b, ()) := if_pos h
theorem eT {p : Bool} (h : p = false) : (!p) = true := by rw [h]; rfl
theorem eF {p : Bool} (h : p = true) : (!p) = false := by rw [h]; rfl
theorem aKy {α : Type} {a b : α} (c : Bool) (h1 : c = true → a = b) (h2 : a = b → c = true) : (c, ()) = (eqb a b, ()) := by rw [aAc ⟨h1, h2⟩]
theorem aAg (a b : ElT) (y) (h : ajA (a, b, ()) = some y) : (aqD a b).toO = some y := by
 unfold ajA at h
 split at h
 case isFalse => cases h
 case isTrue hl =>
 injection h with h
 subst h
 obtain ⟨k, cs, rs, of, gr, pg, ci, co, u⟩ := a
 obtain ⟨k', cs', rs', of', gr', pg', ci', co', u'⟩ := b
 obtain ⟨⟨l1, hc⟩, ⟨l2, hr⟩, l3, l4, l5⟩ := hl
 dsimp only at l1 l2 l3 l4 l5 hc hr ⊢
 have l1' : cs.length ≤ 1000000000000 := l1
 have l2' : rs.length ≤ 1000000000000 := l2
 unfold aqD
 dsimp only
 by_cases c1 : k = k'
 case neg => exact uF (beq_eq_false_iff_ne.2 c1) (by rw [aa4 (fun h => c1 (congrArg (fun z : ElT => z.1) h))]; rfl)
 by_cases c2 : ci = ci'
 case neg => exact uT (zu.2 c1) (uF (beq_eq_false_iff_ne.2 c2) (by rw [aa4 (fun h => c2 (congrArg (fun z : ElT => z.2.2.2.2.2.2.1) h))]; rfl))
 by_cases c3 : co = co'
 case neg => exact uT (zu.2 c1) (uT (zu.2 c2) (uF (beq_eq_false_iff_ne.2 c3) (by rw [aa4 (fun h => c3 (congrArg (fun z : ElT => z.2.2.2.2.2.2.2.1) h))]; rfl)))
 refine uT (zu.2 c1) (uT (zu.2 c2) (uT (zu.2 c3) (uV (uV ?_))))
 by_cases c4 : cs.length = cs'.length
 case neg => exact uT (yI.2 (by rw [aaB, aaB]; omega)) (by rw [aa4 (fun h => c4 (congrArg (fun z : ElT => z.2.1.length) h))]; rfl)
 refine uF (bne_eq_false_iff_eq.2 (by rw [aaB, aaB]; omega)) (uO (0, ()) rfl ?_)
 refine (ab9 (n := cs.length) (bad := (false, ())) (good := (decide (rs.length = rs'.length) && (eqb rs rs' && (eqb of of' && (eqb gr gr' && eqb pg pg'))), ())) (fun j => eqb (cs.getD j (0, [], [], ())) (cs'.getD j (0, [], [], ()))) (fun j hj hp => ?_) (fun j hj hp => ?_) ?_).trans ?_
 ·simp only [ajR, aaL]
  refine uT sd (uN sd (uN sd (uC _ (aBA (hc _ (aeT _ hj))) (uF (eF hp) (uV (uB (uV (uV ?_))))))))
  rw [arG hj l1']; rfl
 ·simp only [ajR, aaL]
  exact uT sd (uN sd (uN sd (uC _ (aBA (hc _ (aeT _ hj))) (uT (eT hp) rfl))))
 ·simp only [ajR, aaL]
  refine uF sd (uV (uV ?_))
  by_cases d : rs.length = rs'.length
  case neg => exact uT (yI.2 (by rw [aaB, aaB]; omega)) (by rw [zl d]; rfl)
  rw [zn d]
  refine uF (bne_eq_false_iff_eq.2 (by rw [aaB, aaB]; omega)) (uO (0, ()) rfl ?_)
  refine (ab9 (n := rs.length) (bad := .inr (false, ())) (good := .inr (eqb of of' && (eqb gr gr' && eqb pg pg'), ())) (fun j => eqb (rs.getD j []) (rs'.getD j [])) (fun j hj hp => ?_) (fun j hj hp => ?_) ?_).trans ?_
  ·simp only [ajQ, aaL]
   refine uT sd (uN sd (uN sd (uV (uV (uC _ (aq8 (hr _ (aeT _ hj))) (uF (eF hp) (uV (uB (uV (uV ?_))))))))))
   rw [arG hj l2']; rfl
  ·simp only [ajQ, aaL]
   exact uT sd (uN sd (uN sd (uV (uV (uC _ (aq8 (hr _ (aeT _ hj))) (uT (eT hp) rfl))))))
  ·simp only [ajQ, aaL]
   refine uF sd (uC _ (aq8 l3) ?_)
   cases e1 : eqb of of' with
   | false => exact uF rfl rfl
   | true =>
    refine uT rfl (uC _ (aHD l4) ?_)
    cases e2 : eqb gr gr' with
    | false => exact uF rfl rfl
    | true => exact uT rfl (uC _ (aJr l5) rfl)
  ·rw [auX _ d]
   cases e : eqb rs rs' <;> rfl
 ·rw [auX _ c4]
  subst c1 c2 c3
  have key : (eqb cs cs' && (decide (rs.length = rs'.length) && (eqb rs rs' && (eqb of of' && (eqb gr gr' && eqb pg pg')))), ()) = (eqb (k, cs, rs, of, gr, pg, ci, co, u) (k, cs', rs', of', gr', pg', ci, co, u'), ()) := by
   refine aKy _ (fun h => ?_) (fun h => ?_)
   ·simp only [zo, eqb_iff, zB] at h
    obtain ⟨rfl, -, rfl, rfl, rfl, rfl⟩ := h
    rfl
   ·injection h with _ h
    injection h with h1 h
    injection h with h2 h
    injection h with h3 h
    injection h with h4 h
    injection h with h5 h
    subst h1 h2 h3 h4 h5
    simp [ac9 rfl]
  rw [← key]
  cases eqb cs cs' <;> rfl
set_option maxRecDepth 100000
open Go Go.Vg Go.Proofs
noncomputable section
def aFw : LTab := [(37, 30, 38912, ⟨0, (Int) × (Int) × (Int) × Unit, .dat (.s 16) xW <| .dat (.s 4) xW <| .dat (.c 23 0) xW <| .nil, [15, 14, 1], [28, 27, 24, 23, 0], 0⟩)]
def amW (l : ChT × Unit) (i : (Int) × (Int) × (Int) × Unit) : TT (ww ⊕ wy) :=
 .ite (decide (i.1 < len l.1.2.1))
 (.need (inb i.1 (len l.1.2.1)) <| .call (alU ((rE (gE l.1.2.1 i.1)), ())) Dz0 fun y =>
 .ite (y.2.1 != 0)
 (.ok (.inr ((0, false, ()))))
 (.ite (y.1 != i.2.1)
 (.ok (.inr ((0, false, ()))))
 (.call (ae3 ((rE (gE l.1.2.1 i.1)), ())) Dz0 fun y1 =>
 .call (ae3 ((rE (gE l.1.2.1 i.1)), ())) Dz0 fun y2 =>
 .ite (y2.2.1 != 0)
 (.ok (.inr ((y1.1, true, ()))))
 (.tt <| .lt (w64 (i.1 + 1) : Int) fun z1 => .xC (xJ y2.1 z1 (len l.1.2.1) l.1.2.1 <| (xR 27 true) ∧ True) <| .xC (xB (xF 65 l.1.1 l.1.2.1) <| xB (xS (LoopState.ready : LoopState) (none : Option Code) 55 (#[32, 33] : Array Tmp) (avS (anU Tryz.f19) [1, 0, 1, 1, 1, 0, 1, 0, 0]) (avS (anU Tryz.f19) [1, 0, 1, 1, 1, 0, 1, 0, 1]) <| (xK (37 : FuncId) <| (xQ (((l.1.1, l.1.2.1, ()), ()) : ChT × Unit)) ∧ True) ∧ (xK (((l.1.1, l.1.2.1, ()), ()) : ChT × Unit) <| (xI 24 0 true) ∧ ((xI 23 0 true) ∧ (xK l.1.1 <| xZ ∧ (xZ ∧ (xU (decide (len l.1.2.1 > 8)) (decide (len l.1.2.1 > 8)) false (len l.1.2.1) l.1.2.1 <| (xI 0 1 true) ∧ (xZ ∧ (xJ (decide (l.1.1 > 4)) (decide (l.1.1 > 4)) false l.1.1 <| xZ ∧ (xZ ∧ (xO (decide (l.1.1 < 1)) l.1.1 <| xZ ∧ (xZ ∧ (xO false (0 : Int) <| xZ ∧ xQ l)))))))))))) <| xB (xL 4 true) <| xB (xL 3 y1.1) <| xB (xF 65 l.1.1 l.1.2.1) True) <| .ok (.inl ((z1, y2.1, y1.1, ())))))))
 (.ok (.inr ((i.2.2.1, true, ()))))
def aqR (l : ChT × Unit) : TT wy :=
 .ite (decide (l.1.1 < 1))
 (.ok ((0, false, ())))
 (.ite (decide (l.1.1 > 4))
 (.ok ((0, false, ())))
 (.ite (decide (len l.1.2.1 > 8))
 (.ok ((0, false, ())))
 (.tt <| .tt <| .loop 0 (.tt <| .lt (l.1.1 : Int) fun z => .xC (xJ z (0 : Int) (len l.1.2.1) l.1.2.1 <| (xR 27 true) ∧ True) <| .xC (xB (xF 65 z l.1.2.1) <| xB (xS (LoopState.ready : LoopState) (none : Option Code) 55 (#[32, 33] : Array Tmp) (avS (anU Tryz.f19) [1, 0, 1, 1, 1, 0, 1, 0, 0]) (avS (anU Tryz.f19) [1, 0, 1, 1, 1, 0, 1, 0, 1]) <| (xK (37 : FuncId) <| (xQ (((z, l.1.2.1, ()), ()) : ChT × Unit)) ∧ True) ∧ (xK (((z, l.1.2.1, ()), ()) : ChT × Unit) <| (xI 24 0 true) ∧ ((xI 23 0 true) ∧ (xK z <| xZ ∧ (xZ ∧ (xU (decide (len l.1.2.1 > 8)) (decide (len l.1.2.1 > 8)) false (len l.1.2.1) l.1.2.1 <| (xI 0 1 true) ∧ (xZ ∧ (xJ (decide (z > 4)) (decide (z > 4)) false z <| xZ ∧ (xZ ∧ (xO (decide (z < 1)) z <| xZ ∧ (xZ ∧ (xO false (0 : Int) <| xZ ∧ xQ l)))))))))))) <| xB (xL 4 true) <| xB (xL 3 z) <| xB (xF 65 z l.1.2.1) True) <| .ok ((0, z, z, ()))) (amW l))))
def aFy : LTab := []
def ax4 (c : ChT) : TT xX :=
 .call (ahH (((c.1, c.2.1, ()), ()), ())) Dz1 fun y =>
 .ite (!y.2.1)
 (.ok ((0, 140, ())))
 (.ok ((y.1, 0, ())))
def aCF : LTab := []
def atA (c : ChT) : TT wo :=
 .call (ad4 ((c.1, c.2.1, ()), ())) Dz0 fun y =>
 .ok ((y.2.1, ()))
def aFx : LTab := [(21, 58, 22528, ⟨0, (Int) × Unit, .dat (.s 17) xW <| .nil, [16, 15, 1, 2], [1, 0], 0⟩)]
def amX (a : ChT) (b : ChT) (i : (Int) × Unit) : TT wg :=
 .ite (decide (i.1 < len a.2.1))
 (.need (inb i.1 (len a.2.1)) <| .need (inb i.1 (len b.2.1)) <| .call (ajA ((rE (gE a.2.1 i.1)), (rE (gE b.2.1 i.1)), ())) Dz2 fun y =>
 .ite (!y.1)
 (.ok (.inr ((false, ()))))
 (.tt <| .lt (w64 (i.1 + 1) : Int) fun z => .xC (xJ z (len a.2.1) a.2.1 b.2.1 <| (xK (22 : FuncId) <| True ∧ True) ∧ True) <| .xC (xB (xF 28 b.1 b.2.1) <| xB (xF 28 a.1 a.2.1) True) <| .ok (.inl ((z, ())))))
 (.ok (.inr ((true, ()))))
def aqS (a : ChT) (b : ChT) : TT wc :=
 .ite (a.1 == b.1)
 (.tt <| .tt <| .ite (len a.2.1 != len b.2.1)
 (.ok ((false, ())))
 (.loop 0 (.tt <| .xC (xJ (0 : Int) (len a.2.1) a.2.1 b.2.1 <| (xK (22 : FuncId) <| True ∧ True) ∧ True) <| .xC (xB (xF 28 b.1 b.2.1) <| xB (xF 28 a.1 a.2.1) True) <| .ok ((0, ()))) (amX a b)))
 (.ok ((false, ())))
def aAq : LTab := [(20, 58, 5122, ⟨0, (Int) × Bool × (List ElT) × Unit, .dat (.s 8) xW <| .appN (.s 3) 5 59 tyE <| .nil, [7, 6, 2], [], 1⟩)]
def ai5 (lists : List (List ElT)) (i : (Int) × Bool × (List ElT) × Unit) : TT (((Int) × Bool × (List ElT) × Unit) ⊕ (List ElT × Unit)) :=
 .ite (i.2.1)
 (.ite (decide (i.1 < len lists))
 (.need (inb i.1 (len lists)) <| .need (List.length (gi lists i.1 []) * 176 ≤ 140737488355328) <| .ite (List.isEmpty (gi lists i.1 []))
 (.tt <| .lt (w64 (i.1 + 1) : Int) fun z1 => .lt ([] : List ElT) fun z2 => .xC (True ∧ (xH z1 (len lists) lists <| True ∧ True)) <| .tr <| .ok (.inl ((z1, true, z2, ()))))
 (.tt <| .lt (w64 (i.1 + 1) : Int) fun z3 => .lt (gi lists i.1 [] : List ElT) fun z4 => .xC ((xT 5 0 (List.length z4) true) ∧ (xH z3 (len lists) lists <| True ∧ True)) <| .xC (xB (xR 59 z4) True) <| .ok (.inl ((z3, false, z4, ())))))
 (.ok (.inr (([], ())))))
 (.ite (decide (i.1 < len lists))
 (.need (inb i.1 (len lists)) <| .need ((List.length i.2.2.1 + List.length (gi lists i.1 [])) * 176 ≤ 140737488355328) <| .tt <| .lt (w64 (i.1 + 1) : Int) fun z5 => .lt (List.take (List.length i.2.2.1) i.2.2.1 ++ gi lists i.1 [] : List ElT) fun z6 => .need ((((5) = (5)) ∧ (((0) = (0)) ∧ ((List.length i.2.2.1 + List.length (gi lists i.1 []) = List.length z6) ∧ ((true) = (true))))) ∧ ((z5 : Int) = z5) ∧ ((len lists : Int) = len lists) ∧ ((lists) = (lists)) ∧ True ∧ True) <| .xC (xB (xR 59 z6) True) <| .ok (.inl ((z5, false, z6, ()))))
 (.ok (.inr ((List.take (List.length i.2.2.1) i.2.2.1, ())))))
def ak0 (lists : List (List ElT)) : TT (List ElT × Unit) :=
 .loop 0 (.tt <| .lt ([] : List ElT) fun z => .xC (True ∧ (xH (0 : Int) (len lists) lists <| True ∧ True)) <| .tr <| .ok ((0, true, z, ()))) (ai5 lists)
def aFz : LTab := [(7, 254, 777777777, uS)]
def ax5 (a : ChT) (b : ChT) : TT (ChT × Int × Unit) :=
 .call (ad4 ((a.1, a.2.1, ()), ())) Dz0 fun y =>
 .ite (y.2.1 != 0)
 (.ok (((0, [], ()), y.2.1, ())))
 (.call (afL ((b.1, b.2.1, ()), ())) Dz3 fun y1 =>
 .ite (y1.1 != 0)
 (.ok (((0, [], ()), y1.1, ())))
 (.ite (b.1 != y.1)
 (.ok (((0, [], ()), 5, ())))
 (.ite (decide (w64 (len a.2.1 + len b.2.1) > 8))
 (.ok (((0, [], ()), 3, ())))
 (.triv (asG (AV.d xW (asT Int a.1)) (AV.d xW (asT Int a.1))) rfl <| .triv (asG (AV.d (Ty.sl tyE) (asT (List ElT) a.2.1)) (AV.d (Ty.sl tyE) (asT (List ElT) a.2.1))) rfl <| .triv (asG (AV.d (Ty.sl tyE) (asT (List ElT) b.2.1)) (AV.d (Ty.sl tyE) (asT (List ElT) b.2.1))) rfl <| .triv (asG (AV.d xW (asT Int a.1)) (AV.d xW (asT Int a.1))) rfl <| .call (aeR (List.take 2 [a.2.1, b.2.1], ())) Dz4 fun y2 =>
 .triv (asG (AV.d xW (asT Int a.1)) (AV.d xW (asT Int a.1))) rfl <| .ok (((a.1, y2.1, ()), 0, ()))))))
def aHv : LTab := []
def aBv (c : ChT) (from0 : Int) (to0 : Int) : TT (ChT × Int × Unit) :=
 .call (afL ((c.1, c.2.1, ()), ())) Dz3 fun y =>
 .ite (y.1 != 0)
 (.ok (((0, [], ()), y.1, ())))
 (.ite (decide (from0 < 0))
 (.ok (((0, [], ()), 2, ())))
 (.ite (decide (to0 < from0))
 (.ok (((0, [], ()), 2, ())))
 (.ite (decide (to0 > len c.2.1))
 (.ok (((0, [], ()), 2, ())))
 (.need (inc from0 (len c.2.1)) <| .need (inc from0 (↑(Int.toNat from0) : Int)) <| .call (ahH (((c.1, List.take (Int.toNat from0) c.2.1, ()), ()), ())) Dz1 fun y1 =>
 .need (inc to0 (len c.2.1)) <| .need (inc to0 (↑(Int.toNat to0) : Int)) <| .need (inc from0 (↑(Int.toNat to0) : Int)) <| .call (aeR ([win c.2.1 from0 to0], ())) Dz4 fun y2 =>
 .ok (((y1.1, y2.1, ()), 0, ()))))))
end
theorem aLN {x : ElT} (h : shE x) : alU (rE x, ()) = some (if ab0 x then (aFY x, 0, ()) else (0, 130, ())) := if_pos h
theorem aIC {x : ElT} (h : shE x) : ae3 (rE x, ()) = some (if ab0 x then (aiX x, 0, ()) else (0, 130, ())) := if_pos h
theorem aEV (l : List ElT) (k : Nat) : gE l (k : Int) = l.getD k e0 := aaL l k e0
theorem abH {α : Type} {l : List α} {k : Nat} (h : k < l.length) (d : α) : l.getD k d ∈ l := by
 rw [yf, zG h]; exact yv h
theorem aKC {α : Type} {l : List α} {k : Nat} (h : k < l.length) (d : α) : l.drop k = l.getD k d :: l.drop (k + 1) := by
 rw [yj h, yf, zG h]; rfl
def aDe (l : List ElT) (i : Int × Int × Int × Unit) : Int × Bool × Unit := match adQ i.2.1 (l.drop i.1.toNat) with | some n => (n, true, ()) | none => (0, false, ())
theorem aAp (l : ChT × Unit) (y) (h : ahH (l, ()) = some y) : (aqR l).toO = some y := by
 unfold ahH at h
 split at h
 case isFalse => cases h
 case isTrue hl =>
 obtain ⟨⟨n, xs, u⟩, u'⟩ := l
 obtain ⟨hs, he⟩ := hl
 injection h with h
 subst h
 dsimp only at hs he ⊢
 unfold aqR
 by_cases c1 : n < 1
 ·refine uT (zn c1) ?_
  rw [show adZ (n, xs, u) = none from if_neg (fun h => by have := h.1.1; dsimp only at this; omega)]; rfl
 refine uF (zl c1) ?_
 by_cases c2 : n > 4
 ·refine uT (zn c2) ?_
  rw [show adZ (n, xs, u) = none from if_neg (fun h => by have := h.1.2; dsimp only at this; omega)]; rfl
 refine uF (zl c2) ?_
 by_cases c3 : xs.length > 8
 ·refine uT (zn (by rw [aaB]; dsimp only; omega)) ?_
  rw [show adZ (n, xs, u) = none from if_neg (fun h => by have := h.2; dsimp only at this; omega)]; rfl
 refine uF (zl (by rw [aaB]; dsimp only; omega)) (uV (uV (uO (0, n, n, ()) rfl ?_)))
 rw [show adZ (n, xs, u) = adQ n xs from if_pos ⟨⟨by omega, by omega⟩, by dsimp only; omega⟩]
 refine acJ (fun i : Int × Int × Int × Unit => ∃ k : Nat, k ≤ xs.length ∧ i.1 = (k : Int) ∧ i.2.2.1 = i.2.1) (fun i => xs.length - i.1.toNat) (aDe xs) (fun i hi => ?_) _ ⟨0, zK _, rfl, rfl⟩
 obtain ⟨k, hk, e1, e2⟩ := hi
 obtain ⟨i, a, b, u⟩ := i
 dsimp only at e1 e2
 subst e1; subst e2
 by_cases c : k < xs.length
 ·have hx := he _ (abH c e0)
  have hd := aKC c e0
  have eI := aLN hx
  have eO := aIC hx
  simp only [amW, aEV, aDe, zA, hd, adQ]
  by_cases r : ab0 (xs.getD k e0)
  ·rw [if_pos r] at eI eO
   by_cases q : aFY (xs.getD k e0) = b
   ·refine Or.inl ⟨((k + 1 : Nat), aiX (xs.getD k e0), aiX (xs.getD k e0), ()), ?_, ⟨k + 1, c, rfl, rfl⟩, by dsimp only; omega, ?_⟩
    ·refine uT (zn (by rw [aaB]; omega)) (uN sd (uC _ eI (uF rfl (uF (by dsimp only; rw [q]; simp) (uC _ eO (uC _ eO (uF rfl ?_)))))))
     show some _ = some _
     rw [show w64 ((k : Int) + 1) = ((k + 1 : Nat) : Int) from (aaF ⟨by omega, by omega⟩).trans zc]
    ·rw [if_pos ⟨r, q⟩]; simp only [zA]
   ·refine Or.inr ?_
    rw [if_neg (fun h => q h.2)]
    exact uT (zn (by rw [aaB]; omega)) (uN sd (uC _ eI (uF rfl (uT (by dsimp only; simpa using q) rfl))))
  ·rw [if_neg r] at eI eO
   refine Or.inr ?_
   rw [if_neg (fun h => r h.1)]
   exact uT (zn (by rw [aaB]; omega)) (uN sd (uC _ eI (uT rfl rfl)))
 ·refine Or.inr ?_
  simp only [amW, aDe, zA, yK (show xs.length ≤ k by omega), adQ]
  exact uF (zl (by rw [aaB]; omega)) rfl
theorem ayI {c : ChT} (h : ay0 c) : ahH (((c.1, c.2.1, ()), ()), ()) = some (match adZ c with | some n => (n, true, ()) | none => (0, false, ())) := if_pos h
theorem aAs (c : ChT) (y) (h : ad4 (c, ()) = some y) : (ax4 c).toO = some y := by
 unfold ad4 at h
 split at h
 case isFalse => cases h
 case isTrue hl =>
 injection h with h
 subst h
 refine uC _ (ayI hl) ?_
 cases adZ c <;> rfl
theorem arC {c : ChT} (h : ay0 c) : ad4 ((c.1, c.2.1, ()), ()) = some (match adZ c with | some n => (n, 0, ()) | none => (0, 140, ())) := if_pos h
theorem ax6 (c : ChT) (y) (h : afL (c, ()) = some y) : (atA c).toO = some y := by
 unfold afL at h
 split at h
 case isFalse => cases h
 case isTrue hl =>
 injection h with h
 subst h
 refine uC _ (arC hl) ?_
 cases adZ c <;> rfl
theorem atJ {c : ChT} (h : ay0 c) : afL ((c.1, c.2.1, ()), ()) = some (match adZ c with | some _ => (0, ()) | none => (140, ())) := if_pos h
theorem aIB {x y : ElT} (h : shE x) : ajA (rE x, rE y, ()) = some (eqb x y, ()) := if_pos h
theorem aAr (a b : ChT) (y) (h : acY (a, b, ()) = some y) : (aqS a b).toO = some y := by
 unfold acY at h
 split at h
 case isFalse => cases h
 case isTrue hl =>
 obtain ⟨n, xs, u⟩ := a
 obtain ⟨m, ys, u'⟩ := b
 obtain ⟨hs, he⟩ := hl
 injection h with h
 subst h
 dsimp only at hs he ⊢
 have hs' : xs.length ≤ 1000000000000 := hs
 unfold aqS
 by_cases c1 : n = m
 ·subst c1
  refine uT (beq_self_eq_true n) (uV (uV ?_))
  by_cases c2 : xs.length = ys.length
  ·refine uF (by rw [aaB, aaB, c2]; simp) (uO (0, ()) rfl ?_)
   refine (ab9 (n := xs.length) (bad := (false, ())) (good := (true, ())) (fun k => eqb (xs.getD k e0) (ys.getD k e0)) (fun k hk hp => ?_) (fun k hk hp => ?_) ?_).trans ?_
   ·simp only [amX, aEV]
    refine uT sd (uN sd (uN sd (uC _ (aIB (he _ (abH hk e0))) (uF (by dsimp only; rw [hp]; rfl) ?_))))
    show some _ = some _
    rw [arG hk hs']
   ·simp only [amX, aEV]
    exact uT sd (uN sd (uN sd (uC _ (aIB (he _ (abH hk e0))) (uT (by dsimp only; rw [hp]; rfl) rfl))))
   ·exact uF sd rfl
   ·rw [auX e0 c2]
    rw [show eqb (n, xs, u) (n, ys, u') = eqb xs ys from aAc ⟨fun h => by rw [eqb_iff.1 h], fun h => eqb_iff.2 (Prod.mk.inj (Prod.mk.inj h).2).1⟩]
    cases eqb xs ys <;> rfl
  ·refine uT (by rw [aaB, aaB]; simp; omega) ?_
   rw [aa4 (fun h => c2 (by rw [(Prod.mk.inj (Prod.mk.inj h).2).1]))]; rfl
 ·refine uF (beq_eq_false_iff_ne.2 c1) ?_
  rw [aa4 (fun h => c1 (Prod.mk.inj h).1)]; rfl
theorem aFO {a b : ChT} (h : ay0 a) : acY ((a.1, a.2.1, ()), (b.1, b.2.1, ()), ()) = some (eqb a b, ()) := if_pos h
theorem arB {l : List (List ElT)} (h1 : l.length ≤ 4) (h2 : ∀ x ∈ l, x.length ≤ 100) : aeR (l, ()) = some (l.flatten, ()) := if_pos ⟨h1, h2⟩
theorem apD {c : ChT} {n : Int} (h : adZ c = some n) : c.2.1.length ≤ 8 ∧ inR c.1 1 4 ∧ adQ c.1 c.2.1 = some n := by
 unfold adZ at h
 split at h
 ·rename_i e; exact ⟨e.2, e.1, h⟩
 ·cases h
theorem aAt (a b : ChT) (y) (h : abA (a, b, ()) = some y) : (ax5 a b).toO = some y := by
 unfold abA at h
 split at h
 case isFalse => cases h
 case isTrue hl =>
 obtain ⟨ha, hb⟩ := hl
 dsimp only at ha hb
 injection h with h
 subst h
 refine uC _ (arC ha) ?_
 dsimp only
 cases ea : adZ a with
 | none => exact uT rfl rfl
 | some n =>
  refine uF rfl (uC _ (atJ hb) ?_)
  cases eb : adZ b with
  | none => exact uT rfl rfl
  | some m =>
   refine uF rfl ?_
   dsimp only
   by_cases c : b.1 = n
   ·rw [if_pos c]
    refine uF (by simpa using c) ?_
    have l1 := (apD ea).1
    have l2 := (apD eb).1
    have ew : w64 (len a.2.1 + len b.2.1) = ((a.2.1.length + b.2.1.length : Nat) : Int) := (aaF ⟨by rw [aaB, aaB]; omega, by rw [aaB, aaB]; omega⟩).trans (by rw [aaB, aaB]; omega)
    rw [ew]
    by_cases d : a.2.1.length + b.2.1.length > 8
    ·rw [if_pos d]; exact uT (zn zc) rfl
    ·rw [if_neg d]
     refine uF (zl zc) (uV (uV (uV (uV (uC _ (arB (l := [a.2.1, b.2.1]) (show 2 ≤ 4 by omega) (fun x hx => ?_)) (uV ?_))))))
     ·rcases zq.1 hx with e | hx
      ·rw [e]; omega
      ·rw [zJ.1 hx]; omega
     ·show some _ = some _
      simp
   ·rw [if_neg c]
    exact uT (by simpa using c) rfl
theorem aFP {a b : ChT} (ha : ay0 a) (hb : ay0 b) {n m : Int} (ea : adZ a = some n) (eb : adZ b = some m) (e : b.1 = n) (hlen : a.2.1.length + b.2.1.length ≤ 8) :
  abA ((a.1, a.2.1, ()), (b.1, b.2.1, ()), ()) = some ((a.1, a.2.1 ++ b.2.1, ()), 0, ()) := by
 refine (if_pos ⟨ha, hb⟩).trans ?_
 show some (match adZ a with | some n => _ | none => _) = _
 rw [ea]
 show some (match adZ b with | some _ => _ | none => _) = _
 rw [eb]
 dsimp only
 rw [if_pos e, if_neg zc]
theorem avC (l : List (List ElT)) (y) (h : aeR (l, ()) = some y) : (ak0 l).toO = some y := by
 unfold aeR at h
 split at h
 case isFalse => cases h
 case isTrue hl =>
 obtain ⟨h4, h100⟩ := hl
 injection h with h
 subst h
 dsimp only at h4 h100 ⊢
 unfold ak0
 refine uO (0, true, [], ()) rfl ?_
 refine acJ (fun i : Int × Bool × List ElT × Unit => ∃ k : Nat, k ≤ l.length ∧ i.1 = (k : Int) ∧ i.2.2.1.length ≤ 100 * k ∧ (i.2.1 = true → i.2.2.1 = [])) (fun i => l.length - i.1.toNat) (fun i => (i.2.2.1 ++ (l.drop i.1.toNat).flatten, ())) (fun i hi => ?_) _ ⟨0, zK _, rfl, by simp, fun _ => rfl⟩
 obtain ⟨i, f, m, u⟩ := i
 obtain ⟨k, hk, e, hm, hf⟩ := hi
 dsimp only at e hm hf
 subst e
 have etk : List.take (List.length m) m = m := zF
 by_cases c : k < l.length
 ·have hx := h100 _ (abH c [])
  have hd := aKC c ([] : List ElT)
  have eg : gi l (k : Int) [] = l.getD k [] := aaL _ _ _
  have ewk : w64 ((k : Int) + 1) = ((k + 1 : Nat) : Int) := (aaF ⟨by omega, by omega⟩).trans zc
  simp only [ai5, zA, hd, List.flatten_cons, eg]
  cases f with
  | true =>
   have em := hf rfl
   subst em
   cases hp : (l.getD k []).isEmpty with
   | true =>
    have e0 : l.getD k [] = [] := List.isEmpty_iff.1 hp
    refine Or.inl ⟨((k + 1 : Nat), true, [], ()), ?_, ⟨k + 1, c, rfl, by simp, fun _ => rfl⟩, by dsimp only; omega, ?_⟩
    ·refine uT rfl (uT (zn (by rw [aaB]; omega)) (uN sd (uN zc (uT rfl (uV (uB (uB (uV (uV ?_)))))))))
     show some _ = some _
     rw [ewk]
    ·simp only [zA, e0, yC]
   | false =>
    refine Or.inl ⟨((k + 1 : Nat), false, l.getD k [], ()), ?_, ⟨k + 1, c, rfl, by dsimp only; omega, fun h => by cases h⟩, by dsimp only; omega, ?_⟩
    ·refine uT rfl (uT (zn (by rw [aaB]; omega)) (uN sd (uN zc (uF rfl (uV (uB (uB (uV (uV ?_)))))))))
     show some _ = some _
     rw [ewk]
    ·simp only [zA, yC]
  | false =>
   refine Or.inl ⟨((k + 1 : Nat), false, m ++ l.getD k [], ()), ?_, ⟨k + 1, c, rfl, by dsimp only; rw [zz]; omega, fun h => by cases h⟩, by dsimp only; omega, ?_⟩
   ·refine uF rfl (uT (zn (by rw [aaB]; omega)) (uN sd (uN zc (uV (uB (uB (uN ze (uV ?_))))))))
    show some _ = some _
    rw [ewk, etk]
   ·simp only [zA, yS]
 ·refine Or.inr ?_
  have hd : l.drop k = [] := yK zc
  simp only [ai5, zA, hd, List.flatten_nil, yD]
  cases f with
  | true =>
   have em := hf rfl
   subst em
   exact uT rfl (uF (zl (by rw [aaB]; omega)) rfl)
  | false =>
   refine uF rfl (uF (zl (by rw [aaB]; omega)) ?_)
   show some _ = some _
   rw [etk]
theorem aCE (c : ChT) (a b : Int) (y) (h : aeV (c, a, b, ()) = some y) : (aBv c a b).toO = some y := by
 unfold aeV at h
 split at h
 case isFalse => cases h
 case isTrue hs =>
 injection h with h
 subst h
 dsimp only at hs ⊢
 refine uC _ (atJ hs) ?_
 cases ec : adZ c with
 | none => exact uT rfl rfl
 | some m =>
  obtain ⟨l8, hr, hm⟩ := apD ec
  refine uF rfl ?_
  by_cases c1 : a < 0
  ·rw [if_neg (fun h => by omega)]; exact uT (zn c1) rfl
  refine uF (zl c1) ?_
  by_cases c2 : b < a
  ·rw [if_neg (fun h => by omega)]; exact uT (zn c2) rfl
  refine uF (zl c2) ?_
  by_cases c3 : b > len c.2.1
  ·rw [if_neg (fun h => by rw [aaB] at c3; omega)]; exact uT (zn c3) rfl
  refine uF (zl c3) ?_
  rw [aaB] at c3
  rw [if_pos ⟨by omega, by omega, by omega⟩]
  obtain ⟨q, hq⟩ : ∃ q, adQ c.1 (c.2.1.take a.toNat) = some q := by
   have h := hm
   rw [← yB a.toNat c.2.1, aiW] at h
   cases hx : adQ c.1 (c.2.1.take a.toNat) with
   | none => rw [hx] at h; cases h
   | some q => exact ⟨q, rfl⟩
  have hsh : ay0 (c.1, c.2.1.take a.toNat, ()) := ⟨zE (List.length_take_le _ _) (show a.toNat ≤ 1000000000000 by omega), fun x hx => hs.2 x (yh hx)⟩
  have ho : adZ (c.1, c.2.1.take a.toNat, ()) = some q := by
   unfold adZ
   rw [if_pos ⟨hr, by dsimp only; rw [zM]; omega⟩]; exact hq
  have h1 := ayI hsh
  rw [ho] at h1
  rw [hq]
  refine uN sd (uN sd (uC _ h1 (uN sd (uN sd (uN sd (uC _ (arB (l := [win c.2.1 a b]) ze (fun x hx => ?_)) ?_))))))
  ·rw [zJ.1 hx]
   unfold win
   rw [zM, zR]; omega
  ·show some _ = some _
   simp
set_option maxRecDepth 100000
open Go Go.Vg Go.Proofs
noncomputable section
def aDz : LTab := []
def awE (d : Int × Int × List xX × Unit) : TT wo :=
 .triv (asT Int 3 ≠ 0) zd <| .ok ((w64 (1 + w64 (Int.tmod d.1 3)), ()))
def aBZ : LTab := []
def asK (d : Int × Int × List xX × Unit) : TT wo :=
 .triv (asT Int 3 ≠ 0) zd <| .ok ((w64 (1 + w64 (Int.tmod d.2.1 3)), ()))
def auB : LTab := [(49, 15, 4098, ⟨0, Bool × (List xX) × (Int) × Unit, .appN (.s 3) 4 112 wi <| .dat (.s 4) xW <| .nil, [1], [0], 1⟩), (49, 122, 5122, ⟨1, (Int) × (Int) × Bool × (List xX) × Unit, .dat (.s 5) xW <| .dat (.s 4) xW <| .appN (.s 3) 5 112 wi <| .nil, [1], [0], 1⟩), (49, 3913, 26626, ⟨2, (Int) × Unit, .dat (.c 25 0) xW <| .nil, [6, 3, 4, 5, 1], [25, 0], 0⟩), (49, 15655, 34817, ⟨3, (Int) × Unit, .dat (.c 25 1) xW <| .nil, [6, 3, 4, 5, 1], [25, 0], 0⟩), (49, 3913, 26625, ⟨4, (Int) × Unit, .dat (.c 25 0) xW <| .nil, [6, 3, 4, 5, 1], [25, 0], 0⟩), (49, 3913, 26624, ⟨5, (Int) × Unit, .dat (.c 25 0) xW <| .nil, [6, 3, 4, 5, 1], [25, 5, 0], 0⟩), (49, 15655, 34816, ⟨6, (Int) × Unit, .dat (.c 25 1) xW <| .nil, [6, 3, 4, 5, 1], [25, 5, 0], 0⟩), (49, 124, 5121, ⟨7, (Int) × Bool × (List xX) × Unit, .dat (.s 4) xW <| .appN (.s 3) 5 112 wi <| .nil, [1], [0], 1⟩), (49, 252, 10241, ⟨8, Bool × (List xX) × (Int) × Unit, .appN (.s 3) 10 112 wi <| .dat (.s 4) xW <| .nil, [1], [0], 1⟩), (49, 252, 10240, ⟨9, (List xX) × (Int) × Unit, .app (.s 3) 10 112 wi <| .dat (.s 4) xW <| .nil, [1], [0], 1⟩), (49, 124, 5120, ⟨10, (Int) × (List xX) × Unit, .dat (.s 4) xW <| .app (.s 3) 5 112 wi <| .nil, [1], [0], 1⟩)]
def arV (d : Int × Int × List xX × Unit) (i : Int × Int × Bool × List xX × Unit) (j : Int × Unit) (j1 : (Int) × Unit) : TT wa :=
 .need (1 * 16 ≤ 140737488355328) <| .call (abX (j.1, ())) Dz3 fun y3 =>
 .tt <| .lt (w64 (i.1 + 1) : Int) fun z5 => .lt (w64 (w64 (i.2.1 - y3.1) + 1) : Int) fun z6 => .lt ([(j.1, j1.1, ())] : List xX) fun z7 => .xC ((xT 5 0 1 true) ∧ (xO z6 z5 <| xZ ∧ True)) <| .xC (xB (xR 112 z7) <| xB (xD 83 d.1 d.2.1 d.2.2.1) True) <| .ok (.inl ((z5, z6, false, z7, ())))
def arW (d : Int × Int × List xX × Unit) (i : Int × Int × Bool × List xX × Unit) (j : (Int) × Unit) : TT wa :=
 .need (inb i.1 (len d.2.2.1)) <| .join 3 (ι := (Int) × Unit) (.ite (j.1 == 1)
 (.call (ae2 ((d.1, d.2.1, d.2.2.1, ()), ())) Dz3 fun y2 =>
 .need (y2.1 ≠ 0) <| .tt <| .lt (Int.tmod (w64 (IntKind.wrap IntKind.u16 (w64 (gi d.2.2.1 i.1 (0, 0, ())).2.1))) y2.1 : Int) fun z2 => .xC (wt ∧ (True ∧ (xO i.2.1 i.1 <| xZ ∧ True))) <| .xC (xB (xF 112 j.1 z2) <| xB (xD 83 d.1 d.2.1 d.2.2.1) True) <| .ok (.inl ((z2, ()))))
 (.ite (j.1 == 2)
 (.tt <| .lt (w64 (100 * w64 (gi d.2.2.1 i.1 (0, 0, ())).2.1) : Int) fun z3 => .xC (wt ∧ (True ∧ (xO i.2.1 i.1 <| xZ ∧ True))) <| .xC (xB (xF 112 j.1 z3) <| xB (xD 83 d.1 d.2.1 d.2.2.1) True) <| .ok (.inl ((z3, ()))))
 (.ite (j.1 == 11)
 (.need (i.2.1 ≠ 0) <| .tt <| .lt (Int.tmod (w64 (IntKind.wrap IntKind.u16 (w64 (gi d.2.2.1 i.1 (0, 0, ())).2.1))) i.2.1 : Int) fun z4 => .xC (wt ∧ (True ∧ (xO i.2.1 i.1 <| xZ ∧ True))) <| .xC (xB (xF 112 j.1 z4) <| xB (xD 83 d.1 d.2.1 d.2.2.1) True) <| .ok (.inl ((z4, ()))))
 (.tt <| .xC (wt ∧ (True ∧ (xO i.2.1 i.1 <| xZ ∧ True))) <| .xC (xB (xF 112 j.1 (0 : Int)) <| xB (xD 83 d.1 d.2.1 d.2.2.1) True) <| .ok (.inl ((0, ()))))))) (arV d i j)
def arT (d : Int × Int × List xX × Unit) (i : Int × Int × Bool × List xX × Unit) (j2 : Int × Unit) (j3 : (Int) × Unit) : TT wa :=
 .need ((List.length i.2.2.2.1 + 1) * 16 ≤ 140737488355328) <| .call (abX (j2.1, ())) Dz3 fun y7 =>
 .tt <| .lt (w64 (i.1 + 1) : Int) fun z15 => .lt (w64 (w64 (i.2.1 - y7.1) + 1) : Int) fun z16 => .lt (List.take (List.length i.2.2.2.1) i.2.2.2.1 ++ [(j2.1, j3.1, ())] : List xX) fun z17 => .need ((((5) = (5)) ∧ (((0) = (0)) ∧ ((List.length i.2.2.2.1 + 1 = List.length z17) ∧ ((true) = (true))))) ∧ ((z16 : Int) = z16) ∧ ((z15 : Int) = z15) ∧ (((0) = (0)) ∧ (((0) = (0)) ∧ ((true) = (true)))) ∧ True) <| .xC (xB (xR 112 z17) <| xB (xD 83 d.1 d.2.1 d.2.2.1) True) <| .ok (.inl ((z15, z16, false, z17, ())))
def arU (d : Int × Int × List xX × Unit) (i : Int × Int × Bool × List xX × Unit) (j2 : (Int) × Unit) : TT wa :=
 .need (inb i.1 (len d.2.2.1)) <| .join 6 (ι := (Int) × Unit) (.ite (j2.1 == 1)
 (.call (ae2 ((d.1, d.2.1, d.2.2.1, ()), ())) Dz3 fun y6 =>
 .need (y6.1 ≠ 0) <| .tt <| .lt (Int.tmod (w64 (IntKind.wrap IntKind.u16 (w64 (gi d.2.2.1 i.1 (0, 0, ())).2.1))) y6.1 : Int) fun z12 => .xC (wt ∧ ((xT 5 0 (List.length i.2.2.2.1) true) ∧ (xO i.2.1 i.1 <| xZ ∧ True))) <| .xC (xB (xF 112 j2.1 z12) <| xB (xR 112 i.2.2.2.1) <| xB (xD 83 d.1 d.2.1 d.2.2.1) True) <| .ok (.inl ((z12, ()))))
 (.ite (j2.1 == 2)
 (.tt <| .lt (w64 (100 * w64 (gi d.2.2.1 i.1 (0, 0, ())).2.1) : Int) fun z13 => .xC (wt ∧ ((xT 5 0 (List.length i.2.2.2.1) true) ∧ (xO i.2.1 i.1 <| xZ ∧ True))) <| .xC (xB (xF 112 j2.1 z13) <| xB (xR 112 i.2.2.2.1) <| xB (xD 83 d.1 d.2.1 d.2.2.1) True) <| .ok (.inl ((z13, ()))))
 (.ite (j2.1 == 11)
 (.need (i.2.1 ≠ 0) <| .tt <| .lt (Int.tmod (w64 (IntKind.wrap IntKind.u16 (w64 (gi d.2.2.1 i.1 (0, 0, ())).2.1))) i.2.1 : Int) fun z14 => .xC (wt ∧ ((xT 5 0 (List.length i.2.2.2.1) true) ∧ (xO i.2.1 i.1 <| xZ ∧ True))) <| .xC (xB (xF 112 j2.1 z14) <| xB (xR 112 i.2.2.2.1) <| xB (xD 83 d.1 d.2.1 d.2.2.1) True) <| .ok (.inl ((z14, ()))))
 (.tt <| .xC (wt ∧ ((xT 5 0 (List.length i.2.2.2.1) true) ∧ (xO i.2.1 i.1 <| xZ ∧ True))) <| .xC (xB (xF 112 j2.1 (0 : Int)) <| xB (xR 112 i.2.2.2.1) <| xB (xD 83 d.1 d.2.1 d.2.2.1) True) <| .ok (.inl ((0, ()))))))) (arT d i j2)
def aeE (i : (Int) × (Int) × Bool × (List xX) × Unit) (d : Int × Int × List xX × Unit) : TT (((Int) × Unit) ⊕ wa) :=
 .ite (decide (i.2.1 > 8))
 (.tt <| .xC (wt ∧ ((xT 5 0 (List.length i.2.2.2.1) true) ∧ (xO i.2.1 i.1 <| xZ ∧ True))) <| .xC (xB (xF 112 (3 : Int) (0 : Int)) <| xB (xR 112 i.2.2.2.1) <| xB (xD 83 d.1 d.2.1 d.2.2.1) True) <| .ok (.inl ((3, ()))))
 (.tt <| .xC (wt ∧ ((xT 5 0 (List.length i.2.2.2.1) true) ∧ (xO i.2.1 i.1 <| xZ ∧ True))) <| .xC (xB (xF 112 (1 : Int) (0 : Int)) <| xB (xR 112 i.2.2.2.1) <| xB (xD 83 d.1 d.2.1 d.2.2.1) True) <| .ok (.inl ((1, ()))))
def aeD (i : (Int) × (Int) × Bool × (List xX) × Unit) (d : Int × Int × List xX × Unit) : TT (((Int) × Unit) ⊕ wa) :=
 .ite (decide (i.2.1 > 8))
 (.tt <| .xC (wt ∧ (True ∧ (xO i.2.1 i.1 <| xZ ∧ True))) <| .xC (xB (xF 112 (3 : Int) (0 : Int)) <| xB (xD 83 d.1 d.2.1 d.2.2.1) True) <| .ok (.inl ((3, ()))))
 (.tt <| .xC (wt ∧ (True ∧ (xO i.2.1 i.1 <| xZ ∧ True))) <| .xC (xB (xF 112 (1 : Int) (0 : Int)) <| xB (xD 83 d.1 d.2.1 d.2.2.1) True) <| .ok (.inl ((1, ()))))
def ag5 (d : Int × Int × List xX × Unit) (i : (Int) × (Int) × Bool × (List xX) × Unit) : TT (((Int) × Unit) ⊕ wa) :=
 .tt <| .lt (w64 (1 + w64 (Int.tmod (gi d.2.2.1 i.1 (0, 0, ())).1 12)) : Int) fun z10 => .xC (wt ∧ ((xT 5 0 (List.length i.2.2.2.1) true) ∧ (xO i.2.1 i.1 <| xZ ∧ True))) <| .xC (xB (xF 112 z10 (0 : Int)) <| xB (xR 112 i.2.2.2.1) <| xB (xD 83 d.1 d.2.1 d.2.2.1) True) <| .ok (.inl ((z10, ())))
def ag4 (d : Int × Int × List xX × Unit) (i : (Int) × (Int) × Bool × (List xX) × Unit) : TT (((Int) × Unit) ⊕ wa) :=
 .tt <| .lt (w64 (1 + w64 (Int.tmod (gi d.2.2.1 i.1 (0, 0, ())).1 12)) : Int) fun z => .xC (wt ∧ (True ∧ (xO i.2.1 i.1 <| xZ ∧ True))) <| .xC (xB (xF 112 z (0 : Int)) <| xB (xD 83 d.1 d.2.1 d.2.2.1) True) <| .ok (.inl ((z, ())))
def ag3 (i : (Int) × (Int) × Bool × (List xX) × Unit) (d : Int × Int × List xX × Unit) : TT wa :=
 .tt <| .lt (i.2.2.2.1 : List xX) fun z18 => .lt (i.2.1 : Int) fun z19 => .xC (xK z19 <| (xT 4 0 (List.length z18) true) ∧ xZ ∧ True) <| .xC (xB (xR 112 z18) <| xB (xD 83 d.1 d.2.1 d.2.2.1) True) <| .ok (.inr (.inl ((false, z18, z19, ()))))
def arX (d : Int × Int × List xX × Unit) (i : (Int) × (Int) × Bool × (List xX) × Unit) : TT wa :=
 .ite (i.2.2.1)
 (.ite (decide (i.1 < len d.2.2.1))
  (.ite (decide (i.1 < 12))
   (.need (inb i.1 (len d.2.2.1)) <| .triv (asT Int 12 ≠ 0) zd <| .join 4 (ι := (Int) × Unit) (.call (abX (w64 (1 + w64 (Int.tmod (gi d.2.2.1 i.1 (0, 0, ())).1 12)), ())) Dz3 fun y =>
     .ite (decide (y.1 > i.2.1))
     (aeD i d)
     (.ite (i.2.1 == 0)
      (aeD i d)
      (.ite (decide (i.2.1 > 8))
       (.call (abX (w64 (1 + w64 (Int.tmod (gi d.2.2.1 i.1 (0, 0, ())).1 12)), ())) Dz3 fun y1 =>
        .ite (y1.1 == 0)
        (aeD i d)
        (ag4 d i))
       (ag4 d i)))) (arW d i))
   (.tt <| .lt (i.2.1 : Int) fun z8 => .xC (xK z8 <| True ∧ xZ ∧ True) <| .xC (xB (xD 83 d.1 d.2.1 d.2.2.1) True) <| .ok (.inr (.inl ((true, [], z8, ()))))))
  (.tt <| .lt (i.2.1 : Int) fun z9 => .xC (xK z9 <| True ∧ xZ ∧ True) <| .xC (xB (xD 83 d.1 d.2.1 d.2.2.1) True) <| .ok (.inr (.inl ((true, [], z9, ()))))))
 (.ite (decide (i.1 < len d.2.2.1))
  (.ite (decide (i.1 < 12))
   (.need (inb i.1 (len d.2.2.1)) <| .triv (asT Int 12 ≠ 0) zd <| .join 5 (ι := (Int) × Unit) (.call (abX (w64 (1 + w64 (Int.tmod (gi d.2.2.1 i.1 (0, 0, ())).1 12)), ())) Dz3 fun y4 =>
     .ite (decide (y4.1 > i.2.1))
     (aeE i d)
     (.ite (i.2.1 == 0)
      (aeE i d)
      (.ite (decide (i.2.1 > 8))
       (.call (abX (w64 (1 + w64 (Int.tmod (gi d.2.2.1 i.1 (0, 0, ())).1 12)), ())) Dz3 fun y5 =>
        .ite (y5.1 == 0)
        (aeE i d)
        (ag5 d i))
       (ag5 d i)))) (arU d i))
   (ag3 i d))
  (ag3 i d))
def aj6 (d : Int × Int × List xX × Unit) (j4 : Bool × List xX × Int × Unit) (i1 : Int × Bool × List xX × Unit) (y8 : Int × Unit) (i2 : Bool × (List xX) × (Int) × Unit) : TT ((Bool × (List xX) × (Int) × Unit) ⊕ wx) :=
 .ite (i2.1)
 (.call (aaS ((d.1, d.2.1, d.2.2.1, ()), ())) Dz3 fun y10 =>
 .ite (decide (i2.2.2.1 > y10.1))
 (.triv (1 * 16 ≤ 140737488355328) zd <| .tt <| .lt ([(3, 0, ())] : List xX) fun z26 => .lt (w64 (i2.2.2.1 - 1) : Int) fun z27 => .xC (xK z27 <| (xT 10 0 1 true) ∧ xZ ∧ True) <| .xC (xB (xR 112 z26) <| xB (xD 83 d.1 d.2.1 d.2.2.1) True) <| .ok (.inl ((false, z26, z27, ()))))
 (.ok (.inr (.inr (([], ()))))))
 (.call (aaS ((d.1, d.2.1, d.2.2.1, ()), ())) Dz3 fun y11 =>
 .ite (decide (i2.2.2.1 > y11.1))
 (.need ((List.length i2.2.1 + 1) * 16 ≤ 140737488355328) <| .tt <| .lt (List.take (List.length i2.2.1) i2.2.1 ++ [(3, 0, ())] : List xX) fun z28 => .lt (w64 (i2.2.2.1 - 1) : Int) fun z29 => .need (((z29 : Int) = z29) ∧ (((10) = (10)) ∧ (((0) = (0)) ∧ ((List.length i2.2.1 + 1 = List.length z28) ∧ ((true) = (true))))) ∧ (((0) = (0)) ∧ (((0) = (0)) ∧ ((true) = (true)))) ∧ True) <| .xC (xB (xR 112 z28) <| xB (xD 83 d.1 d.2.1 d.2.2.1) True) <| .ok (.inl ((false, z28, z29, ()))))
 (.ok (.inr (.inr ((List.take (List.length i2.2.1) i2.2.1, ()))))))
def aj5 (d : Int × Int × List xX × Unit) (j4 : Bool × List xX × Int × Unit) (i1 : Int × Bool × List xX × Unit) (y12 : Int × Unit) (i3 : (List xX) × (Int) × Unit) : TT (((List xX) × (Int) × Unit) ⊕ wx) :=
 .call (aaS ((d.1, d.2.1, d.2.2.1, ()), ())) Dz3 fun y14 =>
 .ite (decide (i3.2.1 > y14.1))
 (.need ((List.length i3.1 + 1) * 16 ≤ 140737488355328) <| .tt <| .lt (List.take (List.length i3.1) i3.1 ++ [(3, 0, ())] : List xX) fun z34 => .lt (w64 (i3.2.1 - 1) : Int) fun z35 => .need (((z35 : Int) = z35) ∧ (((10) = (10)) ∧ (((0) = (0)) ∧ ((List.length i3.1 + 1 = List.length z34) ∧ ((true) = (true))))) ∧ (((0) = (0)) ∧ (((0) = (0)) ∧ ((true) = (true)))) ∧ True) <| .xC (xB (xR 112 z34) <| xB (xD 83 d.1 d.2.1 d.2.2.1) True) <| .ok (.inl ((z34, z35, ()))))
 (.ok (.inr (.inr ((List.take (List.length i3.1) i3.1, ())))))
def aj7 (d : Int × Int × List xX × Unit) (j4 : Bool × List xX × Int × Unit) (i1 : (Int) × Bool × (List xX) × Unit) : TT wx :=
 .ite (i1.2.1)
 (.call (aaS ((d.1, d.2.1, d.2.2.1, ()), ())) Dz3 fun y8 =>
 .ite (decide (i1.1 < y8.1))
 (.call (ae2 ((d.1, d.2.1, d.2.2.1, ()), ())) Dz3 fun y9 =>
 .need (y9.1 ≠ 0) <| .need (1 * 16 ≤ 140737488355328) <| .tt <| .lt (w64 (i1.1 + 1) : Int) fun z23 => .lt ([(1, Int.tmod i1.1 y9.1, ())] : List xX) fun z24 => .xC ((xT 5 0 1 true) ∧ (xK z23 <| xZ ∧ True)) <| .xC (xB (xR 112 z24) <| xB (xD 83 d.1 d.2.1 d.2.2.1) True) <| .ok (.inl ((z23, false, z24, ()))))
 (.loop 8 (.tt <| .lt (i1.1 : Int) fun z25 => .xC (xK z25 <| True ∧ xZ ∧ True) <| .xC (xB (xD 83 d.1 d.2.1 d.2.2.1) True) <| .ok ((true, [], z25, ()))) (aj6 d j4 i1 y8)))
 (.call (aaS ((d.1, d.2.1, d.2.2.1, ()), ())) Dz3 fun y12 =>
 .ite (decide (i1.1 < y12.1))
 (.call (ae2 ((d.1, d.2.1, d.2.2.1, ()), ())) Dz3 fun y13 =>
 .need (y13.1 ≠ 0) <| .need ((List.length i1.2.2.1 + 1) * 16 ≤ 140737488355328) <| .tt <| .lt (w64 (i1.1 + 1) : Int) fun z30 => .lt (List.take (List.length i1.2.2.1) i1.2.2.1 ++ [(1, Int.tmod i1.1 y13.1, ())] : List xX) fun z31 => .need ((((5) = (5)) ∧ (((0) = (0)) ∧ ((List.length i1.2.2.1 + 1 = List.length z31) ∧ ((true) = (true))))) ∧ ((z30 : Int) = z30) ∧ (((0) = (0)) ∧ (((0) = (0)) ∧ ((true) = (true)))) ∧ True) <| .xC (xB (xR 112 z31) <| xB (xD 83 d.1 d.2.1 d.2.2.1) True) <| .ok (.inl ((z30, false, z31, ()))))
 (.loop 9 (.tt <| .lt (i1.2.2.1 : List xX) fun z32 => .lt (i1.1 : Int) fun z33 => .xC (xK z33 <| (xT 10 0 (List.length z32) true) ∧ xZ ∧ True) <| .xC (xB (xR 112 z32) <| xB (xD 83 d.1 d.2.1 d.2.2.1) True) <| .ok ((z32, z33, ()))) (aj5 d j4 i1 y12)))
def aiR (d : Int × Int × List xX × Unit) (j4 : Bool × List xX × Int × Unit) (i4 : Int × List xX × Unit) (y15 : Int × Unit) (i5 : (List xX) × (Int) × Unit) : TT (((List xX) × (Int) × Unit) ⊕ wM) :=
 .call (aaS ((d.1, d.2.1, d.2.2.1, ()), ())) Dz3 fun y17 =>
 .ite (decide (i5.2.1 > y17.1))
 (.need ((List.length i5.1 + 1) * 16 ≤ 140737488355328) <| .tt <| .lt (List.take (List.length i5.1) i5.1 ++ [(3, 0, ())] : List xX) fun z42 => .lt (w64 (i5.2.1 - 1) : Int) fun z43 => .need (((z43 : Int) = z43) ∧ (((10) = (10)) ∧ (((0) = (0)) ∧ ((List.length i5.1 + 1 = List.length z42) ∧ ((true) = (true))))) ∧ (((0) = (0)) ∧ (((0) = (0)) ∧ ((true) = (true)))) ∧ True) <| .xC (xB (xR 112 z42) <| xB (xD 83 d.1 d.2.1 d.2.2.1) True) <| .ok (.inl ((z42, z43, ()))))
 (.ok (.inr (.inr ((List.take (List.length i5.1) i5.1, ())))))
def aiS (d : Int × Int × List xX × Unit) (j4 : Bool × List xX × Int × Unit) (i4 : (Int) × (List xX) × Unit) : TT wM :=
 .call (aaS ((d.1, d.2.1, d.2.2.1, ()), ())) Dz3 fun y15 =>
 .ite (decide (i4.1 < y15.1))
 (.call (ae2 ((d.1, d.2.1, d.2.2.1, ()), ())) Dz3 fun y16 =>
 .need (y16.1 ≠ 0) <| .need ((List.length i4.2.1 + 1) * 16 ≤ 140737488355328) <| .tt <| .lt (w64 (i4.1 + 1) : Int) fun z38 => .lt (List.take (List.length i4.2.1) i4.2.1 ++ [(1, Int.tmod i4.1 y16.1, ())] : List xX) fun z39 => .need ((((5) = (5)) ∧ (((0) = (0)) ∧ ((List.length i4.2.1 + 1 = List.length z39) ∧ ((true) = (true))))) ∧ ((z38 : Int) = z38) ∧ (((0) = (0)) ∧ (((0) = (0)) ∧ ((true) = (true)))) ∧ True) <| .xC (xB (xR 112 z39) <| xB (xD 83 d.1 d.2.1 d.2.2.1) True) <| .ok (.inl ((z38, z39, ()))))
 (.loop 9 (.tt <| .lt (i4.2.1 : List xX) fun z40 => .lt (i4.1 : Int) fun z41 => .xC (xK z41 <| (xT 10 0 (List.length z40) true) ∧ xZ ∧ True) <| .xC (xB (xR 112 z40) <| xB (xD 83 d.1 d.2.1 d.2.2.1) True) <| .ok ((z40, z41, ()))) (aiR d j4 i4 y15))
def aj8 (d : Int × Int × List xX × Unit) (j4 : Bool × (List xX) × (Int) × Unit) : TT (List xX × Unit) :=
 .ite (j4.1)
 (.loop 7 (.tt <| .lt (j4.2.2.1 : Int) fun z22 => .xC (True ∧ (xK z22 <| xZ ∧ True)) <| .xC (xB (xD 83 d.1 d.2.1 d.2.2.1) True) <| .ok ((z22, true, [], ()))) (aj7 d j4))
 (.loop 10 (.tt <| .lt (j4.2.2.1 : Int) fun z36 => .lt (j4.2.1 : List xX) fun z37 => .xC ((xT 5 0 (List.length z37) true) ∧ (xK z36 <| xZ ∧ True)) <| .xC (xB (xR 112 z37) <| xB (xD 83 d.1 d.2.1 d.2.2.1) True) <| .ok ((z36, z37, ()))) (aiS d j4))
def adX (d : Int × Int × List xX × Unit) : TT (List xX × Unit) :=
 .join 0 (ι := Bool × (List xX) × (Int) × Unit) (.loop 1 (.tt <| .xC (True ∧ (xO (0 : Int) (0 : Int) <| xZ ∧ True)) <| .xC (xB (xD 83 d.1 d.2.1 d.2.2.1) True) <| .ok ((0, 0, true, [], ()))) (arX d)) (aj8 d)
end
end Go.Vs
