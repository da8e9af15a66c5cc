/-
  Trees of what the functions compute, and their laws. Own work; no condition.
-/
import Derived.Test.YtlmjbmgabddkiaaGreatDoorClL2
import Derived.KernelRfl
set_option linter.unusedVariables false
set_option linter.unusedSimpArgs false
namespace Go.Vs
open Go Go.Vg
theorem asB {s : List UInt8} (h : isD s) (i : Nat) : isD (s.take i) := fun c hc => h c (yC hc)
theorem an4 {s : List UInt8} (h : isD s) (i : Nat) : isD (s.drop i) := fun c hc => h c (xi hc)
theorem aFB {s : List UInt8} {a i : Nat} (h1 : a ≤ i) (h2 : i < s.length) : (s.take (i + 1)).drop a = (s.take i).drop a ++ [s[i]] := by
 rw [zN h2, List.drop_append_of_le_length zg]
theorem as3 {s : List UInt8} {a i : Nat} (h1 : a ≤ i) (h2 : i ≤ s.length) : ((s.take i).drop a).length = i - a := zg
theorem aKt {s : List UInt8} {a e : Nat} (h1 : a ≤ e) (h2 : e ≤ s.length) : num (s.take e) = num (s.take a) * 10 ^ (e - a) + num ((s.take e).drop a) := by
 conv => lhs; rw [← xo a (s.take e)]
 rw [alC, as3 h1 h2, yU, yx h1]
theorem aEq : num [] = 0 := rfl
theorem ayB {s : List UInt8} (hd : isD s) {a i e : Nat} (h1 : a ≤ i) (h2 : i < e) (h3 : e ≤ s.length) (h4 : e - a ≤ 9) : aeP (aeP ((num ((s.take i).drop a) : Int) * 10) + aeP (wu8 (((s.getD i 0).toNat : Int) - 48))) = (num ((s.take (i + 1)).drop a) : Int) := by
 have hi : i < s.length := zb
 have e1 : s.getD i 0 = s[i] := by simp [hi]
 have e2 := hd s[i] (yl hi)
 have e3 := aCh (an4 (asB hd i) a)
 rw [as3 h1 zb] at e3
 have e4 : (10 : Nat) ^ (i - a) ≤ 10 ^ 8 := zO zb zb
 have e5 : dv s[i] = s[i].toNat - 48 := rfl
 rw [aFB h1 hi, alB, e1, e5]
 rw [acE (x := (s[i].toNat : Int) - 48) zb, aa4 (x := (s[i].toNat : Int) - 48) zb, aa4 (x := (num ((s.take i).drop a) : Int) * 10) zb, aa4 zb]
 omega
theorem arD (digits : List UInt8) (y) (h : af0 (digits, ()) = some y) : (aqC digits).toO = some y := by
 unfold af0 at h
 split at h
 case isFalse => cases h
 case isTrue hp =>
  obtain ⟨hd, hne, hl⟩ := hp
  simp only at hd hne hl
  injection h with h
  subst h
  generalize digits = s at *
  have hlen : 1 ≤ s.length := zM.2 hne
  refine uO ((s.length : Int), true, [], ()) rfl ?_
  refine aaS (fun i : Int × Bool × List Int × Unit => ∃ e : Nat, i.1 = (e : Int) ∧ 1 ≤ e ∧ e ≤ s.length ∧ Dg 1000000000 i.2.2.1 ∧ V 1000000000 i.2.2.1 + 1000000000 ^ i.2.2.1.length * num (s.take e) = num s ∧ i.2.2.1.length + e ≤ s.length ∧ (i.2.1 = true → i.2.2.1 = [])) (fun i => i.1.toNat) (fun _ => (mag (num s), ())) ?_ _ ⟨s.length, rfl, hlen, zj _, arR _, by simp [V], by simp, fun _ => rfl⟩
  rintro ⟨e', f, l, u⟩ ⟨e, g1, g2, g3, g4, g5, g6, g7⟩
  simp only at g1 g4 g5 g6 g7
  subst g1
  obtain ⟨a, ha, ha1, ha2, ha3⟩ : ∃ a : Nat, (if 0 > w64 ((e : Int) - 9) then 0 else w64 ((e : Int) - 9)) = (a : Int) ∧ a ≤ e ∧ e - a ≤ 9 ∧ (a = 0 ∨ a + 9 = e) := by
   rw [aaA (x := (e : Int) - 9) zb]
   rcases zv e 9 with h9 | h9
   ·exact ⟨0, by rw [if_pos zb]; rfl, by omega, by omega, Or.inl rfl⟩
   ·exact ⟨e - 9, by rw [if_neg zb]; omega, by omega, by omega, Or.inr zb⟩
  have hseg := aKt (s := s) ha1 g3
  have hv := aCh (an4 (asB hd e) a)
  rw [as3 ha1 g3] at hv
  have hv9 : (10 : Nat) ^ (e - a) ≤ 10 ^ 9 := zO zb ha2
  generalize hX : num ((s.take e).drop a) = X at hseg hv
  have hD : Dg 1000000000 (l ++ [(X : Int)]) := aeZ g4 (ak6 zb zb)
  have hw9 : w64 ((e : Int) - 9) = (e : Int) - 9 := aaA zb
  have hV0 : a = 0 → V 1000000000 (l ++ [(X : Int)]) = num s := by
   intro h0
   subst h0
   rw [aeL, aw1, ← g5]
   rw [hseg]
   simp [aEq]
  have hV1 : a + 9 = e → V 1000000000 (l ++ [(X : Int)]) + 1000000000 ^ (l ++ [(X : Int)]).length * (num (s.take a) : Int) = num s := by
   intro h0
   rw [aeL, aw1, ← g5, hseg, show e - a = 9 by omega, zo, yo, yu]
   have : (((num (s.take a) * 10 ^ 9 + X : Nat)) : Int) = (num (s.take a) : Int) * 1000000000 + X := zh
   rw [this]
   grind
  cases f
  ·-- not the first group
   simp only [am1, ha]
   have hin : abX (fun i1 => (ajN s ((e : Int), false, l, ()) i1).toO) ((a : Int), 0, ()) = some (if a = 0 then Sum.inr (mag (num s), ()) else Sum.inl ((a : Int), false, l ++ [(X : Int)], ())) := by
    refine aaS (fun j : Int × Int × Unit => ∃ i : Nat, a ≤ i ∧ i ≤ e ∧ j = ((i : Int), (num ((s.take i).drop a) : Int), ())) (fun j => ((e : Int) - j.1).toNat) (fun _ => (if a = 0 then Sum.inr (mag (num s), ()) else Sum.inl ((a : Int), false, l ++ [(X : Int)], ()))) ?_ _ ⟨a, zj _, ha1, by rw [yr zg]; rfl⟩
    rintro j ⟨i, h1, h2, rfl⟩
    rcases zv i e with hi | hi
    ·left
     refine ⟨(((i + 1 : Nat) : Int), (num ((s.take (i + 1)).drop a) : Int), ()), ?_, ⟨i + 1, by omega, by omega, rfl⟩, by simp only; omega, zd⟩
     simp only [ajN, aaP, ayB hd h1 hi g3 ha2]
     repeat refine za ?_
     simp (disch := omega) only [aaQ, aaA, aaM, aa4, acE, aaP, zp, zm, aaI, zu]
     rfl
    ·right
     have hie : i = e := zb
     subst hie
     simp only [ajN, ha, hX, zu]
     refine uF sd ?_
     refine uN zb ?_
     by_cases h0 : a = 0
     ·rw [if_pos h0]
      refine uT (by simp [h0]) ?_
      refine uC (mag (num s), ()) ?_ rfl
      rw [zr zh]
      exact asS hD zg (hV0 h0)
     ·rw [if_neg h0]
      refine uF zg ?_
      repeat refine za ?_
      have : w64 ((i : Int) - 9) = (a : Int) := by rw [hw9]; omega
      rw [this]
      rfl
   by_cases h0 : a = 0
   ·right
    rw [if_pos h0] at hin
    refine uF rfl ?_
    refine uO ((a : Int), 0, ()) ?_ hin
    repeat refine za ?_
    rfl
   ·left
    rw [if_neg h0] at hin
    refine ⟨((a : Int), false, l ++ [(X : Int)], ()), ?_, ⟨a, rfl, by omega, by omega, hD, hV1 zb, by simp; omega, by simp⟩, by simp only; omega, zd⟩
    refine uF rfl ?_
    refine uO ((a : Int), 0, ()) ?_ hin
    repeat refine za ?_
    rfl
  ·-- the first group
   obtain rfl := g7 rfl
   simp only [yX] at hD hV0 hV1
   simp only [am1, ha]
   have hin : abX (fun i1 => (ajO s ((e : Int), true, [], ()) i1).toO) ((a : Int), 0, ()) = some (if a = 0 then Sum.inr (mag (num s), ()) else Sum.inl ((a : Int), false, [(X : Int)], ())) := by
    refine aaS (fun j : Int × Int × Unit => ∃ i : Nat, a ≤ i ∧ i ≤ e ∧ j = ((i : Int), (num ((s.take i).drop a) : Int), ())) (fun j => ((e : Int) - j.1).toNat) (fun _ => (if a = 0 then Sum.inr (mag (num s), ()) else Sum.inl ((a : Int), false, [(X : Int)], ()))) ?_ _ ⟨a, zj _, ha1, by rw [yr zg]; rfl⟩
    rintro j ⟨i, h1, h2, rfl⟩
    rcases zv i e with hi | hi
    ·left
     refine ⟨(((i + 1 : Nat) : Int), (num ((s.take (i + 1)).drop a) : Int), ()), ?_, ⟨i + 1, by omega, by omega, rfl⟩, by simp only; omega, zd⟩
     simp only [ajO, aaP, ayB hd h1 hi g3 ha2]
     repeat refine za ?_
     simp (disch := omega) only [aaQ, aaA, aaM, aa4, acE, aaP, zp, zm, aaI, zu]
     rfl
    ·right
     have hie : i = e := zb
     subst hie
     simp only [ajO, ha, hX]
     refine uF sd ?_
     refine uN zh ?_
     by_cases h0 : a = 0
     ·rw [if_pos h0]
      refine uT (by simp [h0]) ?_
      refine uC (mag (num s), ()) ?_ rfl
      exact asS hD zh (hV0 h0)
     ·rw [if_neg h0]
      refine uF zg ?_
      repeat refine za ?_
      have : w64 ((i : Int) - 9) = (a : Int) := by rw [hw9]; omega
      rw [this]
      rfl
   by_cases h0 : a = 0
   ·right
    rw [if_pos h0] at hin
    refine uT rfl ?_
    refine uO ((a : Int), 0, ()) ?_ hin
    repeat refine za ?_
    rfl
   ·left
    rw [if_neg h0] at hin
    refine ⟨((a : Int), false, [(X : Int)], ()), ?_, ⟨a, rfl, by omega, by omega, hD, hV1 zb, by simp; omega, by simp⟩, by simp only; omega, zd⟩
    refine uT rfl ?_
    refine uO ((a : Int), 0, ()) ?_ hin
    repeat refine za ?_
    rfl
theorem ajD {p q : Int × Int} (h : (pl p.1, pl p.2, ()) = (pl q.1, pl q.2, ())) : p = q := by
 obtain ⟨h1, h2⟩ := Prod.mk.inj h
 obtain ⟨h2, -⟩ := Prod.mk.inj h2
 exact Prod.ext (aq2 h1) (aq2 h2)
theorem ayN {p q : Nat × Nat} (h : (dig p.1, dig p.2, ()) = (dig q.1, dig q.2, ())) : p = q := by
 obtain ⟨h1, h2⟩ := Prod.mk.inj h
 obtain ⟨h2, -⟩ := Prod.mk.inj h2
 exact Prod.ext (avA h1) (avA h2)
theorem aKX {n : Nat} (h : n < 10000) : isD (awU n) := by
 intro c hc
 simp only [awU, zt, List.not_mem_nil, or_false] at hc
 rcases hc with rfl | rfl | rfl | rfl <;> rw [asG zb] <;> omega
theorem aKW {n : Nat} (h : n < 10000) : num (awU n) = n := by
 have e : ∀ a b c d : Nat, a < 10 → b < 10 → c < 10 → d < 10 → num [UInt8.ofNat (48 + a), UInt8.ofNat (48 + b), UInt8.ofNat (48 + c), UInt8.ofNat (48 + d)] = ((a * 10 + b) * 10 + c) * 10 + d := by
  intro a b c d ha hb hc hd
  unfold num
  rw [ahE, ahE, ahE, ahE, ayL ha, ayL hb, ayL hc, ayL hd]
  simp [aCi]
 unfold awU
 rw [e _ _ _ _ zb zb zb zb]
 omega
theorem aNR {s : List UInt8} {k : Nat} (h : ∀ c ∈ s.take k, c = 48) : num s = num (s.drop k) := by
 have h1 : ∀ l : List UInt8, (∀ c ∈ l, c = 48) → num l = 0 := by
  intro l
  induction l using aDJ with
  | nil => intro _; rfl
  | snoc l c ih =>
   intro h
   rw [alB, ih (fun d hd => h d (vo _ hd)), h c zh]
   rfl
 conv => lhs; rw [← xo k s]
 rw [alC, h1 _ h]
 omega
theorem aQ2 {n : Nat} (h : Bd 6 n) : (dig n).length ≤ 13000000000 := by
 have h2 := ayO (k := 1000000 * 4 ^ 6) h
 omega
theorem av9 {z : Int} (h : Bd 6 z.natAbs) : ai0 (pl z, ()) = some (dec z, ()) := aaN (enc := fun x : Int => (pl x, ())) z h (fun b hb => aq2 (Prod.mk.inj hb).1)
theorem aEa (x : PlT) (y) (h : ai0 (x, ()) = some y) : (atM x).toO = some y := by
 obtain ⟨z, hp, hx, rfl⟩ := aaH h
 obtain ⟨rfl, -⟩ := Prod.mk.inj hx
 have hl := aQ2 hp
 have hd := adW z.natAbs
 have hV := ahS z.natAbs
 clear h hx
 unfold atM
 dsimp only
 refine uO (((dig z.natAbs).length : Int) - 1, [], ()) ?_ ?_
 ·repeat refine za ?_
  rw [aaQ, aaI, aaA zb]
 refine aaS (fun i : Int × List UInt8 × Unit => ∃ k : Nat, k ≤ (dig z.natAbs).length ∧ i.1 = (k : Int) - 1 ∧ isD i.2.1 ∧ i.2.1.length = 4 * ((dig z.natAbs).length - k) ∧ (num i.2.1 : Int) = V 10000 ((dig z.natAbs).drop k)) (fun i => (i.1 + 1).toNat) (fun _ => (dec z, ())) ?_ _ ⟨_, zj _, rfl, (show isD [] from fun c hc => by cases hc), by simp, by rw [adK _ (zj _)]; rfl⟩
 rintro ⟨i, s, u⟩ ⟨k, h1, h2, h3, h4, h5⟩
 dsimp only at h2 h3 h4 h5
 subst h2
 cases k with
 | succ j =>
  left
  have e6 : ((j + 1 : Nat) : Int) - 1 = (j : Int) := zb
  have dj := aa5 zb hd j
  obtain ⟨m, hm⟩ := zE dj.1
  have hm2 : m < 10000 := zb
  rw [e6]
  refine ⟨((j : Int) - 1, s ++ awU m, ()), ?_, ⟨j, by omega, rfl, ?_, ?_, ?_⟩, by dsimp only; omega, zd⟩
  ·simp only [apO, aaP, hm]
   refine uT sd (uN sd (uC _ (aMk hm2) (uN ?_ ?_)))
   ·have : (awU m).length = 4 := rfl
    dsimp only
    rw [this, h4]
    unfold lim; omega
   ·repeat refine za ?_
    rw [aaQ, aaA (x := (j : Int) - 1) zb]
  ·exact isD_append.2 ⟨h3, aKX hm2⟩
  ·have : (awU m).length = 4 := rfl
   simp only [zo, this, h4]; omega
  ·dsimp only
   rw [alC, aKW hm2, aaR, hm, ← h5]
   have : (awU m).length = 4 := rfl
   rw [this]
   simp; omega
 | zero =>
  right
  rw [yE, hV] at h5
  have h5' : num s = z.natAbs := Int.ofNat.inj h5
  simp only [apO]
  refine uF sd (uO (0, ()) rfl ?_)
  refine aaS (fun i : Int × Unit => ∃ q : Nat, q ≤ s.length ∧ i = ((q : Int), ()) ∧ ∀ c ∈ s.take q, c = 48) (fun i => ((s.length : Int) - i.1).toNat) (fun _ => (.inr (dec z, ()) : (Int × List UInt8 × Unit) ⊕ (List UInt8 × Unit))) ?_ _ ⟨0, by omega, rfl, by simp⟩
  rintro i ⟨q, g1, rfl, g2⟩
  have hlead := aNR g2
  have hsl : s.length ≤ 60000000000 := zb
  have hdd : isD (s.drop q) := an4 h3 q
  have htk : List.take (s.length - q) (s.drop q) = s.drop q := zr zh
  have fin : ∀ (w : TT (ue ⊕ ((Int × List UInt8 × Unit) ⊕ uq))), (q = s.length ∨ (s.drop q).head? ≠ some 48) → (TT.ite (s.drop q == #[].toList) (TT.ok (.inr (.inr (#[48].toList, ())))) (TT.ite (decide (z < 0)) (TT.need (List.length #[(45 : UInt8)].toList + List.length (s.drop q) ≤ lim) (TT.ok (.inr (.inr (#[45].toList ++ s.drop q, ()))))) (TT.ok (.inr (.inr (s.drop q, ())))) : TT (ue ⊕ ((Int × List UInt8 × Unit) ⊕ uq)))).toO = some (.inr (.inr (dec z, ()))) := by
   intro _ hq
   by_cases c0 : s.drop q = []
   ·refine uT (by rw [c0]; rfl) ?_
    rw [c0] at hlead
    have : z.natAbs = 0 := by rw [← h5', hlead]; rfl
    have hz : z = 0 := zb
    subst hz
    rw [acK zb, wg, ab2 zb]; rfl
   ·refine uF (by rw [beq_eq_false_iff_ne]; exact c0) ?_
    have hu : s.drop q = aa3 z.natAbs := by
     have := aC0 hdd c0 (by
      rcases hq with hq | hq
      ·exact absurd (by rw [hq]; simp) c0
      ·exact Or.inl hq)
     rw [this, ← hlead, h5']
    by_cases cz : z < 0
    ·refine uT (zl cz) (uN ?_ ?_)
     ·show 1 + (s.drop q).length ≤ lim
      rw [yb]; unfold lim; omega
     ·rw [hu, aiG cz]; rfl
    ·refine uF (zk cz) ?_
     rw [hu, acK zb]; rfl
  unfold axN ajB
  simp only [aaP, zm, htk]
  rcases zv q s.length with hq | hq
  ·have e1 : s.getD q 0 = s[q] := by simp [hq]
   rw [e1]
   by_cases c : s[q] = 48
   ·left
    refine ⟨(((q + 1 : Nat) : Int), ()), ?_, ⟨q + 1, by omega, rfl, ?_⟩, by dsimp only; omega, zd⟩
    ·refine uT sd (uN sd (uT (by rw [c]; rfl) ?_))
     repeat refine za ?_
     rw [aaQ, aaA (x := (q : Int) + 1) zb]; rfl
    ·intro c' hc'
     rw [zN hq] at hc'
     rcases zG.1 hc' with hc' | hc'
     ·exact g2 c' hc'
     ·rw [yj.1 hc', c]
   ·right
    refine uT sd (uN sd (uF ?_ (uN sd ?_)))
    ·rw [beq_eq_false_iff_ne]
     intro h
     exact c (UInt8.toNat_inj.1 (Int.ofNat.inj h))
    ·refine fin TT.bad (Or.inr ?_)
     rw [yB hq, vq]
     exact fun h => c (Option.some.inj h)
  ·right
   refine uF sd (uN sd ?_)
   exact fin TT.bad (Or.inl zb)
theorem aA3 {z : Int} (h : Bd 6 z.natAbs) : aj1 (pl z, ()) = some (wrW z) := aaN (enc := fun x : Int => (pl x, ())) z h (fun b hb => aq2 (Prod.mk.inj hb).1)
theorem aHl (x : PlT) (y) (h : aj1 (x, ()) = some y) : (aFQ x).toO = some y := by
 obtain ⟨z, hp, hx, rfl⟩ := aaH h
 obtain ⟨rfl, -⟩ := Prod.mk.inj hx
 refine uC _ (av9 hp) ?_
 dsimp only
 have hl : (aa3 z.natAbs).length ≤ 90000000000 := by
  have := aeV (k := 1000000 * 4 ^ 6) hp
  omega
 by_cases c : z < 0
 ·refine uT (zl c) ?_
  have e : w64 (len (dec z) - 1) = ((aa3 z.natAbs).length : Int) := by
   rw [aiG c, aaI, zH, aaA zb]; omega
  rw [e]
  by_cases f : Fit z
  ·rw [asO f]
   have f' : (aa3 z.natAbs).length ≤ 600 := f
   exact uF sd rfl
  ·rw [azB f]
   have f' : ¬ (aa3 z.natAbs).length ≤ 600 := f
   exact uT sd rfl
 ·refine uF (zk c) ?_
  have e : len (dec z) = ((aa3 z.natAbs).length : Int) := by rw [acK zb]; rfl
  rw [e]
  by_cases f : Fit z
  ·rw [asO f]
   have f' : (aa3 z.natAbs).length ≤ 600 := f
   exact uF sd rfl
  ·rw [azB f]
   have f' : ¬ (aa3 z.natAbs).length ≤ 600 := f
   exact uT sd rfl
theorem aeE {n : Int} (h : aeI n) : abU (n, ()) = some (pl n, ()) := by unfold abU; rw [if_pos h]
theorem aN6 {l : List Int} {x w v N : Int} (h : V 10000 l + 10000 ^ l.length * w = N) (hx : x + 10000 * v = w) : V 10000 (l ++ [x]) + 10000 ^ (l.length + 1) * v = N := by
 rw [aeL, aw1, yu, ← h]
 have : (10000 : Int) ^ l.length * (x + 10000 * v) = 10000 ^ l.length * w := by rw [hx]
 grind
theorem awQ (n : Int) (y) (h : abU (n, ()) = some y) : (aq0 n).toO = some y := by
 unfold abU at h
 split at h
 case isFalse => cases h
 case isTrue hn =>
 injection h with h
 subst h
 obtain ⟨n0, n1⟩ := hn
 dsimp only at n0 n1
 refine uO (true, [], n, ()) rfl ?_
 refine aaS (fun i : Bool × List Int × Int × Unit => Dg 10000 i.2.1 ∧ i.2.2.1.natAbs ≤ n.natAbs ∧ V 10000 i.2.1 + 10000 ^ i.2.1.length * i.2.2.1.natAbs = n.natAbs ∧ (i.1 = true → i.2.1 = []) ∧ (i.2.2.1 = 0 → Cn i.2.1) ∧ i.2.1.length ≤ 6 ∧ i.2.2.1.natAbs < 10000 ^ (6 - i.2.1.length)) (fun i => i.2.2.1.natAbs) (fun _ => (pl n, ())) ?_ _ ⟨arR _, zj _, by simp [V], fun _ => rfl, fun _ => arS, by simp, by simp; omega⟩
 rintro ⟨f, l, v, u⟩ ⟨g1, g2, g3, g4, g5, g6, g7⟩
 dsimp only at g1 g2 g3 g4 g5 g6 g7
 by_cases hv : v = 0
 ·right
  subst hv
  have hm : abO (decide (n < 0), l, ()) = some (pl n, ()) := av7 g1 zb (by simp at g3; omega) (Or.inr rfl)
  cases f with
  | true =>
   obtain rfl := g4 rfl
   unfold afH
   exact uT rfl (uF rfl (uC _ hm rfl))
  | false =>
   unfold afH
   dsimp only
   rw [zu]
   exact uF rfl (uF rfl (uC _ hm rfl))
 ·left
  have hl6 : l.length ≤ 5 := by
   rcases zv 5 l.length with h | h
   ·have : l.length = 6 := zb
    rw [this] at g7; simp at g7; omega
   ·exact h
  have td : (Int.tdiv v 10000).natAbs = v.natAbs / 10000 := by rw [Int.natAbs_tdiv]; rfl
  have tm : (Int.tmod v 10000).natAbs = v.natAbs % 10000 := by rw [xL]; rfl
  have hx : ((v.natAbs % 10000 : Nat) : Int) + 10000 * ((v.natAbs / 10000 : Nat) : Int) = v.natAbs := zb
  have wd : w64 (Int.tdiv v 10000) = Int.tdiv v 10000 := aaA zb
  have wm : w64 (0 - Int.tmod v 10000) = 0 - Int.tmod v 10000 := aaA zb
  have inv : Dg 10000 (l ++ [((v.natAbs % 10000 : Nat) : Int)]) ∧ (Int.tdiv v 10000).natAbs ≤ n.natAbs ∧ V 10000 (l ++ [((v.natAbs % 10000 : Nat) : Int)]) + 10000 ^ (l ++ [((v.natAbs % 10000 : Nat) : Int)]).length * ((Int.tdiv v 10000).natAbs : Int) = n.natAbs ∧ (false = true → (l ++ [((v.natAbs % 10000 : Nat) : Int)]) = []) ∧ (Int.tdiv v 10000 = 0 → Cn (l ++ [((v.natAbs % 10000 : Nat) : Int)])) ∧ (l ++ [((v.natAbs % 10000 : Nat) : Int)]).length ≤ 6 ∧ (Int.tdiv v 10000).natAbs < 10000 ^ (6 - (l ++ [((v.natAbs % 10000 : Nat) : Int)]).length) := by
   refine ⟨aeZ g1 (ak6 zb zb), by omega, ?_, by simp, ?_, by simp; omega, ?_⟩
   ·rw [zo, yo, td]
    exact aN6 g3 hx
   ·intro hz
    unfold Cn
    simp only [List.getLast?_concat, ne_eq, Option.some.injEq]
    omega
   ·rw [zo, yo, td, yV zb]
    have h9 : 10000 ^ (6 - l.length) = 10000 ^ (6 - (l.length + 1)) * 10000 := by
     rw [← yw]; congr 1; omega
    omega
  refine ⟨(false, l ++ [((v.natAbs % 10000 : Nat) : Int)], Int.tdiv v 10000, ()), ?_, inv, by dsimp only; omega, zd⟩
  cases f with
  | true =>
   obtain rfl := g4 rfl
   simp only [afH, wd, wm]
   by_cases c : Int.tmod v 10000 < 0
   ·refine uT rfl (uT (by simpa using hv) (uV (uT (zl c) ?_)))
    repeat refine za ?_
    rw [aaQ, show 0 - Int.tmod v 10000 = ((v.natAbs % 10000 : Nat) : Int) by omega]; rfl
   ·refine uT rfl (uT (by simpa using hv) (uV (uF (zk c) ?_)))
    repeat refine za ?_
    rw [aaQ, show Int.tmod v 10000 = ((v.natAbs % 10000 : Nat) : Int) by omega]; rfl
  | false =>
   simp only [afH, wd, wm, zu]
   by_cases c : Int.tmod v 10000 < 0
   ·refine uF rfl (uT (by simpa using hv) (uV (uT (zl c) ?_)))
    repeat refine za ?_
    rw [aaQ, show 0 - Int.tmod v 10000 = ((v.natAbs % 10000 : Nat) : Int) by omega]
   ·refine uF rfl (uT (by simpa using hv) (uV (uF (zk c) ?_)))
    repeat refine za ?_
    rw [aaQ, show Int.tmod v 10000 = ((v.natAbs % 10000 : Nat) : Int) by omega]
theorem am8 {k n : Nat} (h : Bd k n) (hk : k ≤ 8) : (dig n).length ≤ 1000000000000 := zw (avU h hk) zb
theorem av8 {z : Int} (h : Bd 8 z.natAbs) : aiZ (pl z, ()) = some (pl (-z), ()) := aaN (enc := fun x : Int => (pl x, ())) z h (fun b hb => aq2 (Prod.mk.inj hb).1)
theorem aD9 (x : PlT) (y) (h : aiZ (x, ()) = some y) : (aBU x).toO = some y := by
 obtain ⟨z, hp, hx, rfl⟩ := aaH h
 obtain ⟨rfl, -⟩ := Prod.mk.inj hx
 refine uC (pl (-z), ()) (af2 (am8 hp zb) zb ?_) rfl
 by_cases h0 : z = 0
 ·left; omega
 ·right
  show (!decide (z < 0)) = decide (-z < 0)
  by_cases h1 : z < 0
  ·rw [zl h1, zk zb]; rfl
  ·rw [zk h1, zl zb]; rfl
theorem aOJ {a b : Nat} (h1 : (dig a).length ≤ 1000000000000) (h2 : (dig b).length ≤ 1000000000000) : asL (dig a, dig b, ()) = some (dig (a + b), ()) := aaN (enc := fun p : Nat × Nat => (dig p.1, dig p.2, ())) (a, b) ⟨h1, h2⟩ (fun b hb => ayN hb)
theorem ay4 {a b : Nat} (h1 : (dig a).length ≤ 1000000000000) (h : b ≤ a) : abJ (dig a, dig b, ()) = some (dig (a - b), ()) := ak4 (adW a) (adW b) h1 (acQ h) (by rw [ahS, ahS]; omega) (by rw [ahS, ahS]; omega)
theorem aIA {a b : Nat} (h1 : (dig a).length ≤ 400000000000) (h2 : (dig b).length ≤ 400000000000) : ab5 (dig a, dig b, ()) = some (dig (a * b), ()) := ak3 (adW a) (Or.inl (adW b)) h1 h2 (by rw [ahS, ahS]; simp)
theorem aoW {a b : Int} (h1 : Bd 7 a.natAbs) (h2 : Bd 7 b.natAbs) : agN (pl a, pl b, ()) = some (pl (a + b), ()) := aaN (enc := fun p : Int × Int => (pl p.1, pl p.2, ())) (a, b) ⟨h1, h2⟩ (fun b hb => ajD hb)
theorem aEd (x x' : PlT) (y) (h : agN (x, x', ()) = some y) : (atQ x x').toO = some y := by
 obtain ⟨⟨a, b⟩, hp, hx, rfl⟩ := aaH h
 obtain ⟨rfl, hx2⟩ := Prod.mk.inj hx; obtain ⟨rfl, -⟩ := Prod.mk.inj hx2; dsimp only
 obtain ⟨l1, l2⟩ := hp
 simp only at l1 l2
 have d1 := am8 l1 zb
 have d2 := am8 l2 zb
 have d3 := am8 (aa1 l1 l2) zb
 unfold atQ
 dsimp only
 by_cases hs : (decide (a < 0) == decide (b < 0)) = true
 ·refine uT hs ?_
  have hs' : (a < 0 ↔ b < 0) := by simpa using hs
  refine uC _ (aOJ d1 d2) ?_
  refine uC (pl (a + b), ()) (af2 d3 zb (Or.inr (decide_eq_decide.2 zb))) rfl
 ·have hs' : ¬ (a < 0 ↔ b < 0) := by simpa using hs
  refine uF (by simpa using hs) ?_
  refine uC _ (aqQ _ _ (adW _) (adW _) d1 d2) ?_
  obtain ⟨o1, o2⟩ := aFT a.natAbs b.natAbs
  by_cases hc : a.natAbs < b.natAbs
  ·refine uF (zk (by have := o1.2 hc; dsimp only; omega)) ?_
   refine uC _ (ay4 d2 zb) ?_
   have d4 : (dig (b.natAbs - a.natAbs)).length ≤ 1000000000000 := zw (acQ (Nat.sub_le _ _)) d2
   refine uC (pl (a + b), ()) (af2 d4 zb (Or.inr (decide_eq_decide.2 zb))) rfl
  ·refine uT (zl (by
    rcases zP (aPq (dig a.natAbs) (dig b.natAbs)) 0 with h | h
    ·exact absurd (o1.1 h) hc
    ·exact h)) ?_
   refine uC _ (ay4 d1 zb) ?_
   have d4 : (dig (a.natAbs - b.natAbs)).length ≤ 1000000000000 := zw (acQ (Nat.sub_le _ _)) d1
   refine uC (pl (a + b), ()) (af2 d4 zb ?_) rfl
   by_cases h0 : a + b = 0
   ·exact Or.inl h0
   ·exact Or.inr (decide_eq_decide.2 zb)
theorem ay6 {a b : Int} (h1 : Bd 7 a.natAbs) (h2 : Bd 7 b.natAbs) : ai1 (pl a, pl b, ()) = some (pl (a - b), ()) := aaN (enc := fun p : Int × Int => (pl p.1, pl p.2, ())) (a, b) ⟨h1, h2⟩ (fun b hb => ajD hb)
theorem aBZ (x x' : PlT) (y) (h : ai1 (x, x', ()) = some y) : (axP x x').toO = some y := by
 obtain ⟨⟨a, b⟩, hp, hx, rfl⟩ := aaH h
 obtain ⟨rfl, hx2⟩ := Prod.mk.inj hx; obtain ⟨rfl, -⟩ := Prod.mk.inj hx2; dsimp only
 obtain ⟨l1, l2⟩ := hp
 refine uC _ (av8 (aaG l2 zb)) (uC _ (aoW l1 (aaT l2)) ?_)
 rw [Int.sub_eq_add_neg]; rfl
theorem aNU {a b : Int} : a * b = 0 ∨ (!(decide (a < 0) == decide (b < 0))) = decide (a * b < 0) := by
 by_cases hz : a * b = 0
 ·exact Or.inl hz
 ·right
  have z1 : a ≠ 0 := fun h => hz (by rw [h]; simp)
  have z2 : b ≠ 0 := fun h => hz (by rw [h]; simp)
  rcases zP a 0 with c1 | c1 <;> rcases zP b 0 with c2 | c2
  ·have := Int.mul_pos_of_neg_of_neg c1 c2
   rw [zl c1, zl c2, zk zb]; rfl
  ·have := wN c1 (show 0 < b by omega)
   rw [zl c1, zk zb, zl zb]; rfl
  ·have := wO (show 0 < a by omega) c2
   rw [zk zb, zl c2, zl zb]; rfl
  ·have := Int.mul_pos (show 0 < a by omega) (show 0 < b by omega)
   rw [zk zb, zk zb, zk zb]; rfl
theorem adV {a b : Int} (h1 : Bd 7 a.natAbs) (h2 : Bd 7 b.natAbs) : acN (pl a, pl b, ()) = some (pl (a * b), ()) := aaN (enc := fun p : Int × Int => (pl p.1, pl p.2, ())) (a, b) ⟨h1, h2⟩ (fun b hb => ajD hb)
theorem aBV (x x' : PlT) (y) (h : acN (x, x', ()) = some y) : (axM x x').toO = some y := by
 obtain ⟨⟨a, b⟩, hp, hx, rfl⟩ := aaH h
 obtain ⟨rfl, hx2⟩ := Prod.mk.inj hx; obtain ⟨rfl, -⟩ := Prod.mk.inj hx2; dsimp only
 obtain ⟨l1, l2⟩ := hp
 simp only at l1 l2
 have d1 := avU l1 zb
 have d2 := avU l2 zb
 refine uC _ (aIA (zw d1 zb) (zw d2 zb)) ?_
 refine uC (pl (a * b), ()) (af2 (am8 (aaU l1 l2) zb) (by rw [yp]) aNU) rfl
theorem aIB {a b : Int} (h1 : Bd 7 a.natAbs) (h2 : Bd 7 b.natAbs) : alQ (pl a, pl b, ()) = some ((a - b).sign, ()) := aaN (enc := fun p : Int × Int => (pl p.1, pl p.2, ())) (a, b) ⟨h1, h2⟩ (fun b hb => ajD hb)
theorem aBY (x x' : PlT) (y) (h : alQ (x, x', ()) = some y) : (axO x x').toO = some y := by
 obtain ⟨⟨a, b⟩, hp, hx, rfl⟩ := aaH h
 obtain ⟨rfl, hx2⟩ := Prod.mk.inj hx; obtain ⟨rfl, -⟩ := Prod.mk.inj hx2; dsimp only
 obtain ⟨l1, l2⟩ := hp
 refine uC _ (ay6 l1 l2) ?_
 dsimp only
 rcases wk (a - b) 0 with c | c | c
 ·rw [xc c]
  exact uT (zl c) rfl
 ·rw [c]
  exact uF rfl (uF (zk (by show ¬ (len (dig (Int.natAbs 0)) > 0); rw [wg, dig_zero]; decide)) rfl)
 ·rw [xl c]
  refine uF sd (uT (zl ?_) rfl)
  rw [aaI]
  rcases zC (dig (a - b).natAbs).length with h | h
  ·have := dig_nil_iff.1 (zU.1 h); omega
  ·omega
theorem aOF {n : Nat} (h : n ≤ 500) : Bd 6 (10 ^ n) := by
 have : (mag (10 ^ n)).length ≤ 501 := by
  refine al2 ?_
  rw [al6 (k := n) (zj _) (Nat.pow_lt_pow_right zb zb)]; omega
 unfold Bd; omega
theorem aFk {a : Int} {n : Nat} (h : (n ≤ 40 ∧ Bd 2 a.natAbs) ∨ (n ≤ 500 ∧ a = 10)) : aj0 (pl a, (n : Int), ()) = some (pl (a ^ n), ()) := by
 refine aaN (enc := fun p : Int × Nat => (pl p.1, (p.2 : Int), ())) (a, n) h (fun b hb => ?_)
 obtain ⟨e1, e2⟩ := Prod.mk.inj hb
 obtain ⟨e2, -⟩ := Prod.mk.inj e2
 exact Prod.ext (aq2 e1) (Int.ofNat.inj e2)
theorem aLX {a : Int} {n : Nat} (h : (n ≤ 40 ∧ Bd 2 a.natAbs) ∨ (n ≤ 500 ∧ a = 10)) (j : Nat) (hj : j ≤ n) : Bd 7 (a ^ j).natAbs := by
 rw [Int.natAbs_pow]
 rcases h with ⟨h1, h2⟩ | ⟨h1, rfl⟩
 ·exact aSz h2 zb
 ·exact aaG (aOF zb) zb
theorem az1 (x : PlT) (k : Int) (y) (h : aj0 (x, k, ()) = some y) : (atP x k).toO = some y := by
 obtain ⟨⟨a, n⟩, hp, hx, rfl⟩ := aaH h
 obtain ⟨rfl, hx2⟩ := Prod.mk.inj hx; obtain ⟨rfl, -⟩ := Prod.mk.inj hx2; dsimp only
 dsimp only at hp
 have hn : n ≤ 500 := by rcases hp with h | h <;> omega
 have ha : Bd 7 a.natAbs := by
  rcases hp with h | h
  ·exact aaG h.2 zb
  ·rw [h.2]; exact aaG (aaD zb) zb
 refine uC _ (aeE ⟨by omega, by omega⟩) ?_
 refine uO (0, decide ((1 : Int) < 0), dig 1, ()) rfl ?_
 refine aaS (fun i : Int × Bool × List Int × Unit => ∃ j : Nat, j ≤ n ∧ i = ((j : Int), pl (a ^ j))) (fun i => ((n : Int) - i.1).toNat) (fun _ => (pl (a ^ n), ())) ?_ _ ⟨0, by omega, by rw [Int.pow_zero]; rfl⟩
 rintro i ⟨j, hj, rfl⟩
 unfold aqZ
 dsimp only
 rcases zv j n with h1 | h1
 ·left
  refine ⟨(((j + 1 : Nat) : Int), pl (a ^ (j + 1))), ?_, ⟨j + 1, by omega, rfl⟩, by dsimp only; omega, zd⟩
  refine uT sd (uC (pl (a ^ (j + 1)), ()) (by rw [yu]; exact adV (aLX hp j hj) ha) ?_)
  repeat refine za ?_
  rw [aaQ, aaA (x := (j : Int) + 1) zb]; rfl
 ·right
  have : j = n := zb
  subst this
  exact uF sd rfl
theorem ay3 {a b : Nat} (h1 : (dig a).length ≤ 200000000000) (h2 : (dig b).length ≤ 200000000000) (h3 : b ≠ 0) : aiY (dig a, dig b, ()) = some (dig (a / b), dig (a % b), ()) := aaN (enc := fun p : Nat × Nat => (dig p.1, dig p.2, ())) (a, b) ⟨h1, h2, h3⟩ (fun b hb => ayN hb)
theorem ak5 {a b : Int} (h1 : Bd 8 a.natAbs) (h2 : Bd 8 b.natAbs) : afE (pl a, pl b, ()) = some (pl (Nat.gcd a.natAbs b.natAbs), ()) := aaN (enc := fun p : Int × Int => (pl p.1, pl p.2, ())) (a, b) ⟨h1, h2⟩ (fun b hb => ajD hb)
theorem awR (x x' : PlT) (y) (h : afE (x, x', ()) = some y) : (aq1 x x').toO = some y := by
 obtain ⟨⟨a, b⟩, hp, hx, rfl⟩ := aaH h
 obtain ⟨rfl, hx2⟩ := Prod.mk.inj hx; obtain ⟨rfl, -⟩ := Prod.mk.inj hx2; dsimp only
 obtain ⟨l1, l2⟩ := hp
 dsimp only at l1 l2
 have d1 := avU l1 zb
 have d2 := avU l2 zb
 refine uO (dig b.natAbs, dig a.natAbs, ()) rfl ?_
 have hres : (pl ((Nat.gcd a.natAbs b.natAbs : Nat) : Int), ()) = ((false, dig (Nat.gcd a.natAbs b.natAbs), ()), ()) := by
  unfold pl
  rw [zk zb, yc]
 rw [hres]
 refine aaS (fun i : List Int × List Int × Unit => ∃ p q : Nat, i = (dig q, dig p, ()) ∧ (dig p).length ≤ 200000000000 ∧ (dig q).length ≤ 200000000000 ∧ Nat.gcd p q = Nat.gcd a.natAbs b.natAbs) (fun i => (V 10000 i.1).toNat) (fun _ => ((false, dig (Nat.gcd a.natAbs b.natAbs), ()), ())) ?_ _ ⟨a.natAbs, b.natAbs, rfl, d1, d2, rfl⟩
 rintro i ⟨p, q, rfl, lp, lq, hg⟩
 unfold anP
 dsimp only
 by_cases hq : q = 0
 ·right
  subst hq
  refine uF (by rw [dig_zero]; rfl) ?_
  rw [← hg, Nat.gcd_zero_right]; rfl
 ·left
  have hql : 1 ≤ (dig q).length := by
   rcases zC (dig q).length with h5 | h5
   ·exact absurd (dig_nil_iff.1 (zU.1 h5)) hq
   ·exact h5
  refine ⟨(dig (p % q), dig q, ()), ?_, ⟨q, p % q, rfl, lq, ?_, ?_⟩, ?_, zd⟩
  ·refine uT sd (uC _ (ay3 lp lq hq) ?_)
   repeat refine za ?_
   rfl
  ·exact zw (acQ (Nat.le_of_lt (yy p (show 0 < q by omega)))) lq
  ·rw [← hg, xX p q, Nat.gcd_rec q p, xX]
  ·simp only [ahS, zm]
   exact yy p zb
theorem ag6 {a b : Int} (h1 : Bd 6 a.natAbs) (h2 : Bd 6 b.natAbs) (h3 : b ≠ 0) : aeN (pl a, pl b, ()) = some (pl (a / b), pl (a % b), ()) := aaN (enc := fun p : Int × Int => (pl p.1, pl p.2, ())) (a, b) ⟨h1, h2, h3⟩ (fun b hb => ajD hb)
theorem aS1 {a b : Int} (hb : b ≠ 0) : ∃ q r : Int, q.natAbs = a.natAbs / b.natAbs ∧ r.natAbs = a.natAbs % b.natAbs ∧ (q = 0 ∨ (!(decide (a < 0) == decide (b < 0))) = decide (q < 0)) ∧ (r = 0 ∨ decide (a < 0) = decide (r < 0)) ∧ (r < 0 → a / b = (if b < 0 then q + 1 else q - 1) ∧ a % b = r + b.natAbs) ∧ (¬ r < 0 → a / b = q ∧ a % b = r) := by
 refine ⟨Int.tdiv a b, Int.tmod a b, Int.natAbs_tdiv a b, xL a b, ?_, ?_, ?_, ?_⟩
 ·by_cases hz : Int.tdiv a b = 0
  ·exact Or.inl hz
  ·right
   rcases zP a 0 with c1 | c1 <;> rcases zP b 0 with c2 | c2
   ·have : 0 ≤ Int.tdiv a b := by
     rw [← Int.neg_tdiv_neg]; exact xD zb zb
    rw [zl c1, zl c2, zk zb]; rfl
   ·have : Int.tdiv a b ≤ 0 := by
     have := xD (a := -a) (b := b) zb c2
     rw [Int.neg_tdiv] at this; omega
    rw [zl c1, zk zb, zl zb]; rfl
   ·have : Int.tdiv a b ≤ 0 := by
     have := xD (a := a) (b := -b) c1 zb
     rw [Int.tdiv_neg] at this; omega
    rw [zk zb, zl c2, zl zb]; rfl
   ·have := xD c1 c2
    rw [zk zb, zk zb, zk zb]; rfl
 ·by_cases hz : Int.tmod a b = 0
  ·exact Or.inl hz
  ·right
   refine decide_eq_decide.2 ?_
   rcases zP a 0 with c1 | c1
   ·have : Int.tmod a b ≤ 0 := by
     have := xY (a := -a) b zb
     rw [Int.neg_tmod] at this; omega
    omega
   ·have := xY (a := a) b c1
    omega
 ·intro hr
  have ha : a < 0 := by
   rcases zP a 0 with c | c
   ·exact c
   ·have := xY (a := a) b c; omega
  have h1 := wx a b
  have h2 : (Int.tmod a b).natAbs < b.natAbs := by rw [xL]; exact yy _ zb
  generalize Int.tdiv a b = q at *
  generalize Int.tmod a b = r at *
  have key : ∀ q' r' : Int, r' + b * q' = a → 0 ≤ r' → r' < b.natAbs → a / b = q' ∧ a % b = r' := by
   intro q' r' e e1 e2
   have hr' : r' / b = 0 := by
    rcases zP b 0 with c | c
    ·have : r' / (-(-b)) = -(r' / -b) := Int.ediv_neg _ _
     rw [Int.neg_neg] at this
     rw [this, xm e1 zb]; rfl
    ·exact xm e1 zb
   have d1 : a / b = q' := by rw [← e, vj _ _ hb, hr', vw]
   refine ⟨d1, ?_⟩
   have := yq a b
   rw [d1] at this
   omega
  rcases zP b 0 with c | c
  ·rw [if_pos c]
   exact key _ _ (by rw [wi]; omega) zb zb
  ·rw [if_neg zb]
   exact key _ _ (by rw [Int.mul_sub]; omega) zb zb
 ·intro hr
  have h1 := wx a b
  have h2 : (Int.tmod a b).natAbs < b.natAbs := by rw [xL]; exact yy _ zb
  generalize Int.tdiv a b = q at *
  generalize Int.tmod a b = r at *
  have hr' : r / b = 0 := by
   rcases zP b 0 with c | c
   ·have : r / (-(-b)) = -(r / -b) := Int.ediv_neg _ _
    rw [Int.neg_neg] at this
    rw [this, xm zb zb]; rfl
   ·exact xm zb zb
  have d1 : a / b = q := by rw [← h1, vj _ _ hb, hr', vw]
  refine ⟨d1, ?_⟩
  have := yq a b
  rw [d1] at this
  omega
theorem aBX (x x' : PlT) (y) (h : aeN (x, x', ()) = some y) : (apQ x x').toO = some y := by
 obtain ⟨⟨a, b⟩, hp, hx, rfl⟩ := aaH h
 obtain ⟨rfl, hx2⟩ := Prod.mk.inj hx; obtain ⟨rfl, -⟩ := Prod.mk.inj hx2; dsimp only
 obtain ⟨l1, l2, l3⟩ := hp
 dsimp only at l1 l2 l3
 have d1 := avU l1 zb
 have d2 := avU l2 zb
 obtain ⟨q, r, hq, hr, sq, sr, hneg, hpos⟩ := aS1 (a := a) l3
 have bq : Bd 6 q.natAbs := by rw [hq]; exact aaL _ l1
 have br : Bd 6 r.natAbs := by rw [hr]; exact aa0 _ l1
 have i1 : aeI 1 := ⟨by omega, by omega⟩
 have b1 : Bd 7 (1 : Int).natAbs := aaG (aaD zf) zb
 unfold apQ
 dsimp only
 refine uC _ (ay3 d1 d2 zb) ?_
 refine uC (pl q, ()) (af2 (by rw [← hq]; exact am8 bq zb) hq.symm sq) ?_
 refine uC (pl r, ()) (af2 (by rw [← hr]; exact am8 br zb) hr.symm sr) ?_
 dsimp only
 by_cases c : r < 0
 ·obtain ⟨e1, e2⟩ := hneg c
  refine uT (zl c) ?_
  have hpb : agN (pl r, (false, dig b.natAbs, ()), ()) = some (pl (r + b.natAbs), ()) := by
   have := aoW (a := r) (b := (b.natAbs : Int)) (aaG br zb) (aaG l2 zb)
   unfold pl at this ⊢
   rwa [zk (show ¬ ((b.natAbs : Int) < 0) by omega), yc] at this
  refine uC _ hpb ?_
  rw [e1, e2]
  by_cases c2 : b < 0
  ·rw [if_pos c2]
   exact uT (zl c2) (uC _ (aeE i1) (uC _ (aoW (aaG bq zb) b1) rfl))
  ·rw [if_neg c2]
   exact uF (zk c2) (uC _ (aeE i1) (uC _ (ay6 (aaG bq zb) b1) rfl))
 ·obtain ⟨e1, e2⟩ := hpos c
  rw [e1, e2]
  exact uF (zk c) rfl
theorem ay5 {s : List UInt8} (h : s.length ≤ 1000000000000) : afW (s, ()) = some ((rdW s).isSome, ()) := by unfold afW; rw [if_pos h]
theorem aBW (a : List UInt8) (y) (h : afW (a, ()) = some y) : (apP a).toO = some y := by
 unfold afW at h
 split at h
 case isFalse => cases h
 case isTrue hl =>
 injection h with h
 subst h
 dsimp only at hl ⊢
 obtain ⟨j, t, b, hj, hat, hc⟩ : ∃ (j : Nat) (t : List UInt8) (b : Bool), j ≤ a.length ∧ (a.drop j = t ∧ (b = true ↔ j = 1) ∧ j ≤ 1 ∧ (∃ d : TT (ue ⊕ uG), True) ∧ ((TT.ite (decide (len a > 0)) (TT.need (asT Int 0 ≤ 0 ∧ 0 < len a) (TT.ite ((((gi a 0 0).toNat : Int)) == 45) (TT.ok (.inl (1, ()))) (TT.ok (.inl (0, ()))))) (TT.ok (.inl (0, ()))) : TT (ue ⊕ uG)).toO = some (.inl ((j : Int), ())))) ∧ acB (a, #[45].toList, ()) = some (t, b, ()) := by
  cases a with
  | nil => exact ⟨0, [], false, by simp, ⟨rfl, by simp, by omega, ⟨TT.bad, trivial⟩, uF rfl rfl⟩, rfl⟩
  | cons c a =>
   by_cases hcc : c = 45
   ·subst hcc
    refine ⟨1, a, true, by simp, ⟨rfl, by simp, by omega, ⟨TT.bad, trivial⟩, uT (by (try simp only [zX, xj, yA, xn, beq_eq_false_iff_ne, bne_eq_false_iff_eq, yh, xz]) <;> (try simp only [aaI, inb, inc, ge_iff_le, gt_iff_lt, zm, asT, ne_eq]) <;> simp) (uN ⟨by simp [asT], by (try simp only [aaI, inb, inc, ge_iff_le, gt_iff_lt, zm, asT, ne_eq]); simp⟩ (uT rfl rfl))⟩, ?_⟩
    simp [acB, List.isPrefixOf]
   ·refine ⟨0, c :: a, false, by simp, ⟨rfl, by simp, by omega, ⟨TT.bad, trivial⟩, uT (by (try simp only [zX, xj, yA, xn, beq_eq_false_iff_ne, bne_eq_false_iff_eq, yh, xz]) <;> (try simp only [aaI, inb, inc, ge_iff_le, gt_iff_lt, zm, asT, ne_eq]) <;> simp) (uN ⟨by simp [asT], by (try simp only [aaI, inb, inc, ge_iff_le, gt_iff_lt, zm, asT, ne_eq]); simp⟩ (uF ?_ rfl))⟩, ?_⟩
    ·rw [beq_eq_false_iff_ne]
     intro h
     exact hcc (UInt8.toNat_inj.1 (Int.ofNat.inj h))
    ·have : ¬ (45 = c) := fun h => hcc h.symm
     simp [acB, List.isPrefixOf, this]
 obtain ⟨ht, hb, hj1, -, hjoin⟩ := hat
 have htl : t.length = a.length - j := by rw [← ht]; simp
 have hget : ∀ k, a.getD (j + k) 0 = t.getD k 0 := by
  intro k; rw [← ht]; simp [yz, yD]
 have hnot : ¬ (isD t ∧ t ≠ [] ∧ t.length ≤ 600 ∧ (t.head? = some 48 → b = false ∧ t.length = 1)) → (rdW a).isSome = false := fun h => by rw [aJd hc h]; rfl
 have hyes : isD t → t ≠ [] → t.length ≤ 600 → (t.head? = some 48 → b = false ∧ t.length = 1) → (rdW a).isSome = true := fun h1 h2 h3 h4 => by
  obtain ⟨z, e1, -, -⟩ := aJc hc h1 h2 h3 h4
  rw [e1]; rfl
 unfold apP
 refine uL ((j : Int), ()) hjoin ?_
 unfold atO
 have hw : w64 (len a - (j : Int)) = (t.length : Int) := by rw [aaI, aaA zb]; omega
 simp only [hw]
 by_cases c1 : t = []
 ·rw [hnot (fun h => h.2.1 c1)]
  exact uR _ (uT (by rw [c1]; rfl) rfl)
 have hlen : 1 ≤ t.length := zM.2 c1
 by_cases c2 : t.length ≤ 600
 case neg =>
  rw [hnot (fun h => c2 h.2.2.1)]
  exact uR _ (uF sd (uT sd rfl))
 refine uL (false, ()) (uF sd (uF sd rfl)) ?_
 refine uO ((j : Int), ()) rfl ?_
 refine aaS (fun i : Int × Unit => ∃ k : Nat, i.1 = ((j + k : Nat) : Int) ∧ k ≤ t.length ∧ isD (t.take k)) (fun i => ((a.length : Int) - i.1).toNat) (fun _ => ((rdW a).isSome, ())) ?_ _ ⟨0, rfl, by omega, by simp [isD]⟩
 rintro ⟨i, u⟩ ⟨k, h3, h4, h5⟩
 simp only at h3
 subst h3
 simp only [atN, aaP, hget]
 rcases zv k t.length with hk | hk
 ·have e1 : t.getD k 0 = t[k] := by simp [hk]
  simp only [e1]
  by_cases d1 : t[k].toNat < 48
  ·right
   rw [hnot (fun h => by have := h.1 t[k] (yl hk); omega)]
   repeat refine za ?_
   rfl
  by_cases d2 : t[k].toNat > 57
  ·right
   rw [hnot (fun h => by have := h.1 t[k] (yl hk); omega)]
   repeat refine za ?_
   rfl
  ·left
   refine ⟨(((j + (k + 1) : Nat) : Int), ()), ?_, ⟨k + 1, rfl, by omega, ?_⟩, by simp only; omega, zd⟩
   ·repeat refine za ?_
    rw [aaQ, aaA (x := ((j + k : Nat) : Int) + 1) zb]; rfl
   ·rw [zN hk, isD_append]
    refine ⟨h5, fun c hc => ?_⟩
    have := yj.1 hc
    subst this
    omega
 ·right
  have hd : isD t := by rwa [zr hk] at h5
  have hg0 : a.getD j 0 = t.getD 0 0 := hget 0
  simp only [hg0]
  refine uF sd (uN ⟨by omega, by exact sn⟩ ?_)
  cases hct : t with
  | nil => exact absurd hct c1
  | cons c r =>
   rw [← hct]
   have hg : t.getD 0 0 = c := by rw [hct]; rfl
   simp only [hg]
   have hh : t.head? = some c := by rw [hct]; rfl
   by_cases c0 : c = 48
   ·subst c0
    refine uF rfl ?_
    show some (Sum.inr (len a == 1, ())) = _
    by_cases hl1 : a.length = 1
    ·rw [hyes hd c1 c2 (fun _ => ⟨by
      cases b with
      | false => rfl
      | true => have := hb.1 rfl; omega, by omega⟩)]
     rw [show (len a == 1) = true by rw [yA, aaI]; omega]
    ·rw [hnot (fun h => by
      obtain ⟨q1, q2⟩ := h.2.2.2 hh
      have : ¬ j = 1 := fun h => by rw [hb.2 h] at q1; cases q1
      omega)]
     rw [show (len a == 1) = false by rw [beq_eq_false_iff_ne, aaI]; omega]
   ·rw [hyes hd c1 c2 (fun h => by rw [hh] at h; injection h with h; exact absurd h c0)]
    refine uT ?_ rfl
    rw [xn]
    intro h
    exact c0 (UInt8.toNat_inj.1 (Int.ofNat.inj h))
theorem aBu {a t : List UInt8} {j : Nat} (hd : isD t) (hget : ∀ k, a.getD (j + k) 0 = t.getD k 0) {s i e : Nat} (h1 : s ≤ i) (h2 : i < e) (h3 : e ≤ t.length) (h4 : e - s ≤ 4) : w64 (w64 ((num ((t.take i).drop s) : Int) * 10) + w64 (wu8 (((a.getD (j + i) 0).toNat : Int) - 48))) = (num ((t.take (i + 1)).drop s) : Int) := by
 have hi : i < t.length := zb
 have e1 : t.getD i 0 = t[i] := by simp [hi]
 have e2 := hd t[i] (yl hi)
 have e3 := aCh (an4 (asB hd i) s)
 rw [as3 h1 zb] at e3
 have e4 : (10 : Nat) ^ (i - s) ≤ 10 ^ 3 := zO zb zb
 have e5 : dv t[i] = t[i].toNat - 48 := rfl
 rw [aFB h1 hi, alB, hget, e1, e5]
 rw [acE (x := (t[i].toNat : Int) - 48) zb, aaA (x := (t[i].toNat : Int) - 48) zb, aaA (x := (num ((t.take i).drop s) : Int) * 10) zb, aaA zb]
 omega
theorem aA4 {z : Int} (h : Fit z) : anC (dec z, ()) = some (pl z, ()) := aaN (enc := fun x : Int => (dec x, ())) z h (fun b hb => am4 (Prod.mk.inj hb).1)
theorem aJw (a : List UInt8) (y) (h : anC (a, ()) = some y) : (aEe a).toO = some y := by
 obtain ⟨z, hp, hx, rfl⟩ := aaH h
 obtain ⟨rfl, -⟩ := Prod.mk.inj hx
 clear h hx
 have hfit : (aa3 z.natAbs).length ≤ 600 := hp
 have hd := aoB z.natAbs
 have hn := anX z.natAbs
 have hne := afL z.natAbs
 obtain ⟨j, hj, hget, hlen, hjoin⟩ : ∃ j : Nat, (j = if z < 0 then 1 else 0) ∧ (∀ k, (dec z).getD (j + k) 0 = (aa3 z.natAbs).getD k 0) ∧ (dec z).length = j + (aa3 z.natAbs).length ∧ ((TT.need (asT Int 0 ≤ 0 ∧ 0 < len (dec z)) (TT.ite ((((gi (dec z) 0 0).toNat : Int)) == 45) (TT.ok (.inl (1, ()))) (TT.ok (.inl (0, ())))) : TT (ue ⊕ (PlT × Unit))).toO = some (.inl ((j : Int), ()))) := by
  by_cases c : z < 0
  ·rw [aiG c]
   refine ⟨1, by rw [if_pos c], fun k => by rw [yO]; simp, by simp; omega, uN ⟨by simp [asT], by (try simp only [aaI, inb, inc, ge_iff_le, gt_iff_lt, zm, asT, ne_eq]); simp⟩ (uT rfl rfl)⟩
  ·rw [acK zb]
   refine ⟨0, by rw [if_neg c], fun k => by rw [zp], by omega, uN ⟨by simp [asT], by exact sn⟩ (uF ?_ rfl)⟩
   have := adX z.natAbs
   cases hdn : aa3 z.natAbs with
   | nil => exact absurd hdn (ahP _)
   | cons c l =>
    rw [hdn] at this
    show ((c.toNat : Int) == 45) = false
    rw [beq_eq_false_iff_ne]
    intro h
    have hc : c = 45 := UInt8.toNat_inj.1 (Int.ofNat.inj h)
    rw [hc] at this
    exact this rfl
 have hj1 : j ≤ 1 := by rw [hj]; split <;> omega
 have hjb : ((j : Int) == 1) = decide (z < 0) := by
  by_cases c : z < 0
  ·rw [zl c, hj, if_pos c]; rfl
  ·rw [zk c, hj, if_neg c]; rfl
 generalize aa3 z.natAbs = t at *
 generalize dec z = a at *
 unfold aEe
 refine uL ((j : Int), ()) hjoin ?_
 refine uO ((a.length : Int), true, [], ()) rfl ?_
 refine aaS (fun i : Int × Bool × List Int × Unit => ∃ e : Nat, (i.1 = ((j + e : Nat) : Int) ∨ (e = 0 ∧ i.1 ≤ j ∧ -10 ≤ i.1)) ∧ e ≤ t.length ∧ Dg 10000 i.2.2.1 ∧ V 10000 i.2.2.1 + 10000 ^ i.2.2.1.length * num (t.take e) = z.natAbs ∧ i.2.2.1.length + e ≤ t.length ∧ (i.2.1 = true → i.2.2.1 = [])) (fun i => (i.1 + 20).toNat) (fun _ => (pl z, ())) ?_ _ ⟨t.length, Or.inl (show (a.length : Int) = _ by omega), zj _, arR _, by simp [V]; omega, by simp, fun _ => rfl⟩
 rintro ⟨e', f, l, u⟩ ⟨e, g1, g3, g4, g5, g6, g7⟩
 simp only at g1 g4 g5 g6 g7
 rcases zC e with he | he
 ·right
  subst he
  have hle : e' ≤ j := zb
  have hv : V 10000 l = z.natAbs := by simpa [aEq] using g5
  have hm : abO ((j : Int) == 1, l, ()) = some (pl z, ()) := av7 g4 zb hv (Or.inr hjb)
  cases f with
  | true =>
   obtain rfl := g7 rfl
   unfold anO
   exact uT rfl (uF (zk (show ¬ (e' > (j : Int)) by omega)) (uC _ hm rfl))
  | false =>
   unfold anO
   dsimp only
   rw [zu]
   exact uF rfl (uF (zk (show ¬ (e' > (j : Int)) by omega)) (uC _ hm rfl))
 ·left
  have he' : e' = ((j + e : Nat) : Int) := zb
  subst he'
  obtain ⟨s, hs, hs1, hs2, hs3, hs4⟩ : ∃ s : Nat, (if (j : Int) > w64 (((j + e : Nat) : Int) - 4) then (j : Int) else w64 (((j + e : Nat) : Int) - 4)) = ((j + s : Nat) : Int) ∧ s ≤ e ∧ e - s ≤ 4 ∧ (s = 0 ∨ s + 4 = e) ∧ s < e := by
   rw [aaA (x := ((j + e : Nat) : Int) - 4) zb]
   rcases zv e 4 with h9 | h9
   ·exact ⟨0, by rw [if_pos zb]; rfl, by omega, by omega, Or.inl rfl, by omega⟩
   ·exact ⟨e - 4, by rw [if_neg zb]; omega, by omega, by omega, Or.inr zb, by omega⟩
  have hseg := aKt (s := t) hs1 g3
  have hv := aCh (an4 (asB hd e) s)
  rw [as3 hs1 g3] at hv
  have hv4 : (10 : Nat) ^ (e - s) ≤ 10 ^ 4 := zO zb hs2
  have hw4 : w64 (((j + e : Nat) : Int) - 4) = ((j + e : Nat) : Int) - 4 := aaA zb
  generalize hX : num ((t.take e).drop s) = X at hseg hv
  have hD : Dg 10000 (l ++ [(X : Int)]) := aeZ g4 (ak6 zb zb)
  have hV1 : V 10000 (l ++ [(X : Int)]) + 10000 ^ (l ++ [(X : Int)]).length * (num (t.take s) : Int) = z.natAbs := by
   rw [aeL, aw1, ← g5, hseg, zo, yo, yu]
   rcases hs3 with h0 | h0
   ·subst h0; simp [aEq]
   ·rw [show e - s = 4 by omega]
    have : (((num (t.take s) * 10 ^ 4 + X : Nat)) : Int) = (num (t.take s) : Int) * 10000 + X := zh
    rw [this]
    grind
  have inv : (((j + e : Nat) : Int) - 4 = ((j + s : Nat) : Int) ∨ (s = 0 ∧ ((j + e : Nat) : Int) - 4 ≤ j ∧ -10 ≤ ((j + e : Nat) : Int) - 4)) := zb
  refine ⟨(((j + e : Nat) : Int) - 4, false, l ++ [(X : Int)], ()), ?_, ⟨s, inv, by omega, hD, hV1, by simp; omega, by simp⟩, by simp only; omega, zd⟩
  cases f with
  | false =>
   simp only [anO]
   refine uF rfl (uT sd (uO (((j + s : Nat) : Int), 0, ()) (by repeat refine za ?_; rw [hs]; rfl) ?_))
   refine aaS (fun i : Int × Int × Unit => ∃ q : Nat, s ≤ q ∧ q ≤ e ∧ i = (((j + q : Nat) : Int), (num ((t.take q).drop s) : Int), ())) (fun i => (((j + e : Nat) : Int) - i.1).toNat) (fun _ => (Sum.inl (((j + e : Nat) : Int) - 4, false, l ++ [(X : Int)], ()) : (Int × Bool × List Int × Unit) ⊕ (PlT × Unit))) ?_ _ ⟨s, zj _, hs1, by rw [yr zg]; rfl⟩
   rintro i ⟨q, h1, h2, rfl⟩
   rcases zv q e with hq | hq
   ·left
    refine ⟨(((j + (q + 1) : Nat) : Int), (num ((t.take (q + 1)).drop s) : Int), ()), ?_, ⟨q + 1, by omega, by omega, rfl⟩, by simp only; omega, zd⟩
    simp only [az2, aaP, aBu hd hget h1 hq g3 hs2]
    refine uT sd (uN ⟨by omega, by exact sn⟩ ?_)
    repeat refine za ?_
    rw [aaQ, aaA (x := ((j + q : Nat) : Int) + 1) zb]; rfl
   ·right
    have hqe : q = e := zb
    subst hqe
    simp only [az2, hX, zu, hw4]
    refine uF sd (uN zb ?_)
    repeat refine za ?_
    rfl
  | true =>
   obtain rfl := g7 rfl
   simp only [anO]
   refine uT rfl (uT sd (uO (((j + s : Nat) : Int), 0, ()) (by repeat refine za ?_; rw [hs]; rfl) ?_))
   refine aaS (fun i : Int × Int × Unit => ∃ q : Nat, s ≤ q ∧ q ≤ e ∧ i = (((j + q : Nat) : Int), (num ((t.take q).drop s) : Int), ())) (fun i => (((j + e : Nat) : Int) - i.1).toNat) (fun _ => (Sum.inl (((j + e : Nat) : Int) - 4, false, [(X : Int)], ()) : (Int × Bool × List Int × Unit) ⊕ (PlT × Unit))) ?_ _ ⟨s, zj _, hs1, by rw [yr zg]; rfl⟩
   rintro i ⟨q, h1, h2, rfl⟩
   rcases zv q e with hq | hq
   ·left
    refine ⟨(((j + (q + 1) : Nat) : Int), (num ((t.take (q + 1)).drop s) : Int), ()), ?_, ⟨q + 1, by omega, by omega, rfl⟩, by simp only; omega, zd⟩
    simp only [az3, aaP, aBu hd hget h1 hq g3 hs2]
    refine uT sd (uN ⟨by omega, by exact sn⟩ ?_)
    repeat refine za ?_
    rw [aaQ, aaA (x := ((j + q : Nat) : Int) + 1) zb]; rfl
   ·right
    have hqe : q = e := zb
    subst hqe
    simp only [az3, hX, hw4]
    refine uF sd (uN zb ?_)
    repeat refine za ?_
    rfl
theorem ayY {l : List Int} (h : Dg 10000 l) (k : Nat) : V 10000 (l.drop k) = V 10000 l / 10000 ^ k := by
 have h1 := acU 10000 l k
 have h2 := adQ zb h k
 have h3 := aaO zb (acT h k)
 rw [h1, vj _ _ (by have := az4 (show (1 : Int) ≤ 10000 by omega) k; omega), xm h3 h2, vw]
theorem aEf {R b top first P : Int} (hP : 0 < P) (hb0 : 0 < b) (htop : 10000 ≤ top) (hb1 : top * P ≤ b) (hb2 : b < (top + 1) * P) (hf1 : first * P ≤ R) (hf2 : R < (first + 1) * P) (hR0 : 0 ≤ R) (hR : R < b * 10000) (hf0 : 0 ≤ first) :
  (first / (top + 1)) * b ≤ R ∧ R < (first / top + 1) * b ∧ first / top + 1 ≤ 10001 ∧ 0 ≤ first / (top + 1) ∧ first ≤ 100000000000000 * top := by
 have g1 := yq first (top + 1)
 have g2 := xE first (show top + 1 ≠ 0 by omega)
 have g3 := yq first top
 have g4 := xy first (show 0 < top by omega)
 have g7 := xE first (show top ≠ 0 by omega)
 have g5 := xK hf0 (show 0 ≤ top + 1 by omega)
 have g6 := xK hf0 (show 0 ≤ top by omega)
 generalize first / (top + 1) = L at *
 generalize first / top = H at *
 generalize first % (top + 1) = m1 at *
 generalize first % top = m2 at *
 refine ⟨?_, ?_, ?_, g5, ?_⟩
 ·have a1 : L * b ≤ L * ((top + 1) * P) := zy zb g5
  have a2 : L * ((top + 1) * P) = ((top + 1) * L) * P := by grind
  have a3 : ((top + 1) * L) * P ≤ first * P := zI zb zb
  omega
 ·have a1 : (H + 1) * (top * P) ≤ (H + 1) * b := zy hb1 zb
  have a2 : (H + 1) * (top * P) = (top * H + top) * P := by grind
  have a3 : (first + 1) * P ≤ (top * H + top) * P := zI zb zb
  omega
 ·have a1 : first * P < ((top + 1) * 10000) * P := by
   have : b * 10000 < ((top + 1) * P) * 10000 := zb
   have e : ((top + 1) * P) * 10000 = ((top + 1) * 10000) * P := by grind
   omega
  have a2 : first < (top + 1) * 10000 := ye a1 zb
  have a3 : top * H < top * 10001 := zb
  have := yS a3 zb
  omega
 ·have a1 : first * P < ((top + 1) * 10000) * P := by
   have : b * 10000 < ((top + 1) * P) * 10000 := zb
   have e : ((top + 1) * P) * 10000 = ((top + 1) * 10000) * P := by grind
   omega
  have a2 : first < (top + 1) * 10000 := ye a1 zb
  omega
theorem aBP (m o : List Int) (y) (h : aiY (m, o, ()) = some y) : (apK m o).toO = some y := by
 obtain ⟨⟨a, b⟩, hn, hx, rfl⟩ := aaH h
 obtain ⟨rfl, hx2⟩ := Prod.mk.inj hx; obtain ⟨rfl, -⟩ := Prod.mk.inj hx2; dsimp only
 obtain ⟨la, lb, hb0⟩ := hn
 simp only at la lb hb0
 clear h hx hx2
 have hda := adW a
 have hdb := adW b
 have hVa := ahS a
 have hVb := ahS b
 have hbl : 1 ≤ (dig b).length := by
  rcases zC (dig b).length with h5 | h5
  ·exact absurd (dig_nil_iff.1 (zU.1 h5)) hb0
  ·exact h5
 unfold apK
 by_cases h1 : (dig b).length = 1
 ·-- one digit
  refine uT sd (uN ⟨by simp [asT], by exact sn⟩ ?_)
  have hb1 : b < 10000 := by have := dig_length_le_iff.1 (xT h1); simpa using this
  have hdb1 : dig b = [(b : Int)] := aLx hb0 hb1
  have hg : gi (dig b) 0 0 = (b : Int) := by rw [hdb1]; rfl
  rw [hg]
  refine uC _ (aMj zb zb hb1) ?_
  have hm := yy a (show 0 < b by omega)
  generalize a % b = r at hm ⊢
  refine uC (dig r, ()) (af8 (ak6 (show (0 : Int) ≤ (r : Int) by omega) (show (r : Int) < 10000 by omega)) zh (by simp [V])) rfl
 obtain ⟨n, hnl⟩ : ∃ n, (dig b).length = n + 2 := ⟨(dig b).length - 2, by omega⟩
 have w1 : w64 (len (dig b) - 1) = ((n + 1 : Nat) : Int) := by rw [aaI, hnl, aaA zb]; omega
 have w2 : w64 (((n + 1 : Nat) : Int) - 1) = ((n : Nat) : Int) := by rw [aaA zb]; omega
 have bge : 10000 ^ (n + 1) ≤ b := by have := atS (B := 10000) zb hb0; rw [show (arX 10000 b).length = n + 2 from hnl] at this; exact this
 refine uF sd ?_
 simp only [w1]
 by_cases h2 : (dig a).length ≤ n + 1
 ·-- the dividend is shorter
  refine uT sd (uN zb ?_)
  have hab : a < b := zR (dig_length_le_iff.1 h2) bge
  rw [aaQ, yQ hab, yv hab, dig_zero]
  simp
 have hq : ∃ M, (dig a).length = M + (n + 1) ∧ 0 < M := ⟨(dig a).length - (n + 1), by omega, by omega⟩
 obtain ⟨M, hM, hM0⟩ := hq
 have w3 : w64 (len (dig a) - ((n + 1 : Nat) : Int)) = (M : Int) := by rw [aaI, hM, aaA zb]; omega
 refine uF sd ?_
 simp only [w2, w3]
 refine uN sd (uN sd (uN zb (uN sd ?_)))
 simp only [zm]
 have htk : List.take ((dig a).length - M) ((dig a).drop M) = (dig a).drop M := zr zh
 simp only [htk]
 have htk2 : List.take (0 + ((dig a).drop M).length) (List.take 0 ([] : List Int) ++ (dig a).drop M) = (dig a).drop M := by rw [zp, List.take_zero, yX, zu]
 simp only [htk2]
 refine uN zg ?_
 have w4 : w64 ((M : Int) - 1) = (M : Int) - 1 := aaA zb
 refine uO ((M : Int) - 1, (dig a).drop M, List.replicate M 0, ()) ?_ ?_
 ·repeat refine za ?_
  rw [aaQ, w4]
 -- the first two digits of the divisor
 have dB1 := aa5 zb hdb (n + 1)
 have dB0 := aa5 zb hdb n
 have hBtop : 1 ≤ (dig b).getD (n + 1) 0 := by
  have hc := aGp b
  unfold Cn at hc
  rw [yR, hnl, show n + 2 - 1 = n + 1 by omega, zJ zb] at hc
  rw [ajL zb] at *
  rcases zP 0 (dig b)[n + 1] with h | h
  ·exact h
  ·exact absurd (by congr 1; omega) hc
 have htopV : V 10000 ((dig b).drop n) = (dig b).getD (n + 1) 0 * 10000 + (dig b).getD n 0 := by
  have e1 := aaR 10000 (dig b) n
  have e2 := aaR 10000 (dig b) (n + 1)
  have e3 := adK 10000 (l := dig b) (k := n + 1 + 1) zb
  omega
 have htop2 := ayY hdb n
 rw [hVb] at htop2
 have hwtop : w64 (w64 (gi (dig b) ((n + 1 : Nat) : Int) 0 * 10000) + gi (dig b) (n : Int) 0) = (dig b).getD (n + 1) 0 * 10000 + (dig b).getD n 0 := by
  rw [aaP, aaP, aaA (x := (dig b).getD (n + 1) 0 * 10000) zb, aaA zb]
 have hwtop1 : w64 ((dig b).getD (n + 1) 0 * 10000 + (dig b).getD n 0 + 1) = (dig b).getD (n + 1) 0 * 10000 + (dig b).getD n 0 + 1 := aaA zb
 have htop3 : 10000 ≤ (dig b).getD (n + 1) 0 * 10000 + (dig b).getD n 0 ∧ (dig b).getD (n + 1) 0 * 10000 + (dig b).getD n 0 < 100000000 := zb
 rw [← htopV] at htop3
 have hP : (0 : Int) < 10000 ^ n := yM zb
 have hbt1 : V 10000 ((dig b).drop n) * 10000 ^ n ≤ (b : Int) := by
  rw [htop2]; exact Int.ediv_mul_le _ zb
 have hbt2 : (b : Int) < (V 10000 ((dig b).drop n) + 1) * 10000 ^ n := by
  rw [htop2]; exact Int.lt_ediv_add_one_mul_self _ hP
 rw [← htopV] at hwtop hwtop1
 generalize htv : V 10000 ((dig b).drop n) = top at *
 clear htopV htop2 dB1 dB0 hBtop htv
 have hR0 : V 10000 ((dig a).drop M) < (b : Int) := by
  have := aIz zb (ac8 hda M)
  rw [yb, show (dig a).length - M = n + 1 by omega] at this
  have hb2 : ((10000 ^ (n + 1) : Nat) : Int) ≤ (b : Int) := Int.ofNat_le.2 bge
  rw [Int.natCast_pow] at hb2
  exact Int.lt_of_lt_of_le this hb2
 have hcR0 : Cn ((dig a).drop M) := by
  have hc := aGp a
  unfold Cn at hc ⊢
  rw [List.getLast?_drop, if_neg zb]
  exact hc
 refine aaS (fun i : Int × List Int × List Int × Unit => ∃ (k : Nat) (R : Nat), k ≤ M ∧ i.1 = (k : Int) - 1 ∧ i.2.1 = dig R ∧ R < b ∧ i.2.2.1.length = M ∧ Dg 10000 i.2.2.1 ∧ V 10000 ((dig a).drop k) = V 10000 (i.2.2.1.drop k) * b + R) (fun i => (i.1 + 1).toNat) (fun _ => (dig (a / b), dig (a % b), ())) ?_ _ ?_
 case refine_2 =>
  obtain ⟨R, hR⟩ := zE (aaO zb (ac8 hda M))
  refine ⟨M, R, zj _, rfl, aAE (ac8 hda M) hcR0 hR, by omega, by simp, agZ zb _, ?_⟩
  rw [hR, adK _ zh]; simp
 rintro ⟨i, r, q, u⟩ ⟨k, R, g1, g2, g3, g4, g5, g6, g7⟩
 dsimp only at g2 g3 g5 g6 g7
 subst g2 g3
 cases k with
 | zero =>
  right
  simp only [yE, hVa] at g7
  obtain ⟨v, hv⟩ := zE (aaO zb g6)
  rw [hv] at g7
  have h8 : a = v * b + R := by
   have : (a : Int) = ((v * b + R : Nat) : Int) := by simpa using g7
   exact Int.ofNat.inj this
  have h9 : a / b = v := by rw [h8, yO, wz _ _ zb, yQ zb, zp]
  have h10 : a % b = R := by rw [h8, yO, xM, yv zb]
  simp only [amJ, w1, w3, zm]
  refine uF sd (uC (dig v, ()) ?_ ?_)
  ·rw [zr zb]
   exact af8 g6 zb hv
  ·rw [aaQ, h9, h10]
 | succ j =>
  left
  have e6 : ((j + 1 : Nat) : Int) - 1 = (j : Int) := zb
  rw [e6]
  have da := aa5 zb hda j
  obtain ⟨d, hd⟩ := zE da.1
  have lR : (dig R).length ≤ n + 2 := by rw [← hnl]; exact acQ zb
  -- the next rest
  obtain ⟨R', hR'⟩ : ∃ R', R' = d + 10000 * R := ⟨_, rfl⟩
  have hR'b : R' < b * 10000 := zb
  have hcut : adE ((dig a).getD j 0 :: dig R, ()) = some (dig R', ()) := by
   rw [hd]
   refine af8 (aA8 ⟨by omega, by omega⟩ (adW R)) zg ?_
   simp only [V, ahS, hR']; simp
  have lR' : (dig R').length ≤ n + 3 := by
   rw [dig_length_le_iff]
   have := dig_length_le_iff.1 (xT hnl)
   rw [show n + 3 = (n + 2) + 1 by omega, yw]
   exact zR hR'b (zK _ (Nat.le_of_lt this))
  have hdR := adW R'
  have hVR := ahS R'
  -- its first three digits
  have hf := ayY hdR n
  rw [hVR] at hf
  have hf1 : V 10000 ((dig R').drop n) * 10000 ^ n ≤ (R' : Int) := by rw [hf]; exact Int.ediv_mul_le _ zb
  have hf2 : (R' : Int) < (V 10000 ((dig R').drop n) + 1) * 10000 ^ n := by rw [hf]; exact Int.lt_ediv_add_one_mul_self _ hP
  have hf0 := aaO zb (ac8 hdR n)
  obtain ⟨k1, k2, k3, k4, k5⟩ := aEf hP zb htop3.1 hbt1 hbt2 hf1 hf2 zb zb hf0
  have hfirst : abX (fun i1 => (ae0 (dig a) (dig b) ((j : Int), dig R, q, ()) (dig R', ()) i1).toO) (((n + 2 : Nat) : Int), 0, ()) = abX (fun i1 => (ae0 (dig a) (dig b) ((j : Int), dig R, q, ()) (dig R', ()) i1).toO) ((n : Int) - 1, V 10000 ((dig R').drop n), ()) := by
   have st : ∀ (t : Nat) (v : Int), n ≤ t → t ≤ n + 2 → v = V 10000 ((dig R').drop (t + 1)) → (ae0 (dig a) (dig b) ((j : Int), dig R, q, ()) (dig R', ()) ((t : Int), v, ())).toO = some (.inl ((t : Int) - 1, V 10000 ((dig R').drop t), ())) := by
    intro t v ht1 ht2 hv
    have e1 := aaR 10000 (dig R') t
    have e2 := aa5 zb hdR t
    have e3 := aaO zb (ac8 hdR (t + 1))
    have e4 : V 10000 ((dig R').drop (t + 1)) < 10000 ^ 2 := by
     have := aIz zb (ac8 hdR (t + 1))
     have h7 : (10000 : Int) ^ ((dig R').drop (t + 1)).length ≤ 10000 ^ 2 := aEh zb (by rw [yb]; omega)
     omega
    subst hv
    simp only [ae0, w1, w2, aaP]
    refine uT sd ?_
    by_cases ct : t < (dig R').length
    ·refine uT sd (uN sd ?_)
     repeat refine za ?_
     rw [aaQ, aaA (x := (t : Int) - 1) zb, aaA (x := V 10000 ((dig R').drop (t + 1)) * 10000) zb, aaA zb, e1, Int.add_comm, xg]
    ·refine uF sd ?_
     repeat refine za ?_
     rw [ahK zb] at e1
     rw [aaQ, aaA (x := (t : Int) - 1) zb, aaA zb, e1, vw, xg]
   have s1 := st (n + 2) 0 zb zb (by rw [adK _ zb])
   rw [show (((n + 2 : Nat) : Int)) - 1 = ((n + 1 : Nat) : Int) by omega] at s1
   rw [ab0 s1]
   have s2 := st (n + 1) _ zb zb rfl
   rw [show (((n + 1 : Nat) : Int)) - 1 = ((n : Nat) : Int) by omega] at s2
   rw [ab0 s2]
   rw [ab0 (st n _ zb zb rfl)]
  -- the search
  obtain ⟨Q, hQ⟩ : ∃ Q : Nat, Q = R' / b := ⟨_, rfl⟩
  have hQm := vl R' b
  have hQl := yy R' (show 0 < b by omega)
  rw [← hQ] at hQm
  have hQ4 : Q < 10000 := by
   rw [hQ, yV zb, yW]; exact hR'b
  have hRQ : (R' : Int) = (Q : Int) * b + ((R' % b : Nat) : Int) := by
   have : (R' : Int) = ((R' % b + b * Q : Nat) : Int) := by rw [hQm]
   rw [this]; simp; rw [xg]; omega
  have res : abX (fun i1 => (ae0 (dig a) (dig b) ((j : Int), dig R, q, ()) (dig R', ()) i1).toO) (((n + 2 : Nat) : Int), 0, ()) = some (Sum.inl ((j : Int) - 1, dig (R' % b), q.set j (Q : Int), ())) := by
   rw [hfirst]
   refine acY ?_
   simp only [ae0, w1, w2, hwtop, hwtop1]
   refine uF sd (uN zb (uN zb ?_))
   have hd1 : Int.tdiv (V 10000 ((dig R').drop n)) top = V 10000 ((dig R').drop n) / top := zQ hf0
   have hd2 : Int.tdiv (V 10000 ((dig R').drop n)) (top + 1) = V 10000 ((dig R').drop n) / (top + 1) := zQ hf0
   simp only [hd1, hd2]
   have hn1 := xK hf0 (show 0 ≤ top by omega)
   have hlow : V 10000 ((dig R').drop n) / (top + 1) ≤ Q := by
    have : V 10000 ((dig R').drop n) / (top + 1) * b < ((Q : Int) + 1) * b := by
     rw [Int.add_mul]; omega
    have := ye this zb
    omega
   have hhigh : (Q : Int) < V 10000 ((dig R').drop n) / top + 1 := by
    have : (Q : Int) * b < (V 10000 ((dig R').drop n) / top + 1) * b := zb
    exact ye this zb
   have wH : w64 (w64 (V 10000 ((dig R').drop n) / top) + 1) = V 10000 ((dig R').drop n) / top + 1 := by
    rw [aaA (x := V 10000 ((dig R').drop n) / top) zb, aaA zb]
   have wL : w64 (V 10000 ((dig R').drop n) / (top + 1)) = V 10000 ((dig R').drop n) / (top + 1) := aaA zb
   simp only [wH, wL]
   generalize V 10000 ((dig R').drop n) / top + 1 = H at *
   generalize V 10000 ((dig R').drop n) / (top + 1) = L at *
   refine uO (H, L, ()) (by repeat refine za ?_; rfl) ?_
   refine aaS (fun i2 : Int × Int × Unit => 0 ≤ i2.2.1 ∧ i2.2.1 ≤ Q ∧ (Q : Int) < i2.1 ∧ i2.1 ≤ 10001) (fun i2 => (i2.1 - i2.2.1).toNat) (fun _ => (.inr (.inl ((j : Int) - 1, dig (R' % b), q.set j (Q : Int), ())) : (Int × Int × Unit) ⊕ ((Int × List Int × List Int × Unit) ⊕ (List Int × List Int × Unit)))) ?_ _ ⟨k4, hlow, hhigh, k3⟩
   rintro ⟨hi, lo, u3⟩ ⟨c1, c2, c3, c4⟩
   dsimp only at c1 c2 c3 c4
   have wd : w64 (hi - lo) = hi - lo := aaA zb
   simp only [atH, wd]
   by_cases hgap : hi - lo > 1
   ·left
    have wm : w64 (Int.tdiv (w64 (lo + hi)) 2) = (lo + hi) / 2 := by
     rw [aaA (x := lo + hi) zb, zQ zb, aaA zb]
    simp only [wm]
    obtain ⟨mm, hmm⟩ := zE (show 0 ≤ (lo + hi) / 2 by omega)
    rw [hmm]
    have hmB : mm ≤ 10000 ∧ 1 ≤ mm := zb
    have hprod : ab5 (dig b, [(mm : Int)], ()) = some (dig (b * mm), ()) := by
     refine ak3 hdb ?_ zb zh (by rw [hVb]; simp [V])
     by_cases cm : mm = 10000
     ·right; rw [cm]; rfl
     ·left; exact ak6 zb zb
    have lbm : (dig (b * mm)).length ≤ 1000000000000 := by
     have : (dig (b * mm)).length ≤ (dig b).length + 2 := by
      rw [dig_length_le_iff, wY]
      have q1 := dig_length_le_iff.1 (zj (dig b).length)
      exact Nat.mul_lt_mul'' q1 zb
     omega
    have hcutp : adE (dig (b * mm), ()) = some (dig (b * mm), ()) := af8 (adW _) lbm (ahS _)
    obtain ⟨o1, o2⟩ := aFT (b * mm) R'
    have hle : aPq (dig (b * mm)) (dig R') ≤ 0 ↔ b * mm ≤ R' := zb
    have hmQ : b * mm ≤ R' ↔ mm ≤ Q := by
     rw [hQ, Nat.le_div_iff_mul_le zb, yW]
    by_cases cm : mm ≤ Q
    ·refine ⟨(hi, (mm : Int), ()), ?_, ⟨by dsimp only; omega, by dsimp only; omega, c3, c4⟩, by dsimp only; omega, zd⟩
     refine uT (zl hgap) (uV ?_)
     refine uC _ hprod (uC _ hcutp (uC _ (aqQ _ _ (adW _) (adW _) lbm zb) (uT (zl (hle.2 (hmQ.2 cm))) ?_)))
     repeat refine za ?_
     rfl
    ·refine ⟨((mm : Int), lo, ()), ?_, ⟨c1, c2, by dsimp only; omega, by dsimp only; omega⟩, by dsimp only; omega, zd⟩
     refine uT (zl hgap) (uV ?_)
     refine uC _ hprod (uC _ hcutp (uC _ (aqQ _ _ (adW _) (adW _) lbm zb) (uF (zk (fun h => cm (hmQ.1 (hle.1 h)))) ?_)))
     repeat refine za ?_
     rfl
   ·right
    have hlQ : lo = Q := zb
    subst hlQ
    refine uF (zk hgap) ?_
    simp only [w1, w3, zm]
    refine uN ⟨by omega, by omega⟩ ?_
    have hprod : ab5 (dig b, [(Q : Int)], ()) = some (dig (b * Q), ()) := ak3 hdb (Or.inl (ak6 zb zb)) zb zh (by rw [hVb]; simp [V])
    have hdiff : abJ (dig R', dig (b * Q), ()) = some (dig (R' % b), ()) := by
     have := ak4 (a := dig R') (b := dig (b * Q)) (n := R' % b) (adW _) (adW _) zb (acQ zb) (by rw [ahS, ahS]; omega) (by rw [ahS, ahS]; omega)
     exact this
    refine uC _ hprod (uC _ hdiff ?_)
    repeat refine za ?_
    rw [aaQ, aaA (x := (j : Int) - 1) zb, zp]
  refine ⟨((j : Int) - 1, dig (R' % b), q.set j (Q : Int), ()), ?_, ⟨j, R' % b, by omega, rfl, rfl, hQl, by simp; omega, ai5 g6 ⟨by omega, by omega⟩ _, ?_⟩, by dsimp only; omega, zd⟩
  ·simp only [amJ, aaP, w1]
   have htk3 : List.take (1 + (dig R).length) ([(dig a).getD j 0] ++ dig R) = (dig a).getD j 0 :: dig R := by
    rw [zr zg]; rfl
   simp only [htk3]
   have w5 : w64 (((n + 1 : Nat) : Int) + 1) = ((n + 2 : Nat) : Int) := by rw [aaA zb]; omega
   simp only [w5]
   refine uT sd (uN sd (uN zb (uC _ hcut ?_)))
   refine uO (((n + 2 : Nat) : Int), 0, ()) (by repeat refine za ?_; rfl) ?_
   exact res
  ·dsimp only
   rw [aaR 10000 (dig a) j, hd, g7, aaR 10000 (q.set j _) j, amU zb, ahN _ zb]
   have : (d : Int) + 10000 * (V 10000 (q.drop (j + 1)) * b + R) = 10000 * (V 10000 (q.drop (j + 1)) * b) + R' := by rw [hR']; simp; grind
   rw [this, hRQ]
   grind
theorem ar5 {p q : Rat × Rat} (h : (ra p.1, ra p.2, ()) = (ra q.1, ra q.2, ())) : p = q := by
 obtain ⟨h1, h2⟩ := Prod.mk.inj h
 obtain ⟨h2, -⟩ := Prod.mk.inj h2
 exact Prod.ext (aBz h1) (aBz h2)
theorem arG (n d : Int) (hd : d ≠ 0) : ∃ s : Int, s.natAbs = n.natAbs ∧ Rat.divInt n d = mkRat s d.natAbs ∧ s = (if d < 0 then -n else n) := by
 rcases zP d 0 with c | c
 ·refine ⟨-n, by omega, ?_, by rw [if_pos c]⟩
  rw [← Rat.neg_divInt_neg, ← xw]
  congr 1; omega
 ·refine ⟨n, rfl, ?_, by rw [if_neg zb]⟩
  rw [← xw]
  congr 1; omega
theorem ayW {k : Nat} {n d : Int} (hd : d ≠ 0) (h1 : Bd k n.natAbs) (h2 : Bd k d.natAbs) : BdQ k (Rat.divInt n d) := by
 obtain ⟨s, e1, e2, -⟩ := arG n d hd
 obtain ⟨g, t, hg, g0, e0, f1, f2⟩ := ae1 s (d := d.natAbs) zb
 rw [e2]
 refine ⟨?_, ?_⟩
 ·rw [f1, ← adJ e0 g0, e1]; exact aaL _ h1
 ·rw [f2]; exact aaL _ h2
theorem ahU {n d : Int} (h1 : Bd 6 n.natAbs) (h2 : Bd 6 d.natAbs) (h3 : d ≠ 0) : aeB (pl n, pl d, ()) = some (ra (Rat.divInt n d), ()) := aaN (enc := fun x : Int × Int => (pl x.1, pl x.2, ())) (n, d) ⟨h1, h2, h3⟩ (fun b hb => ajD hb)
theorem aEv {s : Int} {d : Nat} (hd : d ≠ 0) (h1 : Bd 6 s.natAbs) (h2 : Bd 6 d) : ∃ g : Nat, g = Nat.gcd s.natAbs d ∧ g ≠ 0 ∧ Bd 6 g ∧ s / (g : Int) = (mkRat s d).num ∧ (d : Int) / (g : Int) = ((mkRat s d).den : Int) := by
 obtain ⟨g, t, hg, g0, e0, f1, f2⟩ := ae1 s hd
 refine ⟨g, hg, g0, by rw [hg]; exact aaY h1 h2, ?_, ?_⟩
 ·rw [f1, e0, Int.mul_ediv_cancel_left _ zb]
 ·rw [f2]; simp
theorem azX (x x' : PlT) (y) (h : aeB (x, x', ()) = some y) : (amG x x').toO = some y := by
 obtain ⟨⟨n, d⟩, hp, hx, rfl⟩ := aaH h
 obtain ⟨rfl, hx2⟩ := Prod.mk.inj hx; obtain ⟨rfl, -⟩ := Prod.mk.inj hx2; dsimp only
 obtain ⟨l1, l2, l3⟩ := hp
 dsimp only at l1 l2 l3
 obtain ⟨s, e1, e2, e3⟩ := arG n d l3
 obtain ⟨g, hg, g0, bg, q1, q2⟩ := aEv (s := s) (d := d.natAbs) zb (by rw [e1]; exact l1) l2
 rw [e2]
 unfold amG
 dsimp only
 have hgcd : Nat.gcd s.natAbs d.natAbs = g := hg.symm
 have g0' : (g : Int) ≠ 0 := zb
 by_cases c : d < 0
 ·rw [if_pos c] at e3
  subst e3
  refine uT (zl c) ?_
  refine uC _ (av8 (aaG l1 zb)) (uC _ (av8 (aaG l2 zb)) ?_)
  have hdv := ak5 (a := -n) (b := -d) (aaT (aaG l1 zb)) (aaT (aaG l2 zb))
  rw [wV d, hgcd] at hdv
  refine uC _ hdv ?_
  refine uC _ (ag6 (b := (g : Int)) (aaT l1) bg g0') ?_
  refine uC _ (ag6 (b := (g : Int)) (aaT l2) bg g0') ?_
  rw [q1, show -d = (d.natAbs : Int) by omega, q2]; rfl
 ·rw [if_neg c] at e3
  subst e3
  refine uF (zk c) ?_
  have hdv := ak5 (a := s) (b := d) (aaG l1 zb) (aaG l2 zb)
  rw [hgcd] at hdv
  refine uC _ hdv ?_
  refine uC _ (ag6 (b := (g : Int)) l1 bg g0') ?_
  refine uC _ (ag6 (b := (g : Int)) l2 bg g0') ?_
  rw [q1, show d = (d.natAbs : Int) by omega, yc, q2]; rfl
theorem aGb {n : Int} (h : aeI n) : Bd 0 n.natAbs := aaD (by have := h.1; have := h.2; omega)
theorem aqP {n d : Int} (h1 : aeI n) (h2 : aeI d) (h3 : d ≠ 0) : ag4 (n, d, ()) = some (ra (Rat.divInt n d), ()) := aaN (enc := fun x : Int × Int => (x.1, x.2, ())) (n, d) ⟨h1, h2, h3⟩ (fun b hb => by
 obtain ⟨e1, e2⟩ := Prod.mk.inj hb
 obtain ⟨e2, -⟩ := Prod.mk.inj e2
 exact Prod.ext e1 e2)
theorem aBH (n d : Int) (y) (h : ag4 (n, d, ()) = some y) : (axJ n d).toO = some y := by
 obtain ⟨⟨n', d'⟩, hp, hx, rfl⟩ := aaH h
 obtain ⟨rfl, hx2⟩ := Prod.mk.inj hx; obtain ⟨rfl, -⟩ := Prod.mk.inj hx2; dsimp only
 obtain ⟨l1, l2, l3⟩ := hp
 exact uC _ (aeE l1) (uC _ (aeE l2) (uC _ (ahU (aaG (aGb l1) zb) (aaG (aGb l2) zb) l3) rfl))
theorem adL {s : FxT} (h : shF s) : abR (s, ()) = some ((rdF s).isSome, ()) := by unfold abR; rw [if_pos h]
theorem aBG (a : FxT) (y) (h : abR (a, ()) = some y) : (apJ a).toO = some y := by
 unfold abR at h
 split at h
 case isFalse => cases h
 case isTrue hl =>
 injection h with h
 subst h
 obtain ⟨s, t, u⟩ := a
 obtain ⟨l1, l2⟩ := hl
 dsimp only at l1 l2 ⊢
 have hs := aOW s t
 unfold apJ
 refine uC _ (ay5 l1) ?_
 cases hn : rdW s with
 | none =>
  rw [hn] at hs
  rw [show rdF (s, t, u) = none from hs]
  exact uT rfl rfl
 | some n =>
  refine uF rfl (uC _ (ay5 l2) ?_)
  cases hd : rdW t with
  | none =>
   rw [hn, hd] at hs
   rw [show rdF (s, t, u) = none from hs]
   exact uT rfl rfl
  | some d =>
   rw [hn, hd] at hs
   dsimp only at hs
   obtain ⟨f1, rfl⟩ := agR hn
   obtain ⟨f2, rfl⟩ := agR hd
   have b1 := aoF f1
   have b2 := aoF f2
   refine uF rfl (uC _ (aA4 f1) (uC _ (aA4 f2) ?_))
   dsimp only
   by_cases hp : 0 < d
   case neg =>
    rw [dif_neg (fun h => hp h.1)] at hs
    rw [show rdF (dec n, dec d, u) = none from hs]
    by_cases c : d < 0
    ·exact uT (zl c) rfl
    ·have : d = 0 := zb
     subst this
     exact uF rfl (uT (by rw [wg, dig_zero]; rfl) rfl)
   refine uF sd (uF ?_ ?_)
   ·rw [beq_eq_false_iff_ne, aaI]
    intro h
    have := dig_nil_iff.1 (zU.1 (show (dig d.natAbs).length = 0 by omega))
    omega
   have hdv := ak5 (a := n) (b := d) (aaG b1 zb) (aaG b2 zb)
   refine uC _ hdv (uC _ (av9 (aaG (aaY b1 b2) zb)) ?_)
   have h1 : aa3 1 = #[49].toList := by rw [ab2 zb]; rfl
   rw [aaQ, ajR]
   by_cases hcop : n.natAbs.Coprime d.natAbs
   ·rw [dif_pos ⟨hp, hcop⟩] at hs
    rw [show rdF (dec n, dec d, u) = some _ from hs]
    have : Nat.gcd n.natAbs d.natAbs = 1 := hcop
    rw [this, h1]; rfl
   ·rw [dif_neg (fun h => hcop h.2)] at hs
    rw [show rdF (dec n, dec d, u) = none from hs]
    have : (aa3 (Nat.gcd n.natAbs d.natAbs) == #[49].toList) = false := by
     rw [beq_eq_false_iff_ne]
     exact fun h => hcop (asE (h.trans h1.symm))
    rw [this]; rfl
theorem aBN (a : FxT) (y) (h : ag5 (a, ()) = some y) : (axL a).toO = some y := by
 unfold ag5 at h
 split at h
 case isFalse => cases h
 case isTrue hl =>
 unfold adS at h
 dsimp only at h hl
 refine uC _ (adL hl) ?_
 cases ha : rdF a with
 | none => simp only [ha] at h; exact uT rfl h
 | some q => simp only [ha] at h; exact uF rfl h
theorem aiK {q : Rat} (h : aiB q) : afU (fx q, ()) = some (ra q, ()) := aaN (enc := fun x : Rat => (fx x, ())) q h (fun b hb => aPz (Prod.mk.inj hb).1)
theorem aJn (a : FxT) (y) (h : afU (a, ()) = some y) : (aJm a).toO = some y := by
 obtain ⟨q, hp, hx, rfl⟩ := aaH h
 obtain ⟨rfl, -⟩ := Prod.mk.inj hx
 refine uC _ (aA4 hp.1) (uC (pl q.den, ()) ?_ rfl)
 have := aA4 hp.2
 rwa [ajR] at this
theorem asM {q : Rat} (h : BdQ 6 q) : ajZ (ra q, ()) = some (wrF q) := aaN (enc := fun x : Rat => (ra x, ())) q h (fun b hb => aBz (Prod.mk.inj hb).1)
theorem aG6 (x : RaT) (y) (h : ajZ (x, ()) = some y) : (aFI x).toO = some y := by
 obtain ⟨q, hp, hx, rfl⟩ := aaH h
 obtain ⟨rfl, -⟩ := Prod.mk.inj hx
 refine uC _ (aA3 hp.1) (uC _ (aA3 (z := (q.den : Int)) hp.2) ?_)
 by_cases c1 : Fit q.num
 ·rw [asO c1]
  by_cases c2 : Fit q.den
  ·rw [aoZ ⟨c1, c2⟩, asO c2]
   refine uF rfl (uF rfl ?_)
   rw [aaQ, ajR]
  ·rw [azC (fun h => c2 h.2), azB c2]
   exact uF rfl (uT rfl rfl)
 ·rw [azB c1, azC (fun h => c1 h.1)]
  exact uT rfl rfl
theorem aDn {p q : Rat} (h1 : BdQ 3 p) (h2 : BdQ 3 q) : ak0 (ra p, ra q, ()) = some (ra (p + q), ()) := aaN (enc := fun x : Rat × Rat => (ra x.1, ra x.2, ())) (p, q) ⟨h1, h2⟩ (fun b hb => ar5 hb)
theorem aDY (x x' : RaT) (y) (h : ak0 (x, x', ()) = some y) : (aBI x x').toO = some y := by
 obtain ⟨⟨p, q⟩, hp, hx, rfl⟩ := aaH h
 obtain ⟨rfl, hx2⟩ := Prod.mk.inj hx; obtain ⟨rfl, -⟩ := Prod.mk.inj hx2; dsimp only
 obtain ⟨⟨p1, p2⟩, q1, q2⟩ := hp
 dsimp only at p1 p2 q1 q2
 have t1 := aaB p1 (aaK q2)
 have t2 := aaB q1 (aaK p2)
 have t3 := aaB (aaK p2) (aaK q2)
 refine uC _ (adV (aaG p1 zb) (aaK (aaG q2 zb))) ?_
 refine uC _ (adV (aaG q1 zb) (aaK (aaG p2 zb))) ?_
 refine uC _ (aoW (aaG t1 zb) (aaG t2 zb)) ?_
 refine uC _ (adV (a := (p.den : Int)) (b := (q.den : Int)) (aaK (aaG p2 zb)) (aaK (aaG q2 zb))) ?_
 have hd : (p.den : Int) * (q.den : Int) ≠ 0 := by
  have := yP p.den_nz q.den_nz
  rw [← yH]; omega
 refine uC _ (ahU (aaG (aaC t1 t2) zb) (aaG t3 zb) hd) ?_
 have : Rat.divInt (p.num * q.den + q.num * p.den) ((p.den : Int) * q.den) = p + q := by
  rw [← yH, xw, Rat.add_def']
 rw [this]; rfl
theorem ay1 {p q : Rat} (h1 : BdQ 3 p) (h2 : BdQ 3 q) : aiW (ra p, ra q, ()) = some (ra (p * q), ()) := aaN (enc := fun x : Rat × Rat => (ra x.1, ra x.2, ())) (p, q) ⟨h1, h2⟩ (fun b hb => ar5 hb)
theorem aBF (x x' : RaT) (y) (h : aiW (x, x', ()) = some y) : (axG x x').toO = some y := by
 obtain ⟨⟨p, q⟩, hp, hx, rfl⟩ := aaH h
 obtain ⟨rfl, hx2⟩ := Prod.mk.inj hx; obtain ⟨rfl, -⟩ := Prod.mk.inj hx2; dsimp only
 obtain ⟨⟨p1, p2⟩, q1, q2⟩ := hp
 dsimp only at p1 p2 q1 q2
 refine uC _ (adV (aaG p1 zb) (aaG q1 zb)) ?_
 refine uC _ (adV (a := (p.den : Int)) (b := (q.den : Int)) (aaK (aaG p2 zb)) (aaK (aaG q2 zb))) ?_
 have hd : (p.den : Int) * (q.den : Int) ≠ 0 := by
  have := yP p.den_nz q.den_nz
  rw [← yH]; omega
 refine uC _ (ahU (aaG (aaB p1 q1) zb) (aaG (aaB (aaK p2) (aaK q2)) zb) hd) ?_
 have : Rat.divInt (p.num * q.num) ((p.den : Int) * q.den) = p * q := by
  rw [← yH, xw, Rat.mul_def']
 rw [this]; rfl
theorem aMf {p q : Rat} (h1 : BdQ 3 p) (h2 : BdQ 3 q) (h3 : q ≠ 0) : aoK (ra p, ra q, ()) = some (ra (p / q), ()) := aaN (enc := fun x : Rat × Rat => (ra x.1, ra x.2, ())) (p, q) ⟨h1, h2, h3⟩ (fun b hb => ar5 hb)
theorem aDZ (x x' : RaT) (y) (h : aoK (x, x', ()) = some y) : (aBJ x x').toO = some y := by
 obtain ⟨⟨p, q⟩, hp, hx, rfl⟩ := aaH h
 obtain ⟨rfl, hx2⟩ := Prod.mk.inj hx; obtain ⟨rfl, -⟩ := Prod.mk.inj hx2; dsimp only
 obtain ⟨⟨p1, p2⟩, ⟨q1, q2⟩, q0⟩ := hp
 dsimp only at p1 p2 q1 q2 q0
 refine uC _ (adV (aaG p1 zb) (aaK (aaG q2 zb))) ?_
 refine uC _ (adV (a := (p.den : Int)) (b := q.num) (aaK (aaG p2 zb)) (aaG q1 zb)) ?_
 have hn := aF1 q0
 have hd : (p.den : Int) * q.num ≠ 0 := Int.mul_ne_zero (by have := p.den_nz; omega) hn
 refine uC _ (ahU (aaG (aaB p1 (aaK q2)) zb) (aaG (aaB (aaK p2) q1) zb) hd) ?_
 have : Rat.divInt (p.num * q.den) ((p.den : Int) * q.num) = p / q := by
  rw [Rat.div_def, ← Rat.divInt_mul_divInt, Rat.num_divInt_den, ← Rat.inv_divInt, Rat.num_divInt_den]
 rw [this]; rfl
theorem ay2 {p q : Rat} (h1 : BdQ 3 p) (h2 : BdQ 3 q) : aiX (ra p, ra q, ()) = some (aDu p q, ()) := aaN (enc := fun x : Rat × Rat => (ra x.1, ra x.2, ())) (p, q) ⟨h1, h2⟩ (fun b hb => ar5 hb)
theorem aBK (x x' : RaT) (y) (h : aiX (x, x', ()) = some y) : (axK x x').toO = some y := by
 obtain ⟨⟨p, q⟩, hp, hx, rfl⟩ := aaH h
 obtain ⟨rfl, hx2⟩ := Prod.mk.inj hx; obtain ⟨rfl, -⟩ := Prod.mk.inj hx2; dsimp only
 obtain ⟨⟨p1, p2⟩, q1, q2⟩ := hp
 dsimp only at p1 p2 q1 q2
 refine uC _ (adV (aaG p1 zb) (aaK (aaG q2 zb))) ?_
 refine uC _ (adV (aaG q1 zb) (aaK (aaG p2 zb))) ?_
 refine uC _ (aIB (aaG (aaB p1 (aaK q2)) zb) (aaG (aaB q1 (aaK p2)) zb)) ?_
 rw [aEj, Int.sub_eq_add_neg]; rfl
theorem aMg {q : Rat} (h : BdQ 6 q) : aoL (ra q, ()) = some (pl (fl q), ()) := aaN (enc := fun x : Rat => (ra x, ())) q h (fun b hb => aBz (Prod.mk.inj hb).1)
theorem aD2 (x : RaT) (y) (h : aoL (x, ()) = some y) : (aBM x).toO = some y := by
 obtain ⟨q, hp, hx, rfl⟩ := aaH h
 obtain ⟨rfl, -⟩ := Prod.mk.inj hx
 exact uC _ (ag6 hp.1 (b := (q.den : Int)) hp.2 (by have := q.den_nz; omega)) rfl
theorem aJl (n d : Int) (y) (h : av2 (n, d, ()) = some y) : (aD0 n d).toO = some y := by
 unfold av2 aoT at h
 split at h
 case isFalse => cases h
 case isTrue hp =>
 obtain ⟨i1, i2⟩ := hp
 dsimp only at i1 i2 h
 unfold ofQ at h
 unfold aD0
 by_cases c : d = 0
 ·rw [if_pos c] at h
  exact uT (by rw [c]; rfl) h
 ·rw [if_neg c] at h
  refine uF (by simpa using c) (uC _ (aqP i1 i2 c) (uC _ (asM (ayW c (aaG (aGb i1) zb) (aaG (aGb i2) zb))) h))
theorem aHc (a b : FxT) (y) (h : adC (a, b, ()) = some y) : (aFM a b).toO = some y := by
 unfold adC at h
 split at h
 case isFalse => cases h
 case isTrue hp =>
 obtain ⟨s1, s2⟩ := hp
 unfold aiJ aPs at h
 dsimp only at h s1 s2
 refine uC _ (adL s1) ?_
 cases ha : rdF a with
 | none => simp only [ha] at h; exact uT rfl h
 | some p =>
  refine uF rfl (uC _ (adL s2) ?_)
  cases hb : rdF b with
  | none => simp only [ha, hb] at h; exact uT rfl h
  | some q =>
   simp only [ha, hb] at h
   refine uF rfl ?_
   have b1 := afG ha
   have b2 := afG hb
   obtain ⟨f1, rfl⟩ := ac1 ha
   obtain ⟨f2, rfl⟩ := ac1 hb
   refine uC _ (aiK f1) (uC _ (aiK f2) ?_)
   exact uC _ (aDn (acR b1 zb) (acR b2 zb)) (uC _ (asM (acR (aFe b1 b2) zb)) h)
theorem aG8 (a b : FxT) (y) (h : abW (a, b, ()) = some y) : (aFJ a b).toO = some y := by
 unfold abW at h
 split at h
 case isFalse => cases h
 case isTrue hp =>
 obtain ⟨s1, s2⟩ := hp
 unfold af1 aPs at h
 dsimp only at h s1 s2
 refine uC _ (adL s1) ?_
 cases ha : rdF a with
 | none => simp only [ha] at h; exact uT rfl h
 | some p =>
  refine uF rfl (uC _ (adL s2) ?_)
  cases hb : rdF b with
  | none => simp only [ha, hb] at h; exact uT rfl h
  | some q =>
   simp only [ha, hb] at h
   refine uF rfl ?_
   have b1 := afG ha
   have b2 := afG hb
   obtain ⟨f1, rfl⟩ := ac1 ha
   obtain ⟨f2, rfl⟩ := ac1 hb
   refine uC _ (aiK f1) (uC _ (aiK f2) ?_)
   exact uC _ (ay1 (acR b1 zb) (acR b2 zb)) (uC _ (asM (acR (avT b1 b2) zb)) h)
theorem aHa (a b : FxT) (y) (h : aoM (a, b, ()) = some y) : (aFL a b).toO = some y := by
 unfold aoM at h
 split at h
 case isFalse => cases h
 case isTrue hp =>
 obtain ⟨s1, s2⟩ := hp
 unfold ae4 at h
 dsimp only at h s1 s2
 refine uC _ (adL s1) ?_
 cases ha : rdF a with
 | none => simp only [ha] at h; exact uT rfl h
 | some p =>
  refine uF rfl (uC _ (adL s2) ?_)
  cases hb : rdF b with
  | none => simp only [ha, hb] at h; exact uT rfl h
  | some q =>
   simp only [ha, hb] at h
   refine uF rfl ?_
   have b1 := afG ha
   have b2 := afG hb
   obtain ⟨f1, rfl⟩ := ac1 ha
   obtain ⟨f2, rfl⟩ := ac1 hb
   exact uC _ (aiK f1) (uC _ (aiK f2) (uC _ (ay2 (acR b1 zb) (acR b2 zb)) h))
theorem aG9 (a b : FxT) (y) (h : adB (a, b, ()) = some y) : (aFK a b).toO = some y := by
 unfold adB at h
 split at h
 case isFalse => cases h
 case isTrue hp =>
 obtain ⟨s1, s2⟩ := hp
 unfold aiI at h
 dsimp only at h s1 s2
 refine uC _ (adL s1) ?_
 cases ha : rdF a with
 | none => simp only [ha] at h; exact uT rfl h
 | some p =>
  refine uF rfl (uC _ (adL s2) ?_)
  cases hb : rdF b with
  | none => simp only [ha, hb] at h; exact uT rfl h
  | some q =>
   simp only [ha, hb] at h
   refine uF rfl ?_
   have b1 := afG ha
   have b2 := afG hb
   obtain ⟨f1, rfl⟩ := ac1 ha
   obtain ⟨f2, rfl⟩ := ac1 hb
   have h0 : aa3 0 = #[48].toList := by rw [ab2 zb]; rfl
   by_cases c : q = 0
   ·rw [if_pos c] at h
    refine uT ?_ h
    rw [c]
    show (dec 0 == #[48].toList) = true
    rw [acK zb, wg, h0]; rfl
   ·rw [if_neg c] at h
    refine uF ?_ ?_
    ·rw [beq_eq_false_iff_ne]
     intro h2
     have h3 : dec q.num = #[48].toList := h2
     have : dec q.num = dec 0 := by rw [h3, acK (z := 0) zb, wg, h0]
     exact aF1 c (am4 this)
    refine uC _ (aiK f1) (uC _ (aiK f2) ?_)
    refine uC _ (aMf (acR b1 zb) (acR b2 zb) c) (uC _ (asM ?_) h)
    rw [Rat.div_def]
    exact acR (avT b1 (aFd b2 c)) zb
theorem ayG {q : Rat} (h : aiB q) : shF (fx q) := by
 have h1 : (aa3 q.num.natAbs).length ≤ 600 := h.1
 have h2 : (aa3 q.den).length ≤ 600 := h.2
 have h3 := afJ q.num
 exact ⟨by show (dec q.num).length ≤ _; omega, by show (aa3 q.den).length ≤ _; omega⟩
theorem aQ1 {q : Rat} (h : aiB q) : BdQ 3 q := ⟨aaG (aoF h.1) zb, aaG (aoF h.2) zb⟩
theorem aOR {q : Rat} (h : aiB q) : shF (fx q) := by
 obtain ⟨h1, h2⟩ := h
 unfold Fit at h1 h2
 refine ⟨?_, ?_⟩
 ·show (dec q.num).length ≤ 1000000000000
  have := afJ q.num
  omega
 ·show (dec (q.den : Int)).length ≤ 1000000000000
  have := afJ (q.den : Int)
  omega
theorem aK8 : aiB 0 := by have := aOh (n := 0) ⟨by omega, by omega⟩; rwa [akK] at this
theorem aTP : mkRat 0 1 = (0 : Rat) := by rw [akK]; rfl
theorem ad1 (u : Rat) : u.num.sign < 0 ↔ u < 0 := by
 have e : u < 0 ↔ u.num < 0 := by rw [← Rat.not_le, ← Rat.num_nonneg]; omega
 rw [e]
 constructor
 ·intro h
  rcases wk u.num 0 with g | g | g
  ·exact g
  ·rw [g] at h; exact absurd h zf
  ·rw [xl g] at h; omega
 ·intro h; rw [xc h]; omega
noncomputable def aSR (off : Int) (y : Rat) : Option Rat := (aS2 (y + mkRat off 1000000)).map aSr
structure Tp where
 p : Int
 f : Int
 g : Rat
 m : Rat
 a : List Rat
def arV (n m : Int) (a b : Rat) : Rat := if n + m > 0 then (a * n + b * m) / ((n + m : Int) : Rat) else 0
def Tp.pick (x y : Tp) : Bool := decide (x.p - x.f = 0) || decide (x.g < y.g)
def Tp.join (x y : Tp) : Tp := { p := x.p + y.p, f := x.f + y.f, g := if x.pick y then y.g else x.g, m := arV (x.p - x.f) (y.p - y.f) x.m y.m, a := if x.pick y then y.a else x.a }
structure Tp.Ok (x : Tp) : Prop where
 f0 : 0 ≤ x.f
 fp : x.f ≤ x.p
 g0 : 0 ≤ x.g
 m0 : 0 ≤ x.m
 mg : x.m ≤ x.g
 z : x.f = x.p → x.g = 0 ∧ x.a = []
theorem aE7 {n : Int} (h : n > 0) : (n : Rat) ≠ 0 := by
 have : n ≠ 0 := zb
 exact_mod_cast this
theorem Tp.Ok.ok_n {x : Tp} (h : x.Ok) : x.p - x.f = 0 → x.m = 0 := by
 intro h0
 have := (h.z zb).1
 have h1 := h.mg
 rw [this] at h1
 exact Rat.le_antisymm h1 h.m0
def Sm (k : Nat) (q : Rat) : Prop := q.num.natAbs < 10 ^ k ∧ q.den < 10 ^ k
theorem Sm.mono {k l : Nat} {q : Rat} (h : Sm k q) (hkl : k ≤ l) : Sm l q :=
 ⟨zR h.1 (zO zb hkl), zR h.2 (zO zb hkl)⟩
theorem aIX {k : Nat} {a : Int} {b : Nat} (hb : b ≠ 0) (h1 : a.natAbs < 10 ^ k) (h2 : b < 10 ^ k) : Sm k (mkRat a b) := by
 obtain ⟨g, t, hg, g0, e0, e1, e2⟩ := ae1 a hb
 refine ⟨we ?_ h1, we ?_ h2⟩
 ·rw [e1, ← adJ e0 g0]; exact xp _ _
 ·rw [e2]; exact xp _ _
theorem Sm.fit {k : Nat} {q : Rat} (h : Sm k q) (hk : k ≤ 600) : aiB q := by
 refine ⟨?_, ap9 h.2 hk⟩
 have := ap9 h.1 hk
 exact auT this zh
theorem ag2 {a b k l : Nat} (h1 : a < 10 ^ k) (h2 : b < 10 ^ l) : a * b < 10 ^ (k + l) := by
 rw [wY]
 exact Nat.mul_lt_mul_of_lt_of_le h1 (Nat.le_of_lt h2) (wZ zb)
theorem Sm.mul {k l : Nat} {p q : Rat} (h1 : Sm k p) (h2 : Sm l q) : Sm (k + l) (p * q) := by
 rw [Rat.mul_def']
 exact aIX (yP p.den_nz q.den_nz) (by rw [yp]; exact ag2 h1.1 h2.1) (ag2 h1.2 h2.2)
theorem Sm.add {k l : Nat} {p q : Rat} (h1 : Sm k p) (h2 : Sm l q) : Sm (k + l + 1) (p + q) := by
 rw [Rat.add_def']
 have e : (10 : Nat) ^ (k + l + 1) = 10 ^ (k + l) * 10 := yw ..
 have a1 : p.num.natAbs * q.den < 10 ^ (k + l) := ag2 h1.1 h2.2
 have a2 : q.num.natAbs * p.den < 10 ^ (k + l) := by rw [yO]; exact ag2 h2.1 h1.2
 have a3 : p.den * q.den < 10 ^ (k + l) := ag2 h1.2 h2.2
 refine aIX (yP p.den_nz q.den_nz) ?_ zb
 have b1 : (p.num * q.den).natAbs = p.num.natAbs * q.den := by rw [yp]; rfl
 have b2 : (q.num * p.den).natAbs = q.num.natAbs * p.den := by rw [yp]; rfl
 have := wW (p.num * q.den) (q.num * p.den)
 omega
theorem aw9 {n : Int} {k : Nat} (hk : k ≠ 0) (h : n.natAbs < 10 ^ k) : Sm k (n : Rat) :=
 ⟨h, Nat.one_lt_pow hk zb⟩
theorem Sm.divI {k l : Nat} {p : Rat} {n : Int} (h1 : Sm k p) (hn : 0 < n) (h2 : n.natAbs < 10 ^ l) : Sm (k + l) (p / (n : Rat)) := by
 have e : p / (n : Rat) = mkRat p.num (p.den * n.natAbs) := by
  have hd : ((n.natAbs : Nat) : Rat) = (n : Rat) := by
   rw [← Rat.intCast_natCast]; congr 1; omega
  rw [wE, Rat.natCast_mul, hd]
  have e0 : p = (p.num : Rat) / (p.den : Rat) := by rw [← wE]; exact (Rat.mkRat_self p).symm
  conv => lhs; rw [e0]
  have hz : (p.den : Rat) ≠ 0 := by have := p.den_nz; exact_mod_cast this
  have hn0 : (n : Rat) ≠ 0 := aE7 hn
  grind
 rw [e]
 exact aIX (yP p.den_nz zb) (zR h1.1 (zO zb zb)) (ag2 h1.2 h2)
abbrev NmT := Int × Int × Unit
abbrev DtT := Int × Int × Int × NmT × List NmT × Unit
abbrev TrT := Int × Int × FxT × FxT × List FxT × Unit
def aeK (t : Tp) : TrT := (t.p, t.f, fx t.g, fx t.m, t.a.map (fun q => fx q), ())
noncomputable def aoY (t : TrT) : Bool := decide (0 ≤ t.1 ∧ t.1 ≤ 1000000 ∧ 0 ≤ t.2.1 ∧ t.2.1 ≤ t.1) && (match rdF t.2.2.1, rdF t.2.2.2.1 with
 | some g, some m => decide (0 ≤ g ∧ 0 ≤ m ∧ m ≤ g) && (if t.2.1 = t.1 then decide (t.2.2.2.2.1 = [] ∧ g = 0) else decide (1 ≤ t.2.2.2.2.1.length ∧ t.2.2.2.2.1.length ≤ 4) && t.2.2.2.2.1.all fun a => (rdF a).isSome)
 | _, _ => false)
structure Gd (k : Nat) (t : Tp) : Prop where
 ok : t.Ok
 p : t.p ≤ 1000000
 g : Sm k t.g
 m : Sm k t.m
 a : ∀ q ∈ t.a, aiB q
 l : t.f ≠ t.p → 1 ≤ t.a.length ∧ t.a.length ≤ 4
def noT : TrT := (0, 0, ([], [], ()), ([], [], ()), [], ())
def shQ (x : NmT) : Rat := mkRat ((x.1.tmod (x.2.1 + 2)).natAbs) (x.2.1 + 1).toNat
def aPv (x : NmT) : Prop := -32768 ≤ x.1 ∧ x.1 ≤ 32767 ∧ 0 ≤ x.2.1 ∧ x.2.1 ≤ 255
def aIJ (d : DtT) : Prop := (0 ≤ d.1 ∧ d.1 ≤ 65535) ∧ (0 ≤ d.2.1 ∧ d.2.1 ≤ 65535) ∧ (0 ≤ d.2.2.1 ∧ d.2.2.1 ≤ 65535) ∧ aPv d.2.2.2.1 ∧ ∀ x ∈ d.2.2.2.2.1, aPv x
def auZ (d : DtT) : Int := d.2.1.tmod (d.1 + 1)
def atD (d : DtT) : List Rat := if d.2.2.2.2.1 = [] then [0] else (d.2.2.2.2.1.take 4).map shQ
def tpD (d : DtT) : Tp := if auZ d = d.1 then { p := d.1, f := d.1, g := 0, m := 0, a := [] }
 else { p := d.1, f := auZ d, g := mkRat d.2.2.1 10000, m := mkRat d.2.2.1 10000 * shQ d.2.2.2.1, a := atD d }
def ab4 (x : FxT × Int × Unit) : Option (FxT × Unit) := if x.2.1 = 0 then some (x.1, ()) else none
def ab1 (x : Int × Unit) : Option (FxT × Unit) := if aeI x.1 then some (fx (mkRat x.1 1), ()) else none
noncomputable def abG (x : TrT × Unit) : Option (Int × Unit) := some (if aoY x.1 then 0 else 410, ())
def aa2 (x : Int × Int × Unit) : Option (FxT × Unit) := if aeI x.1 ∧ 0 < x.2.1 ∧ aeI x.2.1 then some (fx (mkRat x.1 x.2.1.toNat), ()) else none
noncomputable def ae2 (x : NmT × Unit) : Option (FxT × Unit) := open Classical in if aPv x.1 then some (fx (shQ x.1), ()) else none
noncomputable def abC (x : DtT × Unit) : Option (TrT × Unit) := open Classical in if aIJ x.1 then some (aeK (tpD x.1), ()) else none
def aDk (_ : Unit) : Option (Bool × Unit) := some (true, ())
open Go Go.Vg Go.Proofs
theorem aHr : (aMB .unit (.pair .bool .unit) aDk).ok Tryz.prog Gt 7 := by
 refine avH (by kernel_rfl) (fun w ok vs x y hG hok hvs hy => ?_)
 have hy' : y = (true, ()) := (Option.some.inj hy).symm
 subst hy'
 exact Go.Vg.top_at.2 w ok vs x hG.1 hok hvs rfl
def aPp (p n : Nat) : List UInt8 := if p = 0 then aa3 n else aa3 (n / 10 ^ p) ++ 46 :: atV p (n % 10 ^ p)
def aMv (z : Int) : List UInt8 := if z < 0 then [45] else []
def amC (q : Rat) (p : Nat) : List UInt8 := aMv (aj6 q (10 ^ p)) ++ aPp p (aj6 q (10 ^ p)).natAbs
def an3 (sep : List UInt8) : List (List UInt8) → List UInt8
 | [] => []
 | x :: r => x ++ (r.map fun y => sep ++ y).flatten
def shR (x : FxT) : Prop := x.1.length ≤ 100 ∧ x.2.1.length ≤ 100
def shT (t : TrT) : Prop := shR t.2.2.1 ∧ shR t.2.2.2.1 ∧ (∀ x ∈ t.2.2.2.2.1, shR x) ∧ t.2.2.2.2.1.length ≤ 100
noncomputable def rdQ (x : FxT) : Rat := (rdF x).getD 0
noncomputable def aQV (t : TrT) : Tp := { p := t.1, f := t.2.1, g := rdQ t.2.2.1, m := rdQ t.2.2.2.1, a := t.2.2.2.2.1.map rdQ }
def azE : List UInt8 := [112, 111, 105, 110, 116, 115]
def azF : List UInt8 := [102, 97, 105, 108, 101, 100]
def anI : List UInt8 := [103, 114, 101, 97, 116, 101, 115, 116]
def aMG : List UInt8 := [109, 101, 97, 110]
def wAt : List UInt8 := [97, 116]
def amQ (ws : List (List UInt8)) : List UInt8 := an3 [32] ws ++ [10]
noncomputable def atT (l : List FxT) : List (List UInt8) := if l = [] then [[45]] else l.map fun x => amC (rdQ x) 6
noncomputable def aRo (t : TrT) : List UInt8 := amQ [azE, dec t.1] ++ amQ [azF, dec t.2.1] ++ (amQ [anI, amC (rdQ t.2.2.1) 6] ++ amQ [aMG, amC (rdQ t.2.2.2.1) 6]) ++ amQ (wAt :: atT t.2.2.2.2.1)
noncomputable def aAf (a b : TrT) : TrT × Int × Unit := if (aoY a && aoY b) = true then (if a.1 + b.1 > 1000000 then (noT, 410, ()) else (aeK ((aQV a).join (aQV b)), 0, ())) else (noT, 410, ())
def aMc (x : List (List UInt8) × List UInt8 × Unit) : Option (List UInt8 × Unit) := if 1 ≤ x.1.length ∧ x.1.length ≤ 1000 ∧ (an3 x.2.1 x.1).length ≤ 1000000 then some (an3 x.2.1 x.1, ()) else none
def ad8 (x : List (List UInt8) × Unit) : Option (List UInt8 × Unit) := if 1 ≤ x.1.length ∧ x.1.length ≤ 1000 ∧ (an3 [32] x.1).length ≤ 1000000 then some (amQ x.1, ()) else none
def ag3 (x : List UInt8 × Int × Unit) : Option (List UInt8 × Unit) := if x.2.1 = 0 then some (x.1, ()) else none
noncomputable def aoJ : Int × Unit → Option (PlT × Unit) := afO (fun n : Nat => ((n : Int), ())) (fun n => n ≤ 40) (fun n => (pl ((10 : Int) ^ n), ()))
noncomputable def ah8 : RaT × Unit → Option (PlT × Unit) := afO (fun x : Rat => (ra x, ())) (fun x => BdQ 2 x) (fun x => (pl (fl (x + mkRat 1 2)), ()))
noncomputable def agL (x : FxT × Unit) : Option (Int × Int × Unit) := if shF x.1 then some (match rdF x.1 with | some q => (q.num.sign, 0, ()) | none => (0, 20, ())) else none
noncomputable def aiA (x : FxT × Int × Unit) : Option (List UInt8 × Int × Unit) := some (match rdF x.1 with
 | some q => if x.2.1 < 0 ∨ x.2.1 > 20 then ([], 2, ()) else (amC q x.2.1.toNat, 0, ())
 | none => ([], 20, ()))
open Classical in
noncomputable def afN (x : FxT × Int × Unit) : Option (List UInt8 × Int × Unit) := if shR x.1 then some (match rdF x.1 with
 | some q => if x.2.1 < 0 ∨ x.2.1 > 20 then ([], 2, ()) else (amC q x.2.1.toNat, 0, ())
 | none => ([], 20, ())) else none
noncomputable def aIu (l : List FxT) : Bool := l.all fun a => (rdF a).isSome
open Classical in
noncomputable def ae3 (x : List FxT × Unit) : Option (Int × Unit) := if x.1.length ≤ 1000000000000 ∧ ∀ a ∈ x.1, shF a then some (if aIu x.1 then 0 else 20, ()) else none
def aIG (x : FxT) : FxT := (x.1.take 20, x.2.1.take 20, ())
def agM (x : FxT × Unit) : Option (FxT × Unit) := some (aIG x.1, ())
noncomputable def aeA (x : FxT × FxT × Unit) : Option (Int × Unit) := if shF x.1 ∧ shF x.2.1 then some (match rdF x.1, rdF x.2.1 with | some p, some q => aDu p q | _, _ => 0, ()) else none
open Classical in
noncomputable def acA (x : TrT × Unit) : Option (Int × Unit) := if shT x.1 then some (if aoY x.1 then 0 else 410, ()) else none
open Classical in
noncomputable def ad9 (x : TrT × TrT × Unit) : Option (TrT × Int × Unit) := if shT x.1 ∧ shT x.2.1 then some (aAf x.1 x.2.1) else none
noncomputable def afD (x : TrT × TrT × Unit) : Option (TrT × Int × Unit) := ad9 x
noncomputable def aeM (x : TrT × TrT × Unit) : Option (Bool × Unit) := if x.1.2.2.2.2.1.length ≤ 1000000000000 then some (eqb x.1 x.2.1, ()) else none
noncomputable def aeW (x : TrT × Unit) : Option (List UInt8 × Int × Unit) := some (if aoY x.1 = true then (aRo x.1, 0, ()) else ([], 410, ()))
open Classical in
noncomputable def afC (x : TrT × Unit) : Option (List UInt8 × Int × Unit) := if shT x.1 then aeW x else none
def aAR (w n : Int) (x : FxT) (t : TrT) : TrT :=
 if w = 0 then (n, t.2) else if w = 1 then (t.1, n, t.2.2) else if w = 2 then (t.1, t.2.1, aIG x, t.2.2.2) else if w = 3 then (t.1, t.2.1, t.2.2.1, aIG x, t.2.2.2.2) else if w = 4 then (t.1, t.2.1, t.2.2.1, t.2.2.2.1, [], ())
 else (t.1, t.2.1, t.2.2.1, t.2.2.2.1, t.2.2.2.2.1 ++ [aIG x], ())
abbrev BnT := Int × Int × FxT × Unit
def abQ (x : BnT × TrT × Unit) : Option (TrT × Unit) := if 0 ≤ x.1.1 ∧ x.1.1 ≤ 255 ∧ x.2.1.2.2.2.2.1.length ≤ 1000000 then some (aAR (x.1.1.tmod 6) x.1.2.1 x.1.2.2.1 x.2.1, ()) else none
def anE (_ : DtT × DtT × BnT × BnT × Unit) : Option (Bool × Unit) := some (true, ())
end Go.Vs
