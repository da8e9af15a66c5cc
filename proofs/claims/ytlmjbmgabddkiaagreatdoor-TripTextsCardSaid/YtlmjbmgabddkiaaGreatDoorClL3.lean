/-
  Trees of what the functions compute, and their laws. Own work; no condition.
-/
import Derived.Test.YtlmjbmgabddkiaaGreatDoorClL2
import Derived.KernelRfl
import Derived.Test.YtlmjbmgabddkiaaGreatDoorProg
set_option linter.unusedVariables false
set_option linter.unusedSimpArgs false
namespace Go.Vs
open Go Go.Vg
theorem ai0 {p q : Int × Int} (h : (pl p.1, pl p.2, ()) = (pl q.1, pl q.2, ())) : p = q := by
 obtain ⟨h1, h2⟩ := Prod.mk.inj h
 obtain ⟨h2, -⟩ := Prod.mk.inj h2
 exact Prod.ext (apZ h1) (apZ h2)
theorem auK {p q : Nat × Nat} (h : (dig p.1, dig p.2, ()) = (dig q.1, dig q.2, ())) : p = q := by
 obtain ⟨h1, h2⟩ := Prod.mk.inj h
 obtain ⟨h2, -⟩ := Prod.mk.inj h2
 exact Prod.ext (arH h1) (arH h2)
theorem aG4 {n : Nat} (h : n < 10000) : isD (asP n) := by
 intro c hc
 simp only [asP, zm, List.not_mem_nil, or_false] at hc
 rcases hc with rfl | rfl | rfl | rfl <;> rw [aoW zb] <;> omega
theorem aG3 {n : Nat} (h : n < 10000) : num (asP n) = n := by
 have e : ∀ a b c d : Nat, a < 10 → b < 10 → c < 10 → d < 10 → num [UInt8.ofNat (48 + a), UInt8.ofNat (48 + b), UInt8.ofNat (48 + c), UInt8.ofNat (48 + d)] = ((a * 10 + b) * 10 + c) * 10 + d := by
  intro a b c d ha hb hc hd
  unfold num
  rw [afM, afM, afM, afM, auI ha, auI hb, auI hc, auI hd]
  simp [ayO]
 unfold asP
 rw [e _ _ _ _ zb zb zb zb]
 omega
theorem aJK {s : List UInt8} {k : Nat} (h : ∀ c ∈ s.take k, c = 48) : num s = num (s.drop k) := by
 have h1 : ∀ l : List UInt8, (∀ c ∈ l, c = 48) → num l = 0 := by
  intro l
  induction l using aAx with
  | nil => intro _; rfl
  | snoc l c ih =>
   intro h
   rw [ai1, ih (fun d hd => h d (wS _ hd)), h c zg]
   rfl
 conv => lhs; rw [← xj k s]
 rw [ai2, h1 _ h]
 omega
theorem aME {n : Nat} (h : Bd 6 n) : (dig n).length ≤ 13000000000 := by
 have h2 := auL (k := 1000000 * 4 ^ 6) h
 omega
theorem aAe {z : Int} (h : Bd 6 z.natAbs) : aiP (pl z, ()) = some (dec z, ()) := aaN (enc := fun x : Int => (pl x, ())) z h (fun b hb => apZ (Prod.mk.inj hb).1)
theorem aAL (x : PlT) (y) (h : aiP (x, ()) = some y) : (apU x).toO = some y := by
 obtain ⟨z, hp, hx, rfl⟩ := aaF h
 obtain ⟨rfl, -⟩ := Prod.mk.inj hx
 have hl := aME hp
 have hd := acS z.natAbs
 have hV := af1 z.natAbs
 clear h hx
 unfold apU
 dsimp only
 refine uO (((dig z.natAbs).length : Int) - 1, [], ()) ?_ ?_
 ·repeat refine za ?_
  rw [aaJ, aaD, aaA zb]
 refine aaM (fun i : Int × List UInt8 × Unit => ∃ k : Nat, k ≤ (dig z.natAbs).length ∧ i.1 = (k : Int) - 1 ∧ isD i.2.1 ∧ i.2.1.length = 4 * ((dig z.natAbs).length - k) ∧ (num i.2.1 : Int) = V 10000 ((dig z.natAbs).drop k)) (fun i => (i.1 + 1).toNat) (fun _ => (dec z, ())) ?_ _ ⟨_, zi _, rfl, (show isD [] from fun c hc => by cases hc), by simp, by rw [acH _ (zi _)]; rfl⟩
 rintro ⟨i, s, u⟩ ⟨k, h1, h2, h3, h4, h5⟩
 dsimp only at h2 h3 h4 h5
 subst h2
 cases k with
 | succ j =>
  left
  have e6 : ((j + 1 : Nat) : Int) - 1 = (j : Int) := zb
  have dj := aaR zb hd j
  obtain ⟨m, hm⟩ := zG dj.1
  have hm2 : m < 10000 := zb
  rw [e6]
  refine ⟨((j : Int) - 1, s ++ asP m, ()), ?_, ⟨j, by omega, rfl, ?_, ?_, ?_⟩, by dsimp only; omega, zd⟩
  ·simp only [amJ, aaK, hm]
   refine uT sd (uN sd (uC _ (aIo hm2) (uN ?_ ?_)))
   ·have : (asP m).length = 4 := rfl
    dsimp only
    rw [this, h4]
    unfold lim; omega
   ·repeat refine za ?_
    rw [aaJ, aaA (x := (j : Int) - 1) zb]
  ·exact isD_append.2 ⟨h3, aG4 hm2⟩
  ·have : (asP m).length = 4 := rfl
   simp only [zu, this, h4]; omega
  ·dsimp only
   rw [ai2, aG3 hm2, aaI, hm, ← h5]
   have : (asP m).length = 4 := rfl
   rw [this]
   simp; omega
 | zero =>
  right
  rw [yv, hV] at h5
  have h5' : num s = z.natAbs := Int.ofNat.inj h5
  simp only [amJ]
  refine uF sd (uO (0, ()) rfl ?_)
  refine aaM (fun i : Int × Unit => ∃ q : Nat, q ≤ s.length ∧ i = ((q : Int), ()) ∧ ∀ c ∈ s.take q, c = 48) (fun i => ((s.length : Int) - i.1).toNat) (fun _ => (.inr (dec z, ()) : (Int × List UInt8 × Unit) ⊕ (List UInt8 × Unit))) ?_ _ ⟨0, by omega, rfl, by simp⟩
  rintro i ⟨q, g1, rfl, g2⟩
  have hlead := aJK g2
  have hsl : s.length ≤ 60000000000 := zb
  have hdd : isD (s.drop q) := alN h3 q
  have htk : List.take (s.length - q) (s.drop q) = s.drop q := zq zg
  have fin : ∀ (w : TT (vS ⊕ ((Int × List UInt8 × Unit) ⊕ vY))), (q = s.length ∨ (s.drop q).head? ≠ some 48) → (TT.ite (s.drop q == #[].toList) (TT.ok (.inr (.inr (#[48].toList, ())))) (TT.ite (decide (z < 0)) (TT.need (List.length #[(45 : UInt8)].toList + List.length (s.drop q) ≤ lim) (TT.ok (.inr (.inr (#[45].toList ++ s.drop q, ()))))) (TT.ok (.inr (.inr (s.drop q, ())))) : TT (vS ⊕ ((Int × List UInt8 × Unit) ⊕ vY)))).toO = some (.inr (.inr (dec z, ()))) := by
   intro _ hq
   by_cases c0 : s.drop q = []
   ·refine uT (by rw [c0]; rfl) ?_
    rw [c0] at hlead
    have : z.natAbs = 0 := by rw [← h5', hlead]; rfl
    have hz : z = 0 := zb
    subst hz
    rw [ab4 zb, Int.natAbs_zero, abK zb]; rfl
   ·refine uF (by rw [beq_eq_false_iff_ne]; exact c0) ?_
    have hu : s.drop q = aaY z.natAbs := by
     have := azT hdd c0 (by
      rcases hq with hq | hq
      ·exact absurd (by rw [hq]; simp) c0
      ·exact Or.inl hq)
     rw [this, ← hlead, h5']
    by_cases cz : z < 0
    ·refine uT (zn cz) (uN ?_ ?_)
     ·show 1 + (s.drop q).length ≤ lim
      rw [ye]; unfold lim; omega
     ·rw [hu, agO cz]; rfl
    ·refine uF (zl cz) ?_
     rw [hu, ab4 zb]; rfl
  unfold atK ahG
  simp only [aaK, zj, htk]
  rcases zv q s.length with hq | hq
  ·have e1 : s.getD q 0 = s[q] := by simp [hq]
   rw [e1]
   by_cases c : s[q] = 48
   ·left
    refine ⟨(((q + 1 : Nat) : Int), ()), ?_, ⟨q + 1, by omega, rfl, ?_⟩, by dsimp only; omega, zd⟩
    ·refine uT sd (uN sd (uT (by rw [c]; rfl) ?_))
     repeat refine za ?_
     rw [aaJ, aaA (x := (q : Int) + 1) zb]; rfl
    ·intro c' hc'
     rw [yf hq] at hc'
     rcases zD.1 hc' with hc' | hc'
     ·exact g2 c' hc'
     ·rw [zL.1 hc', c]
   ·right
    refine uT sd (uN sd (uF ?_ (uN sd ?_)))
    ·rw [beq_eq_false_iff_ne]
     intro h
     exact c (UInt8.toNat_inj.1 (Int.ofNat.inj h))
    ·refine fin TT.bad (Or.inr ?_)
     rw [yy hq, wT]
     exact fun h => c (Option.some.inj h)
  ·right
   refine uF sd (uN sd ?_)
   exact fin TT.bad (Or.inl zb)
theorem aCX {z : Int} (h : Bd 6 z.natAbs) : alZ (pl z, ()) = some (wrW z) := aaN (enc := fun x : Int => (pl x, ())) z h (fun b hb => apZ (Prod.mk.inj hb).1)
theorem aDx (x : PlT) (y) (h : alZ (x, ()) = some y) : (aCf x).toO = some y := by
 obtain ⟨z, hp, hx, rfl⟩ := aaF h
 obtain ⟨rfl, -⟩ := Prod.mk.inj hx
 refine uC _ (aAe hp) ?_
 dsimp only
 have hl : (aaY z.natAbs).length ≤ 90000000000 := by
  have := adO (k := 1000000 * 4 ^ 6) hp
  omega
 by_cases c : z < 0
 ·refine uT (zn c) ?_
  have e : w64 (len (dec z) - 1) = ((aaY z.natAbs).length : Int) := by
   rw [agO c, aaD, zE, aaA zb]; omega
  rw [e]
  by_cases f : Fit z
  ·rw [au4 f]
   have f' : (aaY z.natAbs).length ≤ 600 := f
   exact uF sd rfl
  ·rw [au5 f]
   have f' : ¬ (aaY z.natAbs).length ≤ 600 := f
   exact uT sd rfl
 ·refine uF (zl c) ?_
  have e : len (dec z) = ((aaY z.natAbs).length : Int) := by rw [ab4 zb]; rfl
  rw [e]
  by_cases f : Fit z
  ·rw [au4 f]
   have f' : (aaY z.natAbs).length ≤ 600 := f
   exact uF sd rfl
  ·rw [au5 f]
   have f' : ¬ (aaY z.natAbs).length ≤ 600 := f
   exact uT sd rfl
theorem agI {n : Int} (h : ad7 n) : ab8 (n, ()) = some (pl n, ()) := by unfold ab8; rw [if_pos h]
theorem aJX {l : List Int} {x w v N : Int} (h : V 10000 l + 10000 ^ l.length * w = N) (hx : x + 10000 * v = w) : V 10000 (l ++ [x]) + 10000 ^ (l.length + 1) * v = N := by
 rw [adA, asZ, yp, ← h]
 have : (10000 : Int) ^ l.length * (x + 10000 * v) = 10000 ^ l.length * w := by rw [hx]
 grind
theorem asL (n : Int) (y) (h : ab8 (n, ()) = some y) : (anR n).toO = some y := by
 unfold ab8 at h
 split at h
 case isFalse => cases h
 case isTrue hn =>
 injection h with h
 subst h
 obtain ⟨n0, n1⟩ := hn
 dsimp only at n0 n1
 refine uO (true, [], n, ()) rfl ?_
 refine aaM (fun i : Bool × List Int × Int × Unit => Dg 10000 i.2.1 ∧ i.2.2.1.natAbs ≤ n.natAbs ∧ V 10000 i.2.1 + 10000 ^ i.2.1.length * i.2.2.1.natAbs = n.natAbs ∧ (i.1 = true → i.2.1 = []) ∧ (i.2.2.1 = 0 → Cn i.2.1) ∧ i.2.1.length ≤ 6 ∧ i.2.2.1.natAbs < 10000 ^ (6 - i.2.1.length)) (fun i => i.2.2.1.natAbs) (fun _ => (pl n, ())) ?_ _ ⟨aoF _, zi _, by simp [V], fun _ => rfl, fun _ => aoG, by simp, by simp; omega⟩
 rintro ⟨f, l, v, u⟩ ⟨g1, g2, g3, g4, g5, g6, g7⟩
 dsimp only at g1 g2 g3 g4 g5 g6 g7
 by_cases hv : v = 0
 ·right
  subst hv
  have hm : aa7 (decide (n < 0), l, ()) = some (pl n, ()) := ar7 g1 zb (by simp at g3; omega) (Or.inr rfl)
  cases f with
  | true =>
   obtain rfl := g4 rfl
   unfold ad5
   exact uT rfl (uF rfl (uC _ hm rfl))
  | false =>
   unfold ad5
   dsimp only
   rw [zp]
   exact uF rfl (uF rfl (uC _ hm rfl))
 ·left
  have hl6 : l.length ≤ 5 := by
   rcases zv 5 l.length with h | h
   ·have : l.length = 6 := zb
    rw [this] at g7; simp at g7; omega
   ·exact h
  have td : (Int.tdiv v 10000).natAbs = v.natAbs / 10000 := by rw [Int.natAbs_tdiv]; rfl
  have tm : (Int.tmod v 10000).natAbs = v.natAbs % 10000 := by rw [xD]; rfl
  have hx : ((v.natAbs % 10000 : Nat) : Int) + 10000 * ((v.natAbs / 10000 : Nat) : Int) = v.natAbs := zb
  have wd : w64 (Int.tdiv v 10000) = Int.tdiv v 10000 := aaA zb
  have wm : w64 (0 - Int.tmod v 10000) = 0 - Int.tmod v 10000 := aaA zb
  have inv : Dg 10000 (l ++ [((v.natAbs % 10000 : Nat) : Int)]) ∧ (Int.tdiv v 10000).natAbs ≤ n.natAbs ∧ V 10000 (l ++ [((v.natAbs % 10000 : Nat) : Int)]) + 10000 ^ (l ++ [((v.natAbs % 10000 : Nat) : Int)]).length * ((Int.tdiv v 10000).natAbs : Int) = n.natAbs ∧ (false = true → (l ++ [((v.natAbs % 10000 : Nat) : Int)]) = []) ∧ (Int.tdiv v 10000 = 0 → Cn (l ++ [((v.natAbs % 10000 : Nat) : Int)])) ∧ (l ++ [((v.natAbs % 10000 : Nat) : Int)]).length ≤ 6 ∧ (Int.tdiv v 10000).natAbs < 10000 ^ (6 - (l ++ [((v.natAbs % 10000 : Nat) : Int)]).length) := by
   refine ⟨adS g1 (aiV zb zb), by omega, ?_, by simp, ?_, by simp; omega, ?_⟩
   ·rw [zu, yh, td]
    exact aJX g3 hx
   ·intro hz
    unfold Cn
    simp only [List.getLast?_concat, ne_eq, Option.some.injEq]
    omega
   ·rw [zu, yh, td, yS zb]
    have h9 : 10000 ^ (6 - l.length) = 10000 ^ (6 - (l.length + 1)) * 10000 := by
     rw [← yH]; congr 1; omega
    omega
  refine ⟨(false, l ++ [((v.natAbs % 10000 : Nat) : Int)], Int.tdiv v 10000, ()), ?_, inv, by dsimp only; omega, zd⟩
  cases f with
  | true =>
   obtain rfl := g4 rfl
   simp only [ad5, wd, wm]
   by_cases c : Int.tmod v 10000 < 0
   ·refine uT rfl (uT (by simpa using hv) (uV (uT (zn c) ?_)))
    repeat refine za ?_
    rw [aaJ, show 0 - Int.tmod v 10000 = ((v.natAbs % 10000 : Nat) : Int) by omega]; rfl
   ·refine uT rfl (uT (by simpa using hv) (uV (uF (zl c) ?_)))
    repeat refine za ?_
    rw [aaJ, show Int.tmod v 10000 = ((v.natAbs % 10000 : Nat) : Int) by omega]; rfl
  | false =>
   simp only [ad5, wd, wm, zp]
   by_cases c : Int.tmod v 10000 < 0
   ·refine uF rfl (uT (by simpa using hv) (uV (uT (zn c) ?_)))
    repeat refine za ?_
    rw [aaJ, show 0 - Int.tmod v 10000 = ((v.natAbs % 10000 : Nat) : Int) by omega]
   ·refine uF rfl (uT (by simpa using hv) (uV (uF (zl c) ?_)))
    repeat refine za ?_
    rw [aaJ, show Int.tmod v 10000 = ((v.natAbs % 10000 : Nat) : Int) by omega]
theorem akR {k n : Nat} (h : Bd k n) (hk : k ≤ 8) : (dig n).length ≤ 1000000000000 := zw (arW h hk) zb
theorem ar8 {z : Int} (h : Bd 8 z.natAbs) : ag6 (pl z, ()) = some (pl (-z), ()) := aaN (enc := fun x : Int => (pl x, ())) z h (fun b hb => apZ (Prod.mk.inj hb).1)
theorem aAK (x : PlT) (y) (h : ag6 (x, ()) = some y) : (ax6 x).toO = some y := by
 obtain ⟨z, hp, hx, rfl⟩ := aaF h
 obtain ⟨rfl, -⟩ := Prod.mk.inj hx
 refine uC (pl (-z), ()) (aeN (akR hp zb) zb ?_) rfl
 by_cases h0 : z = 0
 ·left; omega
 ·right
  show (!decide (z < 0)) = decide (-z < 0)
  by_cases h1 : z < 0
  ·rw [zn h1, zl zb]; rfl
  ·rw [zl h1, zn zb]; rfl
theorem aKw {a b : Nat} (h1 : (dig a).length ≤ 1000000000000) (h2 : (dig b).length ≤ 1000000000000) : ao1 (dig a, dig b, ()) = some (dig (a + b), ()) := aaN (enc := fun p : Nat × Nat => (dig p.1, dig p.2, ())) (a, b) ⟨h1, h2⟩ (fun b hb => auK hb)
theorem auY {a b : Nat} (h1 : (dig a).length ≤ 1000000000000) (h : b ≤ a) : aa3 (dig a, dig b, ()) = some (dig (a - b), ()) := aiT (acS a) (acS b) h1 (abZ h) (by rw [af1, af1]; omega) (by rw [af1, af1]; omega)
theorem aEM {a b : Nat} (h1 : (dig a).length ≤ 400000000000) (h2 : (dig b).length ≤ 400000000000) : abH (dig a, dig b, ()) = some (dig (a * b), ()) := aiS (acS a) (Or.inl (acS b)) h1 h2 (by rw [af1, af1]; simp)
theorem al3 {a b : Int} (h1 : Bd 7 a.natAbs) (h2 : Bd 7 b.natAbs) : ae2 (pl a, pl b, ()) = some (pl (a + b), ()) := aaN (enc := fun p : Int × Int => (pl p.1, pl p.2, ())) (a, b) ⟨h1, h2⟩ (fun b hb => ai0 hb)
theorem aAN (x x' : PlT) (y) (h : ae2 (x, x', ()) = some y) : (apX x x').toO = some y := by
 obtain ⟨⟨a, b⟩, hp, hx, rfl⟩ := aaF h
 obtain ⟨rfl, hx2⟩ := Prod.mk.inj hx; obtain ⟨rfl, -⟩ := Prod.mk.inj hx2; dsimp only
 obtain ⟨l1, l2⟩ := hp
 simp only at l1 l2
 have d1 := akR l1 zb
 have d2 := akR l2 zb
 have d3 := akR (af0 l1 l2) zb
 unfold apX
 dsimp only
 by_cases hs : (decide (a < 0) == decide (b < 0)) = true
 ·refine uT hs ?_
  have hs' : (a < 0 ↔ b < 0) := by simpa using hs
  refine uC _ (aKw d1 d2) ?_
  refine uC (pl (a + b), ()) (aeN d3 zb (Or.inr (decide_eq_decide.2 zb))) rfl
 ·have hs' : ¬ (a < 0 ↔ b < 0) := by simpa using hs
  refine uF (by simpa using hs) ?_
  refine uC _ (anJ _ _ (acS _) (acS _) d1 d2) ?_
  obtain ⟨o1, o2⟩ := aCj a.natAbs b.natAbs
  by_cases hc : a.natAbs < b.natAbs
  ·refine uF (zl (by have := o1.2 hc; dsimp only; omega)) ?_
   refine uC _ (auY d2 zb) ?_
   have d4 : (dig (b.natAbs - a.natAbs)).length ≤ 1000000000000 := zw (abZ (Nat.sub_le _ _)) d2
   refine uC (pl (a + b), ()) (aeN d4 zb (Or.inr (decide_eq_decide.2 zb))) rfl
  ·refine uT (zn (by
    rcases zS (aLe (dig a.natAbs) (dig b.natAbs)) 0 with h | h
    ·exact absurd (o1.1 h) hc
    ·exact h)) ?_
   refine uC _ (auY d1 zb) ?_
   have d4 : (dig (a.natAbs - b.natAbs)).length ≤ 1000000000000 := zw (abZ (Nat.sub_le _ _)) d1
   refine uC (pl (a + b), ()) (aeN d4 zb ?_) rfl
   by_cases h0 : a + b = 0
   ·exact Or.inl h0
   ·exact Or.inr (decide_eq_decide.2 zb)
theorem aEN {a b : Int} (h1 : Bd 7 a.natAbs) (h2 : Bd 7 b.natAbs) : ajH (pl a, pl b, ()) = some (pl (a - b), ()) := aaN (enc := fun p : Int × Int => (pl p.1, pl p.2, ())) (a, b) ⟨h1, h2⟩ (fun b hb => ai0 hb)
theorem ayA (x x' : PlT) (y) (h : ajH (x, x', ()) = some y) : (atL x x').toO = some y := by
 obtain ⟨⟨a, b⟩, hp, hx, rfl⟩ := aaF h
 obtain ⟨rfl, hx2⟩ := Prod.mk.inj hx; obtain ⟨rfl, -⟩ := Prod.mk.inj hx2; dsimp only
 obtain ⟨l1, l2⟩ := hp
 refine uC _ (ar8 (aaO l2 zb)) (uC _ (al3 l1 (adP l2)) ?_)
 rw [Int.sub_eq_add_neg]; rfl
theorem aJN {a b : Int} : a * b = 0 ∨ (!(decide (a < 0) == decide (b < 0))) = decide (a * b < 0) := by
 by_cases hz : a * b = 0
 ·exact Or.inl hz
 ·right
  have z1 : a ≠ 0 := fun h => hz (by rw [h]; simp)
  have z2 : b ≠ 0 := fun h => hz (by rw [h]; simp)
  rcases zS a 0 with c1 | c1 <;> rcases zS b 0 with c2 | c2
  ·have := Int.mul_pos_of_neg_of_neg c1 c2
   rw [zn c1, zn c2, zl zb]; rfl
  ·have := Int.mul_neg_of_neg_of_pos c1 (show 0 < b by omega)
   rw [zn c1, zl zb, zn zb]; rfl
  ·have := Int.mul_neg_of_pos_of_neg (show 0 < a by omega) c2
   rw [zl zb, zn c2, zn zb]; rfl
  ·have := Int.mul_pos (show 0 < a by omega) (show 0 < b by omega)
   rw [zl zb, zl zb, zl zb]; rfl
theorem ahB {a b : Int} (h1 : Bd 7 a.natAbs) (h2 : Bd 7 b.natAbs) : ad2 (pl a, pl b, ()) = some (pl (a * b), ()) := aaN (enc := fun p : Int × Int => (pl p.1, pl p.2, ())) (a, b) ⟨h1, h2⟩ (fun b hb => ai0 hb)
theorem ax7 (x x' : PlT) (y) (h : ad2 (x, x', ()) = some y) : (atJ x x').toO = some y := by
 obtain ⟨⟨a, b⟩, hp, hx, rfl⟩ := aaF h
 obtain ⟨rfl, hx2⟩ := Prod.mk.inj hx; obtain ⟨rfl, -⟩ := Prod.mk.inj hx2; dsimp only
 obtain ⟨l1, l2⟩ := hp
 simp only at l1 l2
 have d1 := arW l1 zb
 have d2 := arW l2 zb
 refine uC _ (aEM (zw d1 zb) (zw d2 zb)) ?_
 refine uC (pl (a * b), ()) (aeN (akR (aeC l1 l2) zb) (by rw [yB]) aJN) rfl
theorem auX {a b : Nat} (h1 : (dig a).length ≤ 200000000000) (h2 : (dig b).length ≤ 200000000000) (h3 : b ≠ 0) : ag5 (dig a, dig b, ()) = some (dig (a / b), dig (a % b), ()) := aaN (enc := fun p : Nat × Nat => (dig p.1, dig p.2, ())) (a, b) ⟨h1, h2, h3⟩ (fun b hb => auK hb)
theorem aiU {a b : Int} (h1 : Bd 8 a.natAbs) (h2 : Bd 8 b.natAbs) : ad3 (pl a, pl b, ()) = some (pl (Nat.gcd a.natAbs b.natAbs), ()) := aaN (enc := fun p : Int × Int => (pl p.1, pl p.2, ())) (a, b) ⟨h1, h2⟩ (fun b hb => ai0 hb)
theorem asM (x x' : PlT) (y) (h : ad3 (x, x', ()) = some y) : (anS x x').toO = some y := by
 obtain ⟨⟨a, b⟩, hp, hx, rfl⟩ := aaF h
 obtain ⟨rfl, hx2⟩ := Prod.mk.inj hx; obtain ⟨rfl, -⟩ := Prod.mk.inj hx2; dsimp only
 obtain ⟨l1, l2⟩ := hp
 dsimp only at l1 l2
 have d1 := arW l1 zb
 have d2 := arW l2 zb
 refine uO (dig b.natAbs, dig a.natAbs, ()) rfl ?_
 have hres : (pl ((Nat.gcd a.natAbs b.natAbs : Nat) : Int), ()) = ((false, dig (Nat.gcd a.natAbs b.natAbs), ()), ()) := by
  unfold pl
  rw [zl zb, ym]
 rw [hres]
 refine aaM (fun i : List Int × List Int × Unit => ∃ p q : Nat, i = (dig q, dig p, ()) ∧ (dig p).length ≤ 200000000000 ∧ (dig q).length ≤ 200000000000 ∧ Nat.gcd p q = Nat.gcd a.natAbs b.natAbs) (fun i => (V 10000 i.1).toNat) (fun _ => ((false, dig (Nat.gcd a.natAbs b.natAbs), ()), ())) ?_ _ ⟨a.natAbs, b.natAbs, rfl, d1, d2, rfl⟩
 rintro i ⟨p, q, rfl, lp, lq, hg⟩
 unfold ak8
 dsimp only
 by_cases hq : q = 0
 ·right
  subst hq
  refine uF (by rw [dig_zero]; rfl) ?_
  rw [← hg, Nat.gcd_zero_right]; rfl
 ·left
  have hql : 1 ≤ (dig q).length := by
   rcases zF (dig q).length with h5 | h5
   ·exact absurd (dig_nil_iff.1 (zT.1 h5)) hq
   ·exact h5
  refine ⟨(dig (p % q), dig q, ()), ?_, ⟨q, p % q, rfl, lq, ?_, ?_⟩, ?_, zd⟩
  ·refine uT sd (uC _ (auX lp lq hq) ?_)
   repeat refine za ?_
   rfl
  ·exact zw (abZ (Nat.le_of_lt (yz p (show 0 < q by omega)))) lq
  ·rw [← hg, xO p q, Nat.gcd_rec q p, xO]
  ·simp only [af1, zj]
   exact yz p zb
theorem ajM {a b : Int} (h1 : Bd 6 a.natAbs) (h2 : Bd 6 b.natAbs) (h3 : b ≠ 0) : aeK (pl a, pl b, ()) = some (pl (a / b), pl (a % b), ()) := aaN (enc := fun p : Int × Int => (pl p.1, pl p.2, ())) (a, b) ⟨h1, h2, h3⟩ (fun b hb => ai0 hb)
theorem aOH {a b : Int} (hb : b ≠ 0) : ∃ q r : Int, q.natAbs = a.natAbs / b.natAbs ∧ r.natAbs = a.natAbs % b.natAbs ∧ (q = 0 ∨ (!(decide (a < 0) == decide (b < 0))) = decide (q < 0)) ∧ (r = 0 ∨ decide (a < 0) = decide (r < 0)) ∧ (r < 0 → a / b = (if b < 0 then q + 1 else q - 1) ∧ a % b = r + b.natAbs) ∧ (¬ r < 0 → a / b = q ∧ a % b = r) := by
 refine ⟨Int.tdiv a b, Int.tmod a b, Int.natAbs_tdiv a b, xD a b, ?_, ?_, ?_, ?_⟩
 ·by_cases hz : Int.tdiv a b = 0
  ·exact Or.inl hz
  ·right
   rcases zS a 0 with c1 | c1 <;> rcases zS b 0 with c2 | c2
   ·have : 0 ≤ Int.tdiv a b := by
     rw [← Int.neg_tdiv_neg]; exact xx zb zb
    rw [zn c1, zn c2, zl zb]; rfl
   ·have : Int.tdiv a b ≤ 0 := by
     have := xx (a := -a) (b := b) zb c2
     rw [Int.neg_tdiv] at this; omega
    rw [zn c1, zl zb, zn zb]; rfl
   ·have : Int.tdiv a b ≤ 0 := by
     have := xx (a := a) (b := -b) c1 zb
     rw [Int.tdiv_neg] at this; omega
    rw [zl zb, zn c2, zn zb]; rfl
   ·have := xx c1 c2
    rw [zl zb, zl zb, zl zb]; rfl
 ·by_cases hz : Int.tmod a b = 0
  ·exact Or.inl hz
  ·right
   refine decide_eq_decide.2 ?_
   rcases zS a 0 with c1 | c1
   ·have : Int.tmod a b ≤ 0 := by
     have := xQ (a := -a) b zb
     rw [Int.neg_tmod] at this; omega
    omega
   ·have := xQ (a := a) b c1
    omega
 ·intro hr
  have ha : a < 0 := by
   rcases zS a 0 with c | c
   ·exact c
   ·have := xQ (a := a) b c; omega
  have h1 := xY a b
  have h2 : (Int.tmod a b).natAbs < b.natAbs := by rw [xD]; exact yz _ zb
  generalize Int.tdiv a b = q at *
  generalize Int.tmod a b = r at *
  have key : ∀ q' r' : Int, r' + b * q' = a → 0 ≤ r' → r' < b.natAbs → a / b = q' ∧ a % b = r' := by
   intro q' r' e e1 e2
   have hr' : r' / b = 0 := by
    rcases zS b 0 with c | c
    ·have : r' / (-(-b)) = -(r' / -b) := Int.ediv_neg _ _
     rw [Int.neg_neg] at this
     rw [this, xg e1 zb]; rfl
    ·exact xg e1 zb
   have d1 : a / b = q' := by rw [← e, wP _ _ hb, hr', wV]
   refine ⟨d1, ?_⟩
   have := yi a b
   rw [d1] at this
   omega
  rcases zS b 0 with c | c
  ·rw [if_pos c]
   exact key _ _ (by rw [xU]; omega) zb zb
  ·rw [if_neg zb]
   exact key _ _ (by rw [Int.mul_sub]; omega) zb zb
 ·intro hr
  have h1 := xY a b
  have h2 : (Int.tmod a b).natAbs < b.natAbs := by rw [xD]; exact yz _ zb
  generalize Int.tdiv a b = q at *
  generalize Int.tmod a b = r at *
  have hr' : r / b = 0 := by
   rcases zS b 0 with c | c
   ·have : r / (-(-b)) = -(r / -b) := Int.ediv_neg _ _
    rw [Int.neg_neg] at this
    rw [this, xg zb zb]; rfl
   ·exact xg zb zb
  have d1 : a / b = q := by rw [← h1, wP _ _ hb, hr', wV]
  refine ⟨d1, ?_⟩
  have := yi a b
  rw [d1] at this
  omega
theorem ax9 (x x' : PlT) (y) (h : aeK (x, x', ()) = some y) : (amL x x').toO = some y := by
 obtain ⟨⟨a, b⟩, hp, hx, rfl⟩ := aaF h
 obtain ⟨rfl, hx2⟩ := Prod.mk.inj hx; obtain ⟨rfl, -⟩ := Prod.mk.inj hx2; dsimp only
 obtain ⟨l1, l2, l3⟩ := hp
 dsimp only at l1 l2 l3
 have d1 := arW l1 zb
 have d2 := arW l2 zb
 obtain ⟨q, r, hq, hr, sq, sr, hneg, hpos⟩ := aOH (a := a) l3
 have bq : Bd 6 q.natAbs := by rw [hq]; exact acI _ l1
 have br : Bd 6 r.natAbs := by rw [hr]; exact agF _ l1
 have i1 : ad7 1 := ⟨by omega, by omega⟩
 have b1 : Bd 7 (1 : Int).natAbs := aaO (abL ze) zb
 unfold amL
 dsimp only
 refine uC _ (auX d1 d2 zb) ?_
 refine uC (pl q, ()) (aeN (by rw [← hq]; exact akR bq zb) hq.symm sq) ?_
 refine uC (pl r, ()) (aeN (by rw [← hr]; exact akR br zb) hr.symm sr) ?_
 dsimp only
 by_cases c : r < 0
 ·obtain ⟨e1, e2⟩ := hneg c
  refine uT (zn c) ?_
  have hpb : ae2 (pl r, (false, dig b.natAbs, ()), ()) = some (pl (r + b.natAbs), ()) := by
   have := al3 (a := r) (b := (b.natAbs : Int)) (aaO br zb) (aaO l2 zb)
   unfold pl at this ⊢
   rwa [zl (show ¬ ((b.natAbs : Int) < 0) by omega), ym] at this
  refine uC _ hpb ?_
  rw [e1, e2]
  by_cases c2 : b < 0
  ·rw [if_pos c2]
   exact uT (zn c2) (uC _ (agI i1) (uC _ (al3 (aaO bq zb) b1) rfl))
  ·rw [if_neg c2]
   exact uF (zl c2) (uC _ (agI i1) (uC _ (aEN (aaO bq zb) b1) rfl))
 ·obtain ⟨e1, e2⟩ := hpos c
  rw [e1, e2]
  exact uF (zl c) rfl
theorem auZ {s : List UInt8} (h : s.length ≤ 1000000000000) : aeJ (s, ()) = some ((rdW s).isSome, ()) := by unfold aeJ; rw [if_pos h]
theorem ax8 (a : List UInt8) (y) (h : aeJ (a, ()) = some y) : (amK a).toO = some y := by
 unfold aeJ at h
 split at h
 case isFalse => cases h
 case isTrue hl =>
 injection h with h
 subst h
 dsimp only at hl ⊢
 obtain ⟨j, t, b, hj, hat, hc⟩ : ∃ (j : Nat) (t : List UInt8) (b : Bool), j ≤ a.length ∧ (a.drop j = t ∧ (b = true ↔ j = 1) ∧ j ≤ 1 ∧ (∃ d : TT (vS ⊕ ud), True) ∧ ((TT.ite (decide (len a > 0)) (TT.need (asT Int 0 ≤ 0 ∧ 0 < len a) (TT.ite ((((gi a 0 0).toNat : Int)) == 45) (TT.ok (.inl (1, ()))) (TT.ok (.inl (0, ()))))) (TT.ok (.inl (0, ()))) : TT (vS ⊕ ud)).toO = some (.inl ((j : Int), ())))) ∧ abN (a, #[45].toList, ()) = some (t, b, ()) := by
  cases a with
  | nil => exact ⟨0, [], false, by simp, ⟨rfl, by simp, by omega, ⟨TT.bad, trivial⟩, uF rfl rfl⟩, rfl⟩
  | cons c a =>
   by_cases hcc : c = 45
   ·subst hcc
    refine ⟨1, a, true, by simp, ⟨rfl, by simp, by omega, ⟨TT.bad, trivial⟩, uT (by (try simp only [zV, xc, xi, xo, beq_eq_false_iff_ne, bne_eq_false_iff_eq, yc, xr]) <;> (try simp only [aaD, inb, inc, ge_iff_le, gt_iff_lt, zj, asT, ne_eq]) <;> simp) (uN ⟨by simp [asT], by (try simp only [aaD, inb, inc, ge_iff_le, gt_iff_lt, zj, asT, ne_eq]); simp⟩ (uT rfl rfl))⟩, ?_⟩
    simp [abN, List.isPrefixOf]
   ·refine ⟨0, c :: a, false, by simp, ⟨rfl, by simp, by omega, ⟨TT.bad, trivial⟩, uT (by (try simp only [zV, xc, xi, xo, beq_eq_false_iff_ne, bne_eq_false_iff_eq, yc, xr]) <;> (try simp only [aaD, inb, inc, ge_iff_le, gt_iff_lt, zj, asT, ne_eq]) <;> simp) (uN ⟨by simp [asT], by (try simp only [aaD, inb, inc, ge_iff_le, gt_iff_lt, zj, asT, ne_eq]); simp⟩ (uF ?_ rfl))⟩, ?_⟩
    ·rw [beq_eq_false_iff_ne]
     intro h
     exact hcc (UInt8.toNat_inj.1 (Int.ofNat.inj h))
    ·have : ¬ (45 = c) := fun h => hcc h.symm
     simp [abN, List.isPrefixOf, this]
 obtain ⟨ht, hb, hj1, -, hjoin⟩ := hat
 have htl : t.length = a.length - j := by rw [← ht]; simp
 have hget : ∀ k, a.getD (j + k) 0 = t.getD k 0 := by
  intro k; rw [← ht]; simp [yx, yA]
 have hnot : ¬ (isD t ∧ t ≠ [] ∧ t.length ≤ 600 ∧ (t.head? = some 48 → b = false ∧ t.length = 1)) → (rdW a).isSome = false := fun h => by rw [aFr hc h]; rfl
 have hyes : isD t → t ≠ [] → t.length ≤ 600 → (t.head? = some 48 → b = false ∧ t.length = 1) → (rdW a).isSome = true := fun h1 h2 h3 h4 => by
  obtain ⟨z, e1, -, -⟩ := aFq hc h1 h2 h3 h4
  rw [e1]; rfl
 unfold amK
 refine uL ((j : Int), ()) hjoin ?_
 unfold apW
 have hw : w64 (len a - (j : Int)) = (t.length : Int) := by rw [aaD, aaA zb]; omega
 simp only [hw]
 by_cases c1 : t = []
 ·rw [hnot (fun h => h.2.1 c1)]
  exact uR _ (uT (by rw [c1]; rfl) rfl)
 have hlen : 1 ≤ t.length := zK.2 c1
 by_cases c2 : t.length ≤ 600
 case neg =>
  rw [hnot (fun h => c2 h.2.2.1)]
  exact uR _ (uF sd (uT sd rfl))
 refine uL (false, ()) (uF sd (uF sd rfl)) ?_
 refine uO ((j : Int), ()) rfl ?_
 refine aaM (fun i : Int × Unit => ∃ k : Nat, i.1 = ((j + k : Nat) : Int) ∧ k ≤ t.length ∧ isD (t.take k)) (fun i => ((a.length : Int) - i.1).toNat) (fun _ => ((rdW a).isSome, ())) ?_ _ ⟨0, rfl, by omega, by simp [isD]⟩
 rintro ⟨i, u⟩ ⟨k, h3, h4, h5⟩
 simp only at h3
 subst h3
 simp only [apV, aaK, hget]
 rcases zv k t.length with hk | hk
 ·have e1 : t.getD k 0 = t[k] := by simp [hk]
  simp only [e1]
  by_cases d1 : t[k].toNat < 48
  ·right
   rw [hnot (fun h => by have := h.1 t[k] (yw hk); omega)]
   repeat refine za ?_
   rfl
  by_cases d2 : t[k].toNat > 57
  ·right
   rw [hnot (fun h => by have := h.1 t[k] (yw hk); omega)]
   repeat refine za ?_
   rfl
  ·left
   refine ⟨(((j + (k + 1) : Nat) : Int), ()), ?_, ⟨k + 1, rfl, by omega, ?_⟩, by simp only; omega, zd⟩
   ·repeat refine za ?_
    rw [aaJ, aaA (x := ((j + k : Nat) : Int) + 1) zb]; rfl
   ·rw [yf hk, isD_append]
    refine ⟨h5, fun c hc => ?_⟩
    have := zL.1 hc
    subst this
    omega
 ·right
  have hd : isD t := by rwa [zq hk] at h5
  have hg0 : a.getD j 0 = t.getD 0 0 := hget 0
  simp only [hg0]
  refine uF sd (uN ⟨by omega, by exact sn⟩ ?_)
  cases hct : t with
  | nil => exact absurd hct c1
  | cons c r =>
   rw [← hct]
   have hg : t.getD 0 0 = c := by rw [hct]; rfl
   simp only [hg]
   have hh : t.head? = some c := by rw [hct]; rfl
   by_cases c0 : c = 48
   ·subst c0
    refine uF rfl ?_
    show some (Sum.inr (len a == 1, ())) = _
    by_cases hl1 : a.length = 1
    ·rw [hyes hd c1 c2 (fun _ => ⟨by
      cases b with
      | false => rfl
      | true => have := hb.1 rfl; omega, by omega⟩)]
     rw [show (len a == 1) = true by rw [xi, aaD]; omega]
    ·rw [hnot (fun h => by
      obtain ⟨q1, q2⟩ := h.2.2.2 hh
      have : ¬ j = 1 := fun h => by rw [hb.2 h] at q1; cases q1
      omega)]
     rw [show (len a == 1) = false by rw [beq_eq_false_iff_ne, aaD]; omega]
   ·rw [hyes hd c1 c2 (fun h => by rw [hh] at h; injection h with h; exact absurd h c0)]
    refine uT ?_ rfl
    rw [xo]
    intro h
    exact c0 (UInt8.toNat_inj.1 (Int.ofNat.inj h))
theorem axR {a t : List UInt8} {j : Nat} (hd : isD t) (hget : ∀ k, a.getD (j + k) 0 = t.getD k 0) {s i e : Nat} (h1 : s ≤ i) (h2 : i < e) (h3 : e ≤ t.length) (h4 : e - s ≤ 4) : w64 (w64 ((num ((t.take i).drop s) : Int) * 10) + w64 (wu8 (((a.getD (j + i) 0).toNat : Int) - 48))) = (num ((t.take (i + 1)).drop s) : Int) := by
 have hi : i < t.length := zb
 have e1 : t.getD i 0 = t[i] := by simp [hi]
 have e2 := hd t[i] (yw hi)
 have e3 := ayN (alN (aoT hd i) s)
 rw [apH h1 zb] at e3
 have e4 : (10 : Nat) ^ (i - s) ≤ 10 ^ 3 := zP zb zb
 have e5 : dv t[i] = t[i].toNat - 48 := rfl
 rw [aB3 h1 hi, ai1, hget, e1, e5]
 rw [abR (x := (t[i].toNat : Int) - 48) zb, aaA (x := (t[i].toNat : Int) - 48) zb, aaA (x := (num ((t.take i).drop s) : Int) * 10) zb, aaA zb]
 omega
theorem aw9 {z : Int} (h : Fit z) : akV (dec z, ()) = some (pl z, ()) := aaN (enc := fun x : Int => (dec x, ())) z h (fun b hb => anA (Prod.mk.inj hb).1)
theorem aFG (a : List UInt8) (y) (h : akV (a, ()) = some y) : (aAO a).toO = some y := by
 obtain ⟨z, hp, hx, rfl⟩ := aaF h
 obtain ⟨rfl, -⟩ := Prod.mk.inj hx
 clear h hx
 have hfit : (aaY z.natAbs).length ≤ 600 := hp
 have hd := agE z.natAbs
 have hn := alJ z.natAbs
 have hne := aeA z.natAbs
 obtain ⟨j, hj, hget, hlen, hjoin⟩ : ∃ j : Nat, (j = if z < 0 then 1 else 0) ∧ (∀ k, (dec z).getD (j + k) 0 = (aaY z.natAbs).getD k 0) ∧ (dec z).length = j + (aaY z.natAbs).length ∧ ((TT.need (asT Int 0 ≤ 0 ∧ 0 < len (dec z)) (TT.ite ((((gi (dec z) 0 0).toNat : Int)) == 45) (TT.ok (.inl (1, ()))) (TT.ok (.inl (0, ())))) : TT (vS ⊕ (PlT × Unit))).toO = some (.inl ((j : Int), ()))) := by
  by_cases c : z < 0
  ·rw [agO c]
   refine ⟨1, by rw [if_pos c], fun k => by rw [yK]; simp, by simp; omega, uN ⟨by simp [asT], by (try simp only [aaD, inb, inc, ge_iff_le, gt_iff_lt, zj, asT, ne_eq]); simp⟩ (uT rfl rfl)⟩
  ·rw [ab4 zb]
   refine ⟨0, by rw [if_neg c], fun k => by rw [zo], by omega, uN ⟨by simp [asT], by exact sn⟩ (uF ?_ rfl)⟩
   have := acT z.natAbs
   cases hdn : aaY z.natAbs with
   | nil => exact absurd hdn (aeF _)
   | cons c l =>
    rw [hdn] at this
    show ((c.toNat : Int) == 45) = false
    rw [beq_eq_false_iff_ne]
    intro h
    have hc : c = 45 := UInt8.toNat_inj.1 (Int.ofNat.inj h)
    rw [hc] at this
    exact this rfl
 have hj1 : j ≤ 1 := by rw [hj]; split <;> omega
 have hjb : ((j : Int) == 1) = decide (z < 0) := by
  by_cases c : z < 0
  ·rw [zn c, hj, if_pos c]; rfl
  ·rw [zl c, hj, if_neg c]; rfl
 generalize aaY z.natAbs = t at *
 generalize dec z = a at *
 unfold aAO
 refine uL ((j : Int), ()) hjoin ?_
 refine uO ((a.length : Int), true, [], ()) rfl ?_
 refine aaM (fun i : Int × Bool × List Int × Unit => ∃ e : Nat, (i.1 = ((j + e : Nat) : Int) ∨ (e = 0 ∧ i.1 ≤ j ∧ -10 ≤ i.1)) ∧ e ≤ t.length ∧ Dg 10000 i.2.2.1 ∧ V 10000 i.2.2.1 + 10000 ^ i.2.2.1.length * num (t.take e) = z.natAbs ∧ i.2.2.1.length + e ≤ t.length ∧ (i.2.1 = true → i.2.2.1 = [])) (fun i => (i.1 + 20).toNat) (fun _ => (pl z, ())) ?_ _ ⟨t.length, Or.inl (show (a.length : Int) = _ by omega), zi _, aoF _, by simp [V]; omega, by simp, fun _ => rfl⟩
 rintro ⟨e', f, l, u⟩ ⟨e, g1, g3, g4, g5, g6, g7⟩
 simp only at g1 g4 g5 g6 g7
 rcases zF e with he | he
 ·right
  subst he
  have hle : e' ≤ j := zb
  have hv : V 10000 l = z.natAbs := by simpa [aAW] using g5
  have hm : aa7 ((j : Int) == 1, l, ()) = some (pl z, ()) := ar7 g4 zb hv (Or.inr hjb)
  cases f with
  | true =>
   obtain rfl := g7 rfl
   unfold ak7
   exact uT rfl (uF (zl (show ¬ (e' > (j : Int)) by omega)) (uC _ hm rfl))
  | false =>
   unfold ak7
   dsimp only
   rw [zp]
   exact uF rfl (uF (zl (show ¬ (e' > (j : Int)) by omega)) (uC _ hm rfl))
 ·left
  have he' : e' = ((j + e : Nat) : Int) := zb
  subst he'
  obtain ⟨s, hs, hs1, hs2, hs3, hs4⟩ : ∃ s : Nat, (if (j : Int) > w64 (((j + e : Nat) : Int) - 4) then (j : Int) else w64 (((j + e : Nat) : Int) - 4)) = ((j + s : Nat) : Int) ∧ s ≤ e ∧ e - s ≤ 4 ∧ (s = 0 ∨ s + 4 = e) ∧ s < e := by
   rw [aaA (x := ((j + e : Nat) : Int) - 4) zb]
   rcases zv e 4 with h9 | h9
   ·exact ⟨0, by rw [if_pos zb]; rfl, by omega, by omega, Or.inl rfl, by omega⟩
   ·exact ⟨e - 4, by rw [if_neg zb]; omega, by omega, by omega, Or.inr zb, by omega⟩
  have hseg := aGx (s := t) hs1 g3
  have hv := ayN (alN (aoT hd e) s)
  rw [apH hs1 g3] at hv
  have hv4 : (10 : Nat) ^ (e - s) ≤ 10 ^ 4 := zP zb hs2
  have hw4 : w64 (((j + e : Nat) : Int) - 4) = ((j + e : Nat) : Int) - 4 := aaA zb
  generalize hX : num ((t.take e).drop s) = X at hseg hv
  have hD : Dg 10000 (l ++ [(X : Int)]) := adS g4 (aiV zb zb)
  have hV1 : V 10000 (l ++ [(X : Int)]) + 10000 ^ (l ++ [(X : Int)]).length * (num (t.take s) : Int) = z.natAbs := by
   rw [adA, asZ, ← g5, hseg, zu, yh, yp]
   rcases hs3 with h0 | h0
   ·subst h0; simp [aAW]
   ·rw [show e - s = 4 by omega]
    have : (((num (t.take s) * 10 ^ 4 + X : Nat)) : Int) = (num (t.take s) : Int) * 10000 + X := zg
    rw [this]
    grind
  have inv : (((j + e : Nat) : Int) - 4 = ((j + s : Nat) : Int) ∨ (s = 0 ∧ ((j + e : Nat) : Int) - 4 ≤ j ∧ -10 ≤ ((j + e : Nat) : Int) - 4)) := zb
  refine ⟨(((j + e : Nat) : Int) - 4, false, l ++ [(X : Int)], ()), ?_, ⟨s, inv, by omega, hD, hV1, by simp; omega, by simp⟩, by simp only; omega, zd⟩
  cases f with
  | false =>
   simp only [ak7]
   refine uF rfl (uT sd (uO (((j + s : Nat) : Int), 0, ()) (by repeat refine za ?_; rw [hs]; rfl) ?_))
   refine aaM (fun i : Int × Int × Unit => ∃ q : Nat, s ≤ q ∧ q ≤ e ∧ i = (((j + q : Nat) : Int), (num ((t.take q).drop s) : Int), ())) (fun i => (((j + e : Nat) : Int) - i.1).toNat) (fun _ => (Sum.inl (((j + e : Nat) : Int) - 4, false, l ++ [(X : Int)], ()) : (Int × Bool × List Int × Unit) ⊕ (PlT × Unit))) ?_ _ ⟨s, zi _, hs1, by rw [yj zf]; rfl⟩
   rintro i ⟨q, h1, h2, rfl⟩
   rcases zv q e with hq | hq
   ·left
    refine ⟨(((j + (q + 1) : Nat) : Int), (num ((t.take (q + 1)).drop s) : Int), ()), ?_, ⟨q + 1, by omega, by omega, rfl⟩, by simp only; omega, zd⟩
    simp only [avS, aaK, axR hd hget h1 hq g3 hs2]
    refine uT sd (uN ⟨by omega, by exact sn⟩ ?_)
    repeat refine za ?_
    rw [aaJ, aaA (x := ((j + q : Nat) : Int) + 1) zb]; rfl
   ·right
    have hqe : q = e := zb
    subst hqe
    simp only [avS, hX, zp, hw4]
    refine uF sd (uN zb ?_)
    repeat refine za ?_
    rfl
  | true =>
   obtain rfl := g7 rfl
   simp only [ak7]
   refine uT rfl (uT sd (uO (((j + s : Nat) : Int), 0, ()) (by repeat refine za ?_; rw [hs]; rfl) ?_))
   refine aaM (fun i : Int × Int × Unit => ∃ q : Nat, s ≤ q ∧ q ≤ e ∧ i = (((j + q : Nat) : Int), (num ((t.take q).drop s) : Int), ())) (fun i => (((j + e : Nat) : Int) - i.1).toNat) (fun _ => (Sum.inl (((j + e : Nat) : Int) - 4, false, [(X : Int)], ()) : (Int × Bool × List Int × Unit) ⊕ (PlT × Unit))) ?_ _ ⟨s, zi _, hs1, by rw [yj zf]; rfl⟩
   rintro i ⟨q, h1, h2, rfl⟩
   rcases zv q e with hq | hq
   ·left
    refine ⟨(((j + (q + 1) : Nat) : Int), (num ((t.take (q + 1)).drop s) : Int), ()), ?_, ⟨q + 1, by omega, by omega, rfl⟩, by simp only; omega, zd⟩
    simp only [avT, aaK, axR hd hget h1 hq g3 hs2]
    refine uT sd (uN ⟨by omega, by exact sn⟩ ?_)
    repeat refine za ?_
    rw [aaJ, aaA (x := ((j + q : Nat) : Int) + 1) zb]; rfl
   ·right
    have hqe : q = e := zb
    subst hqe
    simp only [avT, hX, hw4]
    refine uF sd (uN zb ?_)
    repeat refine za ?_
    rfl
theorem auU {l : List Int} (h : Dg 10000 l) (k : Nat) : V 10000 (l.drop k) = V 10000 l / 10000 ^ k := by
 have h1 := ab1 10000 l k
 have h2 := acO zb h k
 have h3 := aaH zb (ab0 h k)
 rw [h1, wP _ _ (by have := avU (show (1 : Int) ≤ 10000 by omega) k; omega), xg h3 h2, wV]
theorem aAP {R b top first P : Int} (hP : 0 < P) (hb0 : 0 < b) (htop : 10000 ≤ top) (hb1 : top * P ≤ b) (hb2 : b < (top + 1) * P) (hf1 : first * P ≤ R) (hf2 : R < (first + 1) * P) (hR0 : 0 ≤ R) (hR : R < b * 10000) (hf0 : 0 ≤ first) :
  (first / (top + 1)) * b ≤ R ∧ R < (first / top + 1) * b ∧ first / top + 1 ≤ 10001 ∧ 0 ≤ first / (top + 1) ∧ first ≤ 100000000000000 * top := by
 have g1 := yi first (top + 1)
 have g2 := xy first (show top + 1 ≠ 0 by omega)
 have g3 := yi first top
 have g4 := xq first (show 0 < top by omega)
 have g7 := xy first (show top ≠ 0 by omega)
 have g5 := xC hf0 (show 0 ≤ top + 1 by omega)
 have g6 := xC hf0 (show 0 ≤ top by omega)
 generalize first / (top + 1) = L at *
 generalize first / top = H at *
 generalize first % (top + 1) = m1 at *
 generalize first % top = m2 at *
 refine ⟨?_, ?_, ?_, g5, ?_⟩
 ·have a1 : L * b ≤ L * ((top + 1) * P) := zy zb g5
  have a2 : L * ((top + 1) * P) = ((top + 1) * L) * P := by grind
  have a3 : ((top + 1) * L) * P ≤ first * P := zH zb zb
  omega
 ·have a1 : (H + 1) * (top * P) ≤ (H + 1) * b := zy hb1 zb
  have a2 : (H + 1) * (top * P) = (top * H + top) * P := by grind
  have a3 : (first + 1) * P ≤ (top * H + top) * P := zH zb zb
  omega
 ·have a1 : first * P < ((top + 1) * 10000) * P := by
   have : b * 10000 < ((top + 1) * P) * 10000 := zb
   have e : ((top + 1) * P) * 10000 = ((top + 1) * 10000) * P := by grind
   omega
  have a2 : first < (top + 1) * 10000 := zZ a1 zb
  have a3 : top * H < top * 10001 := zb
  have := yP a3 zb
  omega
 ·have a1 : first * P < ((top + 1) * 10000) * P := by
   have : b * 10000 < ((top + 1) * P) * 10000 := zb
   have e : ((top + 1) * P) * 10000 = ((top + 1) * 10000) * P := by grind
   omega
  have a2 : first < (top + 1) * 10000 := zZ a1 zb
  omega
theorem ax2 (m o : List Int) (y) (h : ag5 (m, o, ()) = some y) : (amF m o).toO = some y := by
 obtain ⟨⟨a, b⟩, hn, hx, rfl⟩ := aaF h
 obtain ⟨rfl, hx2⟩ := Prod.mk.inj hx; obtain ⟨rfl, -⟩ := Prod.mk.inj hx2; dsimp only
 obtain ⟨la, lb, hb0⟩ := hn
 simp only at la lb hb0
 clear h hx hx2
 have hda := acS a
 have hdb := acS b
 have hVa := af1 a
 have hVb := af1 b
 have hbl : 1 ≤ (dig b).length := by
  rcases zF (dig b).length with h5 | h5
  ·exact absurd (dig_nil_iff.1 (zT.1 h5)) hb0
  ·exact h5
 unfold amF
 by_cases h1 : (dig b).length = 1
 ·-- one digit
  refine uT sd (uN ⟨by simp [asT], by exact sn⟩ ?_)
  have hb1 : b < 10000 := by have := dig_length_le_iff.1 (xL h1); simpa using this
  have hdb1 : dig b = [(b : Int)] := aHA hb0 hb1
  have hg : gi (dig b) 0 0 = (b : Int) := by rw [hdb1]; rfl
  rw [hg]
  refine uC _ (aIn zb zb hb1) ?_
  have hm := yz a (show 0 < b by omega)
  generalize a % b = r at hm ⊢
  refine uC (dig r, ()) (aeS (aiV (show (0 : Int) ≤ (r : Int) by omega) (show (r : Int) < 10000 by omega)) zg (by simp [V])) rfl
 obtain ⟨n, hnl⟩ : ∃ n, (dig b).length = n + 2 := ⟨(dig b).length - 2, by omega⟩
 have w1 : w64 (len (dig b) - 1) = ((n + 1 : Nat) : Int) := by rw [aaD, hnl, aaA zb]; omega
 have w2 : w64 (((n + 1 : Nat) : Int) - 1) = ((n : Nat) : Int) := by rw [aaA zb]; omega
 have bge : 10000 ^ (n + 1) ≤ b := by have := apY (B := 10000) zb hb0; rw [show (aoK 10000 b).length = n + 2 from hnl] at this; exact this
 refine uF sd ?_
 simp only [w1]
 by_cases h2 : (dig a).length ≤ n + 1
 ·-- the dividend is shorter
  refine uT sd (uN zb ?_)
  have hab : a < b := zO (dig_length_le_iff.1 h2) bge
  rw [aaJ, yN hab, yr hab, dig_zero]
  simp
 have hq : ∃ M, (dig a).length = M + (n + 1) ∧ 0 < M := ⟨(dig a).length - (n + 1), by omega, by omega⟩
 obtain ⟨M, hM, hM0⟩ := hq
 have w3 : w64 (len (dig a) - ((n + 1 : Nat) : Int)) = (M : Int) := by rw [aaD, hM, aaA zb]; omega
 refine uF sd ?_
 simp only [w2, w3]
 refine uN sd (uN sd (uN zb (uN sd ?_)))
 simp only [zj]
 have htk : List.take ((dig a).length - M) ((dig a).drop M) = (dig a).drop M := zq zg
 simp only [htk]
 have htk2 : List.take (0 + ((dig a).drop M).length) (List.take 0 ([] : List Int) ++ (dig a).drop M) = (dig a).drop M := by rw [zo, List.take_zero, yk, zp]
 simp only [htk2]
 refine uN zf ?_
 have w4 : w64 ((M : Int) - 1) = (M : Int) - 1 := aaA zb
 refine uO ((M : Int) - 1, (dig a).drop M, List.replicate M 0, ()) ?_ ?_
 ·repeat refine za ?_
  rw [aaJ, w4]
 -- the first two digits of the divisor
 have dB1 := aaR zb hdb (n + 1)
 have dB0 := aaR zb hdb n
 have hBtop : 1 ≤ (dig b).getD (n + 1) 0 := by
  have hc := aCO b
  unfold Cn at hc
  rw [yO, hnl, show n + 2 - 1 = n + 1 by omega, zJ zb] at hc
  rw [ahK zb] at *
  rcases zS 0 (dig b)[n + 1] with h | h
  ·exact h
  ·exact absurd (by congr 1; omega) hc
 have htopV : V 10000 ((dig b).drop n) = (dig b).getD (n + 1) 0 * 10000 + (dig b).getD n 0 := by
  have e1 := aaI 10000 (dig b) n
  have e2 := aaI 10000 (dig b) (n + 1)
  have e3 := acH 10000 (l := dig b) (k := n + 1 + 1) zb
  omega
 have htop2 := auU hdb n
 rw [hVb] at htop2
 have hwtop : w64 (w64 (gi (dig b) ((n + 1 : Nat) : Int) 0 * 10000) + gi (dig b) (n : Int) 0) = (dig b).getD (n + 1) 0 * 10000 + (dig b).getD n 0 := by
  rw [aaK, aaK, aaA (x := (dig b).getD (n + 1) 0 * 10000) zb, aaA zb]
 have hwtop1 : w64 ((dig b).getD (n + 1) 0 * 10000 + (dig b).getD n 0 + 1) = (dig b).getD (n + 1) 0 * 10000 + (dig b).getD n 0 + 1 := aaA zb
 have htop3 : 10000 ≤ (dig b).getD (n + 1) 0 * 10000 + (dig b).getD n 0 ∧ (dig b).getD (n + 1) 0 * 10000 + (dig b).getD n 0 < 100000000 := zb
 rw [← htopV] at htop3
 have hP : (0 : Int) < 10000 ^ n := yI zb
 have hbt1 : V 10000 ((dig b).drop n) * 10000 ^ n ≤ (b : Int) := by
  rw [htop2]; exact Int.ediv_mul_le _ zb
 have hbt2 : (b : Int) < (V 10000 ((dig b).drop n) + 1) * 10000 ^ n := by
  rw [htop2]; exact Int.lt_ediv_add_one_mul_self _ hP
 rw [← htopV] at hwtop hwtop1
 generalize htv : V 10000 ((dig b).drop n) = top at *
 clear htopV htop2 dB1 dB0 hBtop htv
 have hR0 : V 10000 ((dig a).drop M) < (b : Int) := by
  have := aEI zb (acC hda M)
  rw [ye, show (dig a).length - M = n + 1 by omega] at this
  have hb2 : ((10000 ^ (n + 1) : Nat) : Int) ≤ (b : Int) := Int.ofNat_le.2 bge
  rw [Int.natCast_pow] at hb2
  exact Int.lt_of_lt_of_le this hb2
 have hcR0 : Cn ((dig a).drop M) := by
  have hc := aCO a
  unfold Cn at hc ⊢
  rw [List.getLast?_drop, if_neg zb]
  exact hc
 refine aaM (fun i : Int × List Int × List Int × Unit => ∃ (k : Nat) (R : Nat), k ≤ M ∧ i.1 = (k : Int) - 1 ∧ i.2.1 = dig R ∧ R < b ∧ i.2.2.1.length = M ∧ Dg 10000 i.2.2.1 ∧ V 10000 ((dig a).drop k) = V 10000 (i.2.2.1.drop k) * b + R) (fun i => (i.1 + 1).toNat) (fun _ => (dig (a / b), dig (a % b), ())) ?_ _ ?_
 case refine_2 =>
  obtain ⟨R, hR⟩ := zG (aaH zb (acC hda M))
  refine ⟨M, R, zi _, rfl, awI (acC hda M) hcR0 hR, by omega, by simp, afD zb _, ?_⟩
  rw [hR, acH _ zg]; simp
 rintro ⟨i, r, q, u⟩ ⟨k, R, g1, g2, g3, g4, g5, g6, g7⟩
 dsimp only at g2 g3 g5 g6 g7
 subst g2 g3
 cases k with
 | zero =>
  right
  simp only [yv, hVa] at g7
  obtain ⟨v, hv⟩ := zG (aaH zb g6)
  rw [hv] at g7
  have h8 : a = v * b + R := by
   have : (a : Int) = ((v * b + R : Nat) : Int) := by simpa using g7
   exact Int.ofNat.inj this
  have h9 : a / b = v := by rw [h8, yK, wg _ _ zb, yN zb, zo]
  have h10 : a % b = R := by rw [h8, yK, xF, yr zb]
  simp only [aj6, w1, w3, zj]
  refine uF sd (uC (dig v, ()) ?_ ?_)
  ·rw [zq zb]
   exact aeS g6 zb hv
  ·rw [aaJ, h9, h10]
 | succ j =>
  left
  have e6 : ((j + 1 : Nat) : Int) - 1 = (j : Int) := zb
  rw [e6]
  have da := aaR zb hda j
  obtain ⟨d, hd⟩ := zG da.1
  have lR : (dig R).length ≤ n + 2 := by rw [← hnl]; exact abZ zb
  -- the next rest
  obtain ⟨R', hR'⟩ : ∃ R', R' = d + 10000 * R := ⟨_, rfl⟩
  have hR'b : R' < b * 10000 := zb
  have hcut : acE ((dig a).getD j 0 :: dig R, ()) = some (dig R', ()) := by
   rw [hd]
   refine aeS (axC ⟨by omega, by omega⟩ (acS R)) zf ?_
   simp only [V, af1, hR']; simp
  have lR' : (dig R').length ≤ n + 3 := by
   rw [dig_length_le_iff]
   have := dig_length_le_iff.1 (xL hnl)
   rw [show n + 3 = (n + 2) + 1 by omega, yH]
   exact zO hR'b (zI _ (Nat.le_of_lt this))
  have hdR := acS R'
  have hVR := af1 R'
  -- its first three digits
  have hf := auU hdR n
  rw [hVR] at hf
  have hf1 : V 10000 ((dig R').drop n) * 10000 ^ n ≤ (R' : Int) := by rw [hf]; exact Int.ediv_mul_le _ zb
  have hf2 : (R' : Int) < (V 10000 ((dig R').drop n) + 1) * 10000 ^ n := by rw [hf]; exact Int.lt_ediv_add_one_mul_self _ hP
  have hf0 := aaH zb (acC hdR n)
  obtain ⟨k1, k2, k3, k4, k5⟩ := aAP hP zb htop3.1 hbt1 hbt2 hf1 hf2 zb zb hf0
  have hfirst : ac0 (fun i1 => (adU (dig a) (dig b) ((j : Int), dig R, q, ()) (dig R', ()) i1).toO) (((n + 2 : Nat) : Int), 0, ()) = ac0 (fun i1 => (adU (dig a) (dig b) ((j : Int), dig R, q, ()) (dig R', ()) i1).toO) ((n : Int) - 1, V 10000 ((dig R').drop n), ()) := by
   have st : ∀ (t : Nat) (v : Int), n ≤ t → t ≤ n + 2 → v = V 10000 ((dig R').drop (t + 1)) → (adU (dig a) (dig b) ((j : Int), dig R, q, ()) (dig R', ()) ((t : Int), v, ())).toO = some (.inl ((t : Int) - 1, V 10000 ((dig R').drop t), ())) := by
    intro t v ht1 ht2 hv
    have e1 := aaI 10000 (dig R') t
    have e2 := aaR zb hdR t
    have e3 := aaH zb (acC hdR (t + 1))
    have e4 : V 10000 ((dig R').drop (t + 1)) < 10000 ^ 2 := by
     have := aEI zb (acC hdR (t + 1))
     have h7 : (10000 : Int) ^ ((dig R').drop (t + 1)).length ≤ 10000 ^ 2 := aAR zb (by rw [ye]; omega)
     omega
    subst hv
    simp only [adU, w1, w2, aaK]
    refine uT sd ?_
    by_cases ct : t < (dig R').length
    ·refine uT sd (uN sd ?_)
     repeat refine za ?_
     rw [aaJ, aaA (x := (t : Int) - 1) zb, aaA (x := V 10000 ((dig R').drop (t + 1)) * 10000) zb, aaA zb, e1, Int.add_comm, yZ]
    ·refine uF sd ?_
     repeat refine za ?_
     rw [afT zb] at e1
     rw [aaJ, aaA (x := (t : Int) - 1) zb, aaA zb, e1, wV, yZ]
   have s1 := st (n + 2) 0 zb zb (by rw [acH _ zb])
   rw [show (((n + 2 : Nat) : Int)) - 1 = ((n + 1 : Nat) : Int) by omega] at s1
   rw [aeE s1]
   have s2 := st (n + 1) _ zb zb rfl
   rw [show (((n + 1 : Nat) : Int)) - 1 = ((n : Nat) : Int) by omega] at s2
   rw [aeE s2]
   rw [aeE (st n _ zb zb rfl)]
  -- the search
  obtain ⟨Q, hQ⟩ : ∃ Q : Nat, Q = R' / b := ⟨_, rfl⟩
  have hQm := wR R' b
  have hQl := yz R' (show 0 < b by omega)
  rw [← hQ] at hQm
  have hQ4 : Q < 10000 := by
   rw [hQ, yS zb, yV]; exact hR'b
  have hRQ : (R' : Int) = (Q : Int) * b + ((R' % b : Nat) : Int) := by
   have : (R' : Int) = ((R' % b + b * Q : Nat) : Int) := by rw [hQm]
   rw [this]; simp; rw [yZ]; omega
  have res : ac0 (fun i1 => (adU (dig a) (dig b) ((j : Int), dig R, q, ()) (dig R', ()) i1).toO) (((n + 2 : Nat) : Int), 0, ()) = some (Sum.inl ((j : Int) - 1, dig (R' % b), q.set j (Q : Int), ())) := by
   rw [hfirst]
   refine adY ?_
   simp only [adU, w1, w2, hwtop, hwtop1]
   refine uF sd (uN zb (uN zb ?_))
   have hd1 : Int.tdiv (V 10000 ((dig R').drop n)) top = V 10000 ((dig R').drop n) / top := zM hf0
   have hd2 : Int.tdiv (V 10000 ((dig R').drop n)) (top + 1) = V 10000 ((dig R').drop n) / (top + 1) := zM hf0
   simp only [hd1, hd2]
   have hn1 := xC hf0 (show 0 ≤ top by omega)
   have hlow : V 10000 ((dig R').drop n) / (top + 1) ≤ Q := by
    have : V 10000 ((dig R').drop n) / (top + 1) * b < ((Q : Int) + 1) * b := by
     rw [Int.add_mul]; omega
    have := zZ this zb
    omega
   have hhigh : (Q : Int) < V 10000 ((dig R').drop n) / top + 1 := by
    have : (Q : Int) * b < (V 10000 ((dig R').drop n) / top + 1) * b := zb
    exact zZ this zb
   have wH : w64 (w64 (V 10000 ((dig R').drop n) / top) + 1) = V 10000 ((dig R').drop n) / top + 1 := by
    rw [aaA (x := V 10000 ((dig R').drop n) / top) zb, aaA zb]
   have wL : w64 (V 10000 ((dig R').drop n) / (top + 1)) = V 10000 ((dig R').drop n) / (top + 1) := aaA zb
   simp only [wH, wL]
   generalize V 10000 ((dig R').drop n) / top + 1 = H at *
   generalize V 10000 ((dig R').drop n) / (top + 1) = L at *
   refine uO (H, L, ()) (by repeat refine za ?_; rfl) ?_
   refine aaM (fun i2 : Int × Int × Unit => 0 ≤ i2.2.1 ∧ i2.2.1 ≤ Q ∧ (Q : Int) < i2.1 ∧ i2.1 ≤ 10001) (fun i2 => (i2.1 - i2.2.1).toNat) (fun _ => (.inr (.inl ((j : Int) - 1, dig (R' % b), q.set j (Q : Int), ())) : (Int × Int × Unit) ⊕ ((Int × List Int × List Int × Unit) ⊕ (List Int × List Int × Unit)))) ?_ _ ⟨k4, hlow, hhigh, k3⟩
   rintro ⟨hi, lo, u3⟩ ⟨c1, c2, c3, c4⟩
   dsimp only at c1 c2 c3 c4
   have wd : w64 (hi - lo) = hi - lo := aaA zb
   simp only [apP, wd]
   by_cases hgap : hi - lo > 1
   ·left
    have wm : w64 (Int.tdiv (w64 (lo + hi)) 2) = (lo + hi) / 2 := by
     rw [aaA (x := lo + hi) zb, zM zb, aaA zb]
    simp only [wm]
    obtain ⟨mm, hmm⟩ := zG (show 0 ≤ (lo + hi) / 2 by omega)
    rw [hmm]
    have hmB : mm ≤ 10000 ∧ 1 ≤ mm := zb
    have hprod : abH (dig b, [(mm : Int)], ()) = some (dig (b * mm), ()) := by
     refine aiS hdb ?_ zb zg (by rw [hVb]; simp [V])
     by_cases cm : mm = 10000
     ·right; rw [cm]; rfl
     ·left; exact aiV zb zb
    have lbm : (dig (b * mm)).length ≤ 1000000000000 := by
     have : (dig (b * mm)).length ≤ (dig b).length + 2 := by
      rw [dig_length_le_iff, wJ]
      have q1 := dig_length_le_iff.1 (zi (dig b).length)
      exact Nat.mul_lt_mul'' q1 zb
     omega
    have hcutp : acE (dig (b * mm), ()) = some (dig (b * mm), ()) := aeS (acS _) lbm (af1 _)
    obtain ⟨o1, o2⟩ := aCj (b * mm) R'
    have hle : aLe (dig (b * mm)) (dig R') ≤ 0 ↔ b * mm ≤ R' := zb
    have hmQ : b * mm ≤ R' ↔ mm ≤ Q := by
     rw [hQ, Nat.le_div_iff_mul_le zb, yV]
    by_cases cm : mm ≤ Q
    ·refine ⟨(hi, (mm : Int), ()), ?_, ⟨by dsimp only; omega, by dsimp only; omega, c3, c4⟩, by dsimp only; omega, zd⟩
     refine uT (zn hgap) (uV ?_)
     refine uC _ hprod (uC _ hcutp (uC _ (anJ _ _ (acS _) (acS _) lbm zb) (uT (zn (hle.2 (hmQ.2 cm))) ?_)))
     repeat refine za ?_
     rfl
    ·refine ⟨((mm : Int), lo, ()), ?_, ⟨c1, c2, by dsimp only; omega, by dsimp only; omega⟩, by dsimp only; omega, zd⟩
     refine uT (zn hgap) (uV ?_)
     refine uC _ hprod (uC _ hcutp (uC _ (anJ _ _ (acS _) (acS _) lbm zb) (uF (zl (fun h => cm (hmQ.1 (hle.1 h)))) ?_)))
     repeat refine za ?_
     rfl
   ·right
    have hlQ : lo = Q := zb
    subst hlQ
    refine uF (zl hgap) ?_
    simp only [w1, w3, zj]
    refine uN ⟨by omega, by omega⟩ ?_
    have hprod : abH (dig b, [(Q : Int)], ()) = some (dig (b * Q), ()) := aiS hdb (Or.inl (aiV zb zb)) zb zg (by rw [hVb]; simp [V])
    have hdiff : aa3 (dig R', dig (b * Q), ()) = some (dig (R' % b), ()) := by
     have := aiT (a := dig R') (b := dig (b * Q)) (n := R' % b) (acS _) (acS _) zb (abZ zb) (by rw [af1, af1]; omega) (by rw [af1, af1]; omega)
     exact this
    refine uC _ hprod (uC _ hdiff ?_)
    repeat refine za ?_
    rw [aaJ, aaA (x := (j : Int) - 1) zb, zo]
  refine ⟨((j : Int) - 1, dig (R' % b), q.set j (Q : Int), ()), ?_, ⟨j, R' % b, by omega, rfl, rfl, hQl, by simp; omega, ahC g6 ⟨by omega, by omega⟩ _, ?_⟩, by dsimp only; omega, zd⟩
  ·simp only [aj6, aaK, w1]
   have htk3 : List.take (1 + (dig R).length) ([(dig a).getD j 0] ++ dig R) = (dig a).getD j 0 :: dig R := by
    rw [zq zf]; rfl
   simp only [htk3]
   have w5 : w64 (((n + 1 : Nat) : Int) + 1) = ((n + 2 : Nat) : Int) := by rw [aaA zb]; omega
   simp only [w5]
   refine uT sd (uN sd (uN zb (uC _ hcut ?_)))
   refine uO (((n + 2 : Nat) : Int), 0, ()) (by repeat refine za ?_; rfl) ?_
   exact res
  ·dsimp only
   rw [aaI 10000 (dig a) j, hd, g7, aaI 10000 (q.set j _) j, akD zb, afW _ zb]
   have : (d : Int) + 10000 * (V 10000 (q.drop (j + 1)) * b + R) = 10000 * (V 10000 (q.drop (j + 1)) * b) + R' := by rw [hR']; simp; grind
   rw [this, hRQ]
   grind
theorem aB8 {p q : Rat × Rat} (h : (ra p.1, ra p.2, ()) = (ra q.1, ra q.2, ())) : p = q := by
 obtain ⟨h1, h2⟩ := Prod.mk.inj h
 obtain ⟨h2, -⟩ := Prod.mk.inj h2
 exact Prod.ext (aFv h1) (aFv h2)
theorem an8 (n d : Int) (hd : d ≠ 0) : ∃ s : Int, s.natAbs = n.natAbs ∧ Rat.divInt n d = mkRat s d.natAbs ∧ s = (if d < 0 then -n else n) := by
 rcases zS d 0 with c | c
 ·refine ⟨-n, by omega, ?_, by rw [if_pos c]⟩
  rw [← Rat.neg_divInt_neg, ← wo]
  congr 1; omega
 ·refine ⟨n, rfl, ?_, by rw [if_neg zb]⟩
  rw [← wo]
  congr 1; omega
theorem aEA {k : Nat} {n d : Int} (hd : d ≠ 0) (h1 : Bd k n.natAbs) (h2 : Bd k d.natAbs) : BdQ k (Rat.divInt n d) := by
 obtain ⟨s, e1, e2, -⟩ := an8 n d hd
 obtain ⟨g, t, hg, g0, e0, f1, f2⟩ := afN s (d := d.natAbs) zb
 rw [e2]
 refine ⟨?_, ?_⟩
 ·rw [f1, ← afG e0 g0, e1]; exact acI _ h1
 ·rw [f2]; exact acI _ h2
theorem akW {n d : Int} (h1 : Bd 6 n.natAbs) (h2 : Bd 6 d.natAbs) (h3 : d ≠ 0) : aeH (pl n, pl d, ()) = some (ra (Rat.divInt n d), ()) := aaN (enc := fun x : Int × Int => (pl x.1, pl x.2, ())) (n, d) ⟨h1, h2, h3⟩ (fun b hb => ai0 hb)
theorem aA1 {s : Int} {d : Nat} (hd : d ≠ 0) (h1 : Bd 6 s.natAbs) (h2 : Bd 6 d) : ∃ g : Nat, g = Nat.gcd s.natAbs d ∧ g ≠ 0 ∧ Bd 6 g ∧ s / (g : Int) = (mkRat s d).num ∧ (d : Int) / (g : Int) = ((mkRat s d).den : Int) := by
 obtain ⟨g, t, hg, g0, e0, f1, f2⟩ := afN s hd
 refine ⟨g, hg, g0, by rw [hg]; exact ae6 h1 h2, ?_, ?_⟩
 ·rw [f1, e0, Int.mul_ediv_cancel_left _ zb]
 ·rw [f2]; simp
theorem avP (x x' : PlT) (y) (h : aeH (x, x', ()) = some y) : (aj4 x x').toO = some y := by
 obtain ⟨⟨n, d⟩, hp, hx, rfl⟩ := aaF h
 obtain ⟨rfl, hx2⟩ := Prod.mk.inj hx; obtain ⟨rfl, -⟩ := Prod.mk.inj hx2; dsimp only
 obtain ⟨l1, l2, l3⟩ := hp
 dsimp only at l1 l2 l3
 obtain ⟨s, e1, e2, e3⟩ := an8 n d l3
 obtain ⟨g, hg, g0, bg, q1, q2⟩ := aA1 (s := s) (d := d.natAbs) zb (by rw [e1]; exact l1) l2
 rw [e2]
 unfold aj4
 dsimp only
 have hgcd : Nat.gcd s.natAbs d.natAbs = g := hg.symm
 have g0' : (g : Int) ≠ 0 := zb
 by_cases c : d < 0
 ·rw [if_pos c] at e3
  subst e3
  refine uT (zn c) ?_
  refine uC _ (ar8 (aaO l1 zb)) (uC _ (ar8 (aaO l2 zb)) ?_)
  have hdv := aiU (a := -n) (b := -d) (adP (aaO l1 zb)) (adP (aaO l2 zb))
  rw [wI d, hgcd] at hdv
  refine uC _ hdv ?_
  refine uC _ (ajM (b := (g : Int)) (adP l1) bg g0') ?_
  refine uC _ (ajM (b := (g : Int)) (adP l2) bg g0') ?_
  rw [q1, show -d = (d.natAbs : Int) by omega, q2]; rfl
 ·rw [if_neg c] at e3
  subst e3
  refine uF (zl c) ?_
  have hdv := aiU (a := s) (b := d) (aaO l1 zb) (aaO l2 zb)
  rw [hgcd] at hdv
  refine uC _ hdv ?_
  refine uC _ (ajM (b := (g : Int)) l1 bg g0') ?_
  refine uC _ (ajM (b := (g : Int)) l2 bg g0') ?_
  rw [q1, show d = (d.natAbs : Int) by omega, ym, q2]; rfl
theorem aCA {n : Int} (h : ad7 n) : Bd 0 n.natAbs := abL (by have := h.1; have := h.2; omega)
theorem aEL {n d : Int} (h1 : ad7 n) (h2 : ad7 d) (h3 : d ≠ 0) : ajE (n, d, ()) = some (ra (Rat.divInt n d), ()) := aaN (enc := fun x : Int × Int => (x.1, x.2, ())) (n, d) ⟨h1, h2, h3⟩ (fun b hb => by
 obtain ⟨e1, e2⟩ := Prod.mk.inj hb
 obtain ⟨e2, -⟩ := Prod.mk.inj e2
 exact Prod.ext e1 e2)
theorem ax0 (n d : Int) (y) (h : ajE (n, d, ()) = some y) : (atI n d).toO = some y := by
 obtain ⟨⟨n', d'⟩, hp, hx, rfl⟩ := aaF h
 obtain ⟨rfl, hx2⟩ := Prod.mk.inj hx; obtain ⟨rfl, -⟩ := Prod.mk.inj hx2; dsimp only
 obtain ⟨l1, l2, l3⟩ := hp
 exact uC _ (agI l1) (uC _ (agI l2) (uC _ (akW (aaO (aCA l1) zb) (aaO (aCA l2) zb) l3) rfl))
theorem ajL {s : FxT} (h : shF s) : adB (s, ()) = some ((rdF s).isSome, ()) := by unfold adB; rw [if_pos h]
theorem axZ (a : FxT) (y) (h : adB (a, ()) = some y) : (amE a).toO = some y := by
 unfold adB at h
 split at h
 case isFalse => cases h
 case isTrue hl =>
 injection h with h
 subst h
 obtain ⟨s, t, u⟩ := a
 obtain ⟨l1, l2⟩ := hl
 dsimp only at l1 l2 ⊢
 have hs := aKK s t
 unfold amE
 refine uC _ (auZ l1) ?_
 cases hn : rdW s with
 | none =>
  rw [hn] at hs
  rw [show rdF (s, t, u) = none from hs]
  exact uT rfl rfl
 | some n =>
  refine uF rfl (uC _ (auZ l2) ?_)
  cases hd : rdW t with
  | none =>
   rw [hn, hd] at hs
   rw [show rdF (s, t, u) = none from hs]
   exact uT rfl rfl
  | some d =>
   rw [hn, hd] at hs
   dsimp only at hs
   obtain ⟨f1, rfl⟩ := ahD hn
   obtain ⟨f2, rfl⟩ := ahD hd
   have b1 := az3 f1
   have b2 := az3 f2
   refine uF rfl (uC _ (aw9 f1) (uC _ (aw9 f2) ?_))
   dsimp only
   by_cases hp : 0 < d
   case neg =>
    rw [dif_neg (fun h => hp h.1)] at hs
    rw [show rdF (dec n, dec d, u) = none from hs]
    by_cases c : d < 0
    ·exact uT (zn c) rfl
    ·have : d = 0 := zb
     subst this
     exact uF rfl (uT (by rw [Int.natAbs_zero, dig_zero]; rfl) rfl)
   refine uF sd (uF ?_ ?_)
   ·rw [beq_eq_false_iff_ne, aaD]
    intro h
    have := dig_nil_iff.1 (zT.1 (show (dig d.natAbs).length = 0 by omega))
    omega
   have hdv := aiU (a := n) (b := d) (aaO b1 zb) (aaO b2 zb)
   refine uC _ hdv (uC _ (aAe (aaO (ae6 b1 b2) zb)) ?_)
   have h1 : aaY 1 = #[49].toList := by rw [abK zb]; rfl
   rw [aaJ, akL]
   by_cases hcop : n.natAbs.Coprime d.natAbs
   ·rw [dif_pos ⟨hp, hcop⟩] at hs
    rw [show rdF (dec n, dec d, u) = some _ from hs]
    have : Nat.gcd n.natAbs d.natAbs = 1 := hcop
    rw [this, h1]; rfl
   ·rw [dif_neg (fun h => hcop h.2)] at hs
    rw [show rdF (dec n, dec d, u) = none from hs]
    have : (aaY (Nat.gcd n.natAbs d.natAbs) == #[49].toList) = false := by
     rw [beq_eq_false_iff_ne]
     exact fun h => hcop (aoV (h.trans h1.symm))
    rw [this]; rfl
theorem aw8 {q : Rat} (h : al4 q) : akU (fx q, ()) = some (ra q, ()) := aaN (enc := fun x : Rat => (fx x, ())) q h (fun b hb => aLm (Prod.mk.inj hb).1)
theorem aFz (a : FxT) (y) (h : akU (a, ()) = some y) : (aFy a).toO = some y := by
 obtain ⟨q, hp, hx, rfl⟩ := aaF h
 obtain ⟨rfl, -⟩ := Prod.mk.inj hx
 refine uC _ (aw9 hp.1) (uC (pl q.den, ()) ?_ rfl)
 have := aw9 hp.2
 rwa [akL] at this
theorem aw7 {q : Rat} (h : BdQ 6 q) : ajF (ra q, ()) = some (wrF q) := aaN (enc := fun x : Rat => (ra x, ())) q h (fun b hb => aFv (Prod.mk.inj hb).1)
theorem aDn (x : RaT) (y) (h : ajF (x, ()) = some y) : (aCa x).toO = some y := by
 obtain ⟨q, hp, hx, rfl⟩ := aaF h
 obtain ⟨rfl, -⟩ := Prod.mk.inj hx
 refine uC _ (aCX hp.1) (uC _ (aCX (z := (q.den : Int)) hp.2) ?_)
 by_cases c1 : Fit q.num
 ·rw [au4 c1]
  by_cases c2 : Fit q.den
  ·rw [aAo ⟨c1, c2⟩, au4 c2]
   refine uF rfl (uF rfl ?_)
   rw [aaJ, akL]
  ·rw [aEX (fun h => c2 h.2), au5 c2]
   exact uF rfl (uT rfl rfl)
 ·rw [au5 c1, aEX (fun h => c1 h.1)]
  exact uT rfl rfl
theorem aIl {p q : Rat} (h1 : BdQ 3 p) (h2 : BdQ 3 q) : ar3 (ra p, ra q, ()) = some (ra (p + q), ()) := aaN (enc := fun x : Rat × Rat => (ra x.1, ra x.2, ())) (p, q) ⟨h1, h2⟩ (fun b hb => aB8 hb)
theorem aLP (x x' : RaT) (y) (h : ar3 (x, x', ()) = some y) : (aFw x x').toO = some y := by
 obtain ⟨⟨p, q⟩, hp, hx, rfl⟩ := aaF h
 obtain ⟨rfl, hx2⟩ := Prod.mk.inj hx; obtain ⟨rfl, -⟩ := Prod.mk.inj hx2; dsimp only
 obtain ⟨⟨p1, p2⟩, q1, q2⟩ := hp
 dsimp only at p1 p2 q1 q2
 have t1 := aaP p1 (abP q2)
 have t2 := aaP q1 (abP p2)
 have t3 := aaP (abP p2) (abP q2)
 refine uC _ (ahB (aaO p1 zb) (abP (aaO q2 zb))) ?_
 refine uC _ (ahB (aaO q1 zb) (abP (aaO p2 zb))) ?_
 refine uC _ (al3 (aaO t1 zb) (aaO t2 zb)) ?_
 refine uC _ (ahB (a := (p.den : Int)) (b := (q.den : Int)) (abP (aaO p2 zb)) (abP (aaO q2 zb))) ?_
 have hd : (p.den : Int) * (q.den : Int) ≠ 0 := by
  have := yX p.den_nz q.den_nz
  rw [← yE]; omega
 refine uC _ (akW (aaO (abQ t1 t2) zb) (aaO t3 zb) hd) ?_
 have : Rat.divInt (p.num * q.den + q.num * p.den) ((p.den : Int) * q.den) = p + q := by
  rw [← yE, wo, Rat.add_def']
 rw [this]; rfl
theorem aEK {p q : Rat} (h1 : BdQ 3 p) (h2 : BdQ 3 q) : ajD (ra p, ra q, ()) = some (ra (p * q), ()) := aaN (enc := fun x : Rat × Rat => (ra x.1, ra x.2, ())) (p, q) ⟨h1, h2⟩ (fun b hb => aB8 hb)
theorem axY (x x' : RaT) (y) (h : ajD (x, x', ()) = some y) : (atH x x').toO = some y := by
 obtain ⟨⟨p, q⟩, hp, hx, rfl⟩ := aaF h
 obtain ⟨rfl, hx2⟩ := Prod.mk.inj hx; obtain ⟨rfl, -⟩ := Prod.mk.inj hx2; dsimp only
 obtain ⟨⟨p1, p2⟩, q1, q2⟩ := hp
 dsimp only at p1 p2 q1 q2
 refine uC _ (ahB (aaO p1 zb) (aaO q1 zb)) ?_
 refine uC _ (ahB (a := (p.den : Int)) (b := (q.den : Int)) (abP (aaO p2 zb)) (abP (aaO q2 zb))) ?_
 have hd : (p.den : Int) * (q.den : Int) ≠ 0 := by
  have := yX p.den_nz q.den_nz
  rw [← yE]; omega
 refine uC _ (akW (aaO (aaP p1 q1) zb) (aaO (aaP (abP p2) (abP q2)) zb) hd) ?_
 have : Rat.divInt (p.num * q.num) ((p.den : Int) * q.den) = p * q := by
  rw [← yE, wo, Rat.mul_def']
 rw [this]; rfl
theorem aFx (n d : Int) (y) (h : ar4 (n, d, ()) = some y) : (aAE n d).toO = some y := by
 unfold ar4 aAc at h
 split at h
 case isFalse => cases h
 case isTrue hp =>
 obtain ⟨i1, i2⟩ := hp
 dsimp only at i1 i2 h
 unfold ofQ at h
 unfold aAE
 by_cases c : d = 0
 ·rw [if_pos c] at h
  exact uT (by rw [c]; rfl) h
 ·rw [if_neg c] at h
  refine uF (by simpa using c) (uC _ (aEL i1 i2 c) (uC _ (aw7 (aEA c (aaO (aCA i1) zb) (aaO (aCA i2) zb))) h))
theorem aMN (a b : FxT) (y) (h : aCW (a, b, ()) = some y) : (aI5 a b).toO = some y := by
 unfold aCW at h
 split at h
 case isFalse => cases h
 case isTrue hp =>
 obtain ⟨s1, s2⟩ := hp
 unfold aw3 aMQ at h
 dsimp only at h s1 s2
 refine uC _ (ajL s1) ?_
 cases ha : rdF a with
 | none => simp only [ha] at h; exact uT rfl h
 | some p =>
  refine uF rfl (uC _ (ajL s2) ?_)
  cases hb : rdF b with
  | none => simp only [ha, hb] at h; exact uT rfl h
  | some q =>
   simp only [ha, hb] at h
   refine uF rfl ?_
   have b1 := ajQ ha
   have b2 := ajQ hb
   obtain ⟨f1, rfl⟩ := ahE ha
   obtain ⟨f2, rfl⟩ := ahE hb
   refine uC _ (aw8 f1) (uC _ (aw8 f2) ?_)
   exact uC _ (aIl (ah1 b1 zb) (ah1 b2 zb)) (uC _ (aw7 (ah1 (aH2 b1 b2) zb)) h)
theorem aDo (a b : FxT) (y) (h : ajG (a, b, ()) = some y) : (aCb a b).toO = some y := by
 unfold ajG at h
 split at h
 case isFalse => cases h
 case isTrue hp =>
 obtain ⟨s1, s2⟩ := hp
 unfold aw2 aMQ at h
 dsimp only at h s1 s2
 refine uC _ (ajL s1) ?_
 cases ha : rdF a with
 | none => simp only [ha] at h; exact uT rfl h
 | some p =>
  refine uF rfl (uC _ (ajL s2) ?_)
  cases hb : rdF b with
  | none => simp only [ha, hb] at h; exact uT rfl h
  | some q =>
   simp only [ha, hb] at h
   refine uF rfl ?_
   have b1 := ajQ ha
   have b2 := ajQ hb
   obtain ⟨f1, rfl⟩ := ahE ha
   obtain ⟨f2, rfl⟩ := ahE hb
   refine uC _ (aw8 f1) (uC _ (aw8 f2) ?_)
   exact uC _ (aEK (ah1 b1 zb) (ah1 b2 zb)) (uC _ (aw7 (ah1 (aMD b1 b2) zb)) h)
theorem aKF {q : Rat} (h : al4 q) : shF (fx q) := by
 obtain ⟨h1, h2⟩ := h
 unfold Fit at h1 h2
 refine ⟨?_, ?_⟩
 ·show (dec q.num).length ≤ 1000000000000
  have := ahR q.num
  omega
 ·show (dec (q.den : Int)).length ≤ 1000000000000
  have := ahR (q.den : Int)
  omega
theorem aHf : al4 0 := by have := aJ8 (n := 0) ⟨by omega, by omega⟩; rwa [ayS] at this
theorem aPp : mkRat 0 1 = (0 : Rat) := by rw [ayS]; rfl
theorem anQ (u : Rat) : u.num.sign < 0 ↔ u < 0 := by
 have e : u < 0 ↔ u.num < 0 := by rw [← Rat.not_le, ← Rat.num_nonneg]; omega
 rw [e]
 constructor
 ·intro h
  rcases Int.lt_trichotomy u.num 0 with g | g | g
  ·exact g
  ·rw [g] at h; exact absurd h ze
  ·rw [xV g] at h; omega
 ·intro h; rw [xE h]; omega
noncomputable def aOx (off : Int) (y : Rat) : Option Rat := (aOI (y + mkRat off 1000000)).map aN7
structure Tp where
 p : Int
 f : Int
 g : Rat
 m : Rat
 a : List Rat
structure Tp.Ok (x : Tp) : Prop where
 f0 : 0 ≤ x.f
 fp : x.f ≤ x.p
 g0 : 0 ≤ x.g
 m0 : 0 ≤ x.m
 mg : x.m ≤ x.g
 z : x.f = x.p → x.g = 0 ∧ x.a = []
def Sm (k : Nat) (q : Rat) : Prop := q.num.natAbs < 10 ^ k ∧ q.den < 10 ^ k
theorem Sm.mono {k l : Nat} {q : Rat} (h : Sm k q) (hkl : k ≤ l) : Sm l q :=
 ⟨zO h.1 (zP zb hkl), zO h.2 (zP zb hkl)⟩
theorem aLE {k : Nat} {a : Int} {b : Nat} (hb : b ≠ 0) (h1 : a.natAbs < 10 ^ k) (h2 : b < 10 ^ k) : Sm k (mkRat a b) := by
 obtain ⟨g, t, hg, g0, e0, e1, e2⟩ := afN a hb
 refine ⟨xT ?_ h1, xT ?_ h2⟩
 ·rw [e1, ← afG e0 g0]; exact xk _ _
 ·rw [e2]; exact xk _ _
theorem Sm.fit {k : Nat} {q : Rat} (h : Sm k q) (hk : k ≤ 600) : al4 q := by
 refine ⟨?_, auD h.2 hk⟩
 have := auD h.1 hk
 exact aq0 this zg
theorem atQ {a b k l : Nat} (h1 : a < 10 ^ k) (h2 : b < 10 ^ l) : a * b < 10 ^ (k + l) := by
 rw [wJ]
 exact Nat.mul_lt_mul_of_lt_of_le h1 (Nat.le_of_lt h2) (Nat.pow_pos zb)
theorem Sm.mul {k l : Nat} {p q : Rat} (h1 : Sm k p) (h2 : Sm l q) : Sm (k + l) (p * q) := by
 rw [Rat.mul_def']
 exact aLE (yX p.den_nz q.den_nz) (by rw [yB]; exact atQ h1.1 h2.1) (atQ h1.2 h2.2)
abbrev NmT := Int × Int × Unit
abbrev DtT := Int × Int × Int × NmT × List NmT × Unit
abbrev TrT := Int × Int × FxT × FxT × List FxT × Unit
def aBq (t : Tp) : TrT := (t.p, t.f, fx t.g, fx t.m, t.a.map (fun q => fx q), ())
noncomputable def aEo (t : TrT) : Bool := decide (0 ≤ t.1 ∧ t.1 ≤ 1000000 ∧ 0 ≤ t.2.1 ∧ t.2.1 ≤ t.1) && (match rdF t.2.2.1, rdF t.2.2.2.1 with
 | some g, some m => decide (0 ≤ g ∧ 0 ≤ m ∧ m ≤ g) && (if t.2.1 = t.1 then decide (t.2.2.2.2.1 = [] ∧ g = 0) else decide (1 ≤ t.2.2.2.2.1.length ∧ t.2.2.2.2.1.length ≤ 4) && t.2.2.2.2.1.all fun a => (rdF a).isSome)
 | _, _ => false)
structure Gd (k : Nat) (t : Tp) : Prop where
 ok : t.Ok
 p : t.p ≤ 1000000
 g : Sm k t.g
 m : Sm k t.m
 a : ∀ q ∈ t.a, al4 q
 l : t.f ≠ t.p → 1 ≤ t.a.length ∧ t.a.length ≤ 4
def shQ (x : NmT) : Rat := mkRat ((x.1.tmod (x.2.1 + 2)).natAbs) (x.2.1 + 1).toNat
def aLi (x : NmT) : Prop := -32768 ≤ x.1 ∧ x.1 ≤ 32767 ∧ 0 ≤ x.2.1 ∧ x.2.1 ≤ 255
def aLq (d : DtT) : Prop := (0 ≤ d.1 ∧ d.1 ≤ 65535) ∧ (0 ≤ d.2.1 ∧ d.2.1 ≤ 65535) ∧ (0 ≤ d.2.2.1 ∧ d.2.2.1 ≤ 65535) ∧ aLi d.2.2.2.1 ∧ ∀ x ∈ d.2.2.2.2.1, aLi x
def aq6 (d : DtT) : Int := d.2.1.tmod (d.1 + 1)
def atD (d : DtT) : List Rat := if d.2.2.2.2.1 = [] then [0] else (d.2.2.2.2.1.take 4).map shQ
def tpD (d : DtT) : Tp := if aq6 d = d.1 then { p := d.1, f := d.1, g := 0, m := 0, a := [] }
 else { p := d.1, f := aq6 d, g := mkRat d.2.2.1 10000, m := mkRat d.2.2.1 10000 * shQ d.2.2.2.1, a := atD d }
noncomputable def ad1 (x : TrT × Unit) : Option (Int × Unit) := some (if aEo x.1 then 0 else 410, ())
def aeR (x : Int × Int × Unit) : Option (FxT × Unit) := if ad7 x.1 ∧ 0 < x.2.1 ∧ ad7 x.2.1 then some (fx (mkRat x.1 x.2.1.toNat), ()) else none
noncomputable def adV (x : NmT × Unit) : Option (FxT × Unit) := open Classical in if aLi x.1 then some (fx (shQ x.1), ()) else none
noncomputable def afI (x : DtT × Unit) : Option (TrT × Unit) := open Classical in if aLq x.1 then some (aBq (tpD x.1), ()) else none
def aAa (_ : Unit) : Option (Bool × Unit) := some (true, ())
open Go Go.Vg Go.Proofs
theorem aDC : (aEV .unit (.pair .bool .unit) aAa).ok Tryz.prog Gt 7 := by
 refine akN (by kernel_rfl) (fun w ok vs x y hG hok hvs hy => ?_)
 have hy' : y = (true, ()) := (Option.some.inj hy).symm
 subst hy'
 exact Go.Vg.top_at.2 w ok vs x hG.1 hok hvs rfl
def aJe (p n : Nat) : List UInt8 := if p = 0 then aaY n else aaY (n / 10 ^ p) ++ 46 :: asB p (n % 10 ^ p)
def aM9 (z : Int) : List UInt8 := if z < 0 then [45] else []
def anN (q : Rat) (p : Nat) : List UInt8 := aM9 (ajO q (10 ^ p)) ++ aJe p (ajO q (10 ^ p)).natAbs
def aeX (sep : List UInt8) : List (List UInt8) → List UInt8
 | [] => []
 | x :: r => x ++ (r.map fun y => sep ++ y).flatten
noncomputable def rdQ (x : FxT) : Rat := (rdF x).getD 0
def aj0 : List UInt8 := [112, 111, 105, 110, 116, 115]
def aj1 : List UInt8 := [102, 97, 105, 108, 101, 100]
def afJ : List UInt8 := [103, 114, 101, 97, 116, 101, 115, 116]
def aAq : List UInt8 := [109, 101, 97, 110]
def wAt : List UInt8 := [97, 116]
def aiC (ws : List (List UInt8)) : List UInt8 := aeX [32] ws ++ [10]
noncomputable def atT (l : List FxT) : List (List UInt8) := if l = [] then [[45]] else l.map fun x => anN (rdQ x) 6
noncomputable def avA (t : TrT) : List UInt8 := aiC [aj0, dec t.1] ++ aiC [aj1, dec t.2.1] ++ (aiC [afJ, anN (rdQ t.2.2.1) 6] ++ aiC [aAq, anN (rdQ t.2.2.2.1) 6]) ++ aiC (wAt :: atT t.2.2.2.2.1)
def aIi (x : List (List UInt8) × List UInt8 × Unit) : Option (List UInt8 × Unit) := if 1 ≤ x.1.length ∧ x.1.length ≤ 1000 ∧ (aeX x.2.1 x.1).length ≤ 1000000 then some (aeX x.2.1 x.1, ()) else none
def ac4 (x : List (List UInt8) × Unit) : Option (List UInt8 × Unit) := if 1 ≤ x.1.length ∧ x.1.length ≤ 1000 ∧ (aeX [32] x.1).length ≤ 1000000 then some (aiC x.1, ()) else none
def afH (x : List UInt8 × Int × Unit) : Option (List UInt8 × Unit) := if x.2.1 = 0 then some (x.1, ()) else none
noncomputable def aOk (x : FxT × Unit) : Option (Int × Int × Unit) := some (match rdF x.1 with | some q => (q.num.sign, 0, ()) | none => (0, 20, ()))
noncomputable def agH (x : FxT × Int × Unit) : Option (List UInt8 × Int × Unit) := some (match rdF x.1 with
 | some q => if x.2.1 < 0 ∨ x.2.1 > 20 then ([], 2, ()) else (anN q x.2.1.toNat, 0, ())
 | none => ([], 20, ()))
noncomputable def ag4 (x : TrT × Unit) : Option (List UInt8 × Int × Unit) := some (if aEo x.1 = true then (avA x.1, 0, ()) else ([], 410, ()))
def ahX (_ : DtT × Unit) : Option (Bool × Unit) := some (true, ())
set_option maxRecDepth 100000
open Go Go.Vg Go.Proofs
noncomputable section
def aI6 : LTab := []
def aCc (n : Int) (d : Int) : TT (vF × Unit) :=
 .call (ar4 (n, d, ())) aMU fun y =>
 .ok (((y.1.1, y.1.2.1, ()), ()))
def aAG : LTab := []
def aj5 (x : Int × Int × Unit) : TT (vF × Unit) :=
 .need (w64 (w64 (1 + w64 x.2.1) + 1) ≠ 0) <| .ite (decide (Int.tmod (w64 x.1) (w64 (w64 (1 + w64 x.2.1) + 1)) < 0))
 (.call (aeR (w64 (0 - Int.tmod (w64 x.1) (w64 (w64 (1 + w64 x.2.1) + 1))), w64 (1 + w64 x.2.1), ())) aKB fun y =>
 .ok (((y.1.1, y.1.2.1, ()), ())))
 (.call (aeR (Int.tmod (w64 x.1) (w64 (w64 (1 + w64 x.2.1) + 1)), w64 (1 + w64 x.2.1), ())) aKB fun y1 =>
 .ok (((y1.1.1, y1.1.2.1, ()), ())))
def aDj : LTab := [(8, 127, 30722, ⟨0, (Int) × (List UInt8) × (List UInt8) × Unit, .dat (.c 29 0) vG <| .dat (.c 18 4) (Ty.str) <| .dat (.c 18 5) (Ty.str) <| .nil, [4, 3, 2, 1], [29, 18, 3, 1, 0], 0⟩), (8, 2042, 31746, ⟨1, (Int) × Bool × (List vF) × Unit, .dat (.s 6) vG <| .appN (.c 18 6) 31 36 vT <| .nil, [4, 3, 2, 1], [29, 18, 3, 1, 0], 1⟩)]
def agL (i : (Int) × Bool × (List vF) × Unit) (d : Int × Int × Int × vP × List vP × Unit) (y1 : vF × Unit) (j : Int × List UInt8 × List UInt8 × Unit) (y : vF × Unit) : TT uw :=
 .ite (len i.2.2.1 == 0)
 (.need ((List.length i.2.2.1 + 1) * 32 ≤ 140737488355328) <| .ok (.inr (((w64 d.1, Int.tmod (w64 d.2.1) (w64 (w64 d.1 + 1)), (y1.1.1, y1.1.2.1, ()), (j.2.1, j.2.2.1, ()), List.take (List.length i.2.2.1 + 1) (List.take (List.length i.2.2.1) i.2.2.1 ++ [(y.1.1, y.1.2.1, ())]), ()), ()))))
 (.ok (.inr (((w64 d.1, Int.tmod (w64 d.2.1) (w64 (w64 d.1 + 1)), (y1.1.1, y1.1.2.1, ()), (j.2.1, j.2.2.1, ()), List.take (List.length i.2.2.1) i.2.2.1, ()), ()))))
def apM (d : Int × Int × Int × vP × List vP × Unit) (y : vF × Unit) (y1 : vF × Unit) (j : Int × List UInt8 × List UInt8 × Unit) (i : (Int) × Bool × (List vF) × Unit) : TT uw :=
 .ite (i.2.1)
 (.ite (decide (i.1 < len d.2.2.2.2.1))
  (.ite (decide (i.1 < 4))
   (.need (inb i.1 (len d.2.2.2.2.1)) <| .call (adV (gi d.2.2.2.2.1 i.1 (0, 0, ()), ())) aKB fun y5 =>
    .need (1 * 32 ≤ 140737488355328) <| .tt <| .lt (w64 (i.1 + 1) : Int) fun z6 => .lt ([(y5.1.1, y5.1.2.1, ())] : List vF) fun z7 => .wZ (vj z6 <| (vh 18 0 true) ∧ (vh 3 0 true) ∧ (vh 1 0 true) ∧ vO ∧ True) <| .wZ (wY (vt 36 z7) <| wY (vB 83 j.1) <| wY (vC 39 (w64 d.1 : Int) (Int.tmod (w64 d.2.1) (w64 (w64 d.1 + 1))) y1.1.1 y1.1.2.1 j.2.1 j.2.2.1 <| (vu 31 0 1 true) ∧ True) <| wY (vq 36 y.1.1 y.1.2.1) <| wY (vC 39 (0 : Int) (0 : Int) (#[].toList : List UInt8) (#[].toList : List UInt8) (#[].toList : List UInt8) (#[].toList : List UInt8) <| True ∧ True) <| wY (vD 28 d.1 d.2.1 d.2.2.1 d.2.2.2.1.1 d.2.2.2.1.2.1 d.2.2.2.2.1) True) <| .ok (.inl ((z6, false, z7, ()))))
   (.need (1 * 32 ≤ 140737488355328) <| .ok (.inr (((w64 d.1, Int.tmod (w64 d.2.1) (w64 (w64 d.1 + 1)), (y1.1.1, y1.1.2.1, ()), (j.2.1, j.2.2.1, ()), [(y.1.1, y.1.2.1, ())], ()), ())))))
  (.need (1 * 32 ≤ 140737488355328) <| .ok (.inr (((w64 d.1, Int.tmod (w64 d.2.1) (w64 (w64 d.1 + 1)), (y1.1.1, y1.1.2.1, ()), (j.2.1, j.2.2.1, ()), [(y.1.1, y.1.2.1, ())], ()), ())))))
 (.ite (decide (i.1 < len d.2.2.2.2.1))
  (.ite (decide (i.1 < 4))
   (.need (inb i.1 (len d.2.2.2.2.1)) <| .call (adV (gi d.2.2.2.2.1 i.1 (0, 0, ()), ())) aKB fun y6 =>
    .need ((List.length i.2.2.1 + 1) * 32 ≤ 140737488355328) <| .tt <| .lt (w64 (i.1 + 1) : Int) fun z8 => .lt (List.take (List.length i.2.2.1) i.2.2.1 ++ [(y6.1.1, y6.1.2.1, ())] : List vF) fun z9 => .wZ (vj z8 <| (vh 18 0 true) ∧ (vh 3 0 true) ∧ (vh 1 0 true) ∧ vO ∧ True) <| .need ((((36 : TypeId) = 36) ∧ ((z9 : List vF) = z9)) ∧ (true = true) ∧ (((83 : TypeId) = 83) ∧ (((j.1 : Int) = j.1) ∧ True)) ∧ (true = true) ∧ (((39 : TypeId) = 39) ∧ (((w64 d.1 : Int) = w64 d.1) ∧ (((Int.tmod (w64 d.2.1) (w64 (w64 d.1 + 1)) : Int) = Int.tmod (w64 d.2.1) (w64 (w64 d.1 + 1))) ∧ (((y1.1.1 : List UInt8) = y1.1.1) ∧ (((y1.1.2.1 : List UInt8) = y1.1.2.1) ∧ (((j.2.1 : List UInt8) = j.2.1) ∧ (((j.2.2.1 : List UInt8) = j.2.2.1) ∧ ((((31) = (31)) ∧ (((0) = (0)) ∧ ((List.length i.2.2.1 + 1 = List.length z9) ∧ ((true) = (true))))) ∧ True)))))))) ∧ (true = true) ∧ (((36 : TypeId) = 36) ∧ (((y.1.1 : List UInt8) = y.1.1) ∧ (((y.1.2.1 : List UInt8) = y.1.2.1) ∧ True))) ∧ (true = true) ∧ (((39 : TypeId) = 39) ∧ (((0 : Int) = 0) ∧ (((0 : Int) = 0) ∧ (((#[].toList : List UInt8) = #[].toList) ∧ (((#[].toList : List UInt8) = #[].toList) ∧ (((#[].toList : List UInt8) = #[].toList) ∧ (((#[].toList : List UInt8) = #[].toList) ∧ (True ∧ True)))))))) ∧ (true = true) ∧ (((28 : TypeId) = 28) ∧ (((d.1 : Int) = d.1) ∧ (((d.2.1 : Int) = d.2.1) ∧ (((d.2.2.1 : Int) = d.2.2.1) ∧ (((d.2.2.2.1.1 : Int) = d.2.2.2.1.1) ∧ (((d.2.2.2.1.2.1 : Int) = d.2.2.2.1.2.1) ∧ (((d.2.2.2.2.1 : List vP) = d.2.2.2.2.1) ∧ True))))))) ∧ (true = true) ∧ True) <| .ok (.inl ((z8, false, z9, ()))))
   (agL i d y1 j y))
  (agL i d y1 j y))
def apN (d : Int × Int × Int × vP × List vP × Unit) (y : vF × Unit) (y1 : vF × Unit) (j : (Int) × (List UInt8) × (List UInt8) × Unit) : TT (vX × Unit) :=
 .loop 1 (.tt <| .wZ (vj (0 : Int) <| (vh 18 0 true) ∧ (vh 3 0 true) ∧ (vh 1 0 true) ∧ vO ∧ True) <| .wZ (wY (vB 83 j.1) <| wY (vC 39 (w64 d.1 : Int) (Int.tmod (w64 d.2.1) (w64 (w64 d.1 + 1))) y1.1.1 y1.1.2.1 j.2.1 j.2.2.1 <| True ∧ True) <| wY (vq 36 y.1.1 y.1.2.1) <| wY (vC 39 (0 : Int) (0 : Int) (#[].toList : List UInt8) (#[].toList : List UInt8) (#[].toList : List UInt8) (#[].toList : List UInt8) <| True ∧ True) <| wY (vD 28 d.1 d.2.1 d.2.2.1 d.2.2.2.1.1 d.2.2.2.1.2.1 d.2.2.2.2.1) True) <| .ok ((0, true, [], ()))) (apM d y y1 j)
def amD (d : Int × Int × Int × vP × List vP × Unit) : TT (vX × Unit) :=
 .call (aeR (0, 1, ())) aKB fun y =>
 .need (w64 (w64 d.1 + 1) ≠ 0) <| .ite (Int.tmod (w64 d.2.1) (w64 (w64 d.1 + 1)) == w64 d.1)
 (.ok (((w64 d.1, Int.tmod (w64 d.2.1) (w64 (w64 d.1 + 1)), (y.1.1, y.1.2.1, ()), (y.1.1, y.1.2.1, ()), [], ()), ())))
 (.call (aeR (w64 d.2.2.1, 10000, ())) aKB fun y1 =>
 .join 0 (ι := (Int) × (List UInt8) × (List UInt8) × Unit) (.call (adV ((d.2.2.2.1.1, d.2.2.2.1.2.1, ()), ())) aKB fun y2 =>
 .tt <| .tt <| .call (ajG ((y1.1.1, y1.1.2.1, ()), (y2.1.1, y2.1.2.1, ()), ())) aMU fun y3 =>
 .tt <| .tt <| .ite (y3.2.1 != 0)
 (.call (aeR (0, 1, ())) aKB fun y4 =>
 .tt <| .lt (y3.2.1 : Int) fun z => .lt (y4.1.1 : List UInt8) fun z1 => .lt (y4.1.2.1 : List UInt8) fun z2 => .wZ uq <| .wZ (wY (vB 83 z) <| wY (vC 39 (w64 d.1 : Int) (Int.tmod (w64 d.2.1) (w64 (w64 d.1 + 1))) y1.1.1 y1.1.2.1 z1 z2 <| True ∧ True) <| wY (vq 36 y.1.1 y.1.2.1) <| wY (vC 39 (0 : Int) (0 : Int) (#[].toList : List UInt8) (#[].toList : List UInt8) (#[].toList : List UInt8) (#[].toList : List UInt8) <| True ∧ True) <| wY (vD 28 d.1 d.2.1 d.2.2.1 d.2.2.2.1.1 d.2.2.2.1.2.1 d.2.2.2.2.1) True) <| .ok (.inl ((z, z1, z2, ()))))
 (.tt <| .lt (y3.2.1 : Int) fun z3 => .lt (y3.1.1 : List UInt8) fun z4 => .lt (y3.1.2.1 : List UInt8) fun z5 => .wZ uq <| .wZ (wY (vB 83 z3) <| wY (vC 39 (w64 d.1 : Int) (Int.tmod (w64 d.2.1) (w64 (w64 d.1 + 1))) y1.1.1 y1.1.2.1 z4 z5 <| True ∧ True) <| wY (vq 36 y.1.1 y.1.2.1) <| wY (vC 39 (0 : Int) (0 : Int) (#[].toList : List UInt8) (#[].toList : List UInt8) (#[].toList : List UInt8) (#[].toList : List UInt8) <| True ∧ True) <| wY (vD 28 d.1 d.2.1 d.2.2.1 d.2.2.2.1.1 d.2.2.2.1.2.1 d.2.2.2.2.1) True) <| .ok (.inl ((z3, z4, z5, ()))))) (apN d y y1))
def aC8 : LTab := [(12, 58, 29696, ⟨0, (Int) × Unit, .dat (.s 39) vG <| .nil, [38, 37, 1], [26, 0], 0⟩), (12, 1018, 66560, ⟨1, (Int) × Unit, .dat (.s 105) vG <| .nil, [104, 103], [26, 0], 0⟩)]
def aj2 (t : Int × Int × vF × vF × List vF × Unit) (i : Int × Unit) (y1 : Int × Int × Unit) (i1 : (Int) × Unit) : TT (ua ⊕ (ua ⊕ vS)) :=
 .ite (decide (i1.1 < len t.2.2.2.2.1))
 (.need (inb i1.1 (len t.2.2.2.2.1)) <| .call (ae3 (((gi t.2.2.2.2.1 i1.1 ([], [], ())).1, (gi t.2.2.2.2.1 i1.1 ([], [], ())).2.1, ()), ())) Dd6 fun y3 =>
 .ite (y3.1 != 0)
 (.ok (.inr (.inr ((410, ())))))
 (.tt <| .lt (w64 (i1.1 + 1) : Int) fun z1 => .wZ (vq z1 (len t.2.2.2.2.1) t.2.2.2.2.1) <| .wZ (wY (vt 36 ([(t.2.2.1.1, t.2.2.1.2.1, ()), (t.2.2.2.1.1, t.2.2.2.1.2.1, ())] : List vF)) <| wY (vE 39 t.1 t.2.1 t.2.2.1.1 t.2.2.1.2.1 t.2.2.2.1.1 t.2.2.2.1.2.1 t.2.2.2.2.1) True) <| .ok (.inl ((z1, ())))))
 (.ok (.inr (.inr ((0, ())))))
def abX (t : Int × Int × vF × vF × List vF × Unit) (i : (Int) × Unit) : TT (ua ⊕ vS) :=
 .ite (decide (i.1 < (↑2 : Int)))
 (.need (inb i.1 (↑2 : Int)) <| .call (afC (((List.getD [(t.2.2.1.1, t.2.2.1.2.1, ()), (t.2.2.2.1.1, t.2.2.2.1.2.1, ())] (0 + Int.toNat i.1) ([], [], ())).1, (List.getD [(t.2.2.1.1, t.2.2.1.2.1, ()), (t.2.2.2.1.1, t.2.2.2.1.2.1, ())] (0 + Int.toNat i.1) ([], [], ())).2.1, ()), ())) aO8 fun y =>
 .ite (y.2.1 != 0)
 (.ok (.inr ((410, ()))))
 (.ite (decide (y.1 < 0))
 (.ok (.inr ((410, ()))))
 (.tt <| .lt (w64 (i.1 + 1) : Int) fun z => .triv (((z : Int) = z) ∧ (((↑2 : Int) : Int) = (↑2 : Int)) ∧ (((26) = (26)) ∧ (((0) = (0)) ∧ (((2) = (2)) ∧ ((true) = (true))))) ∧ (((0) = (0)) ∧ (((0) = (0)) ∧ ((true) = (true)))) ∧ True) ⟨rfl, rfl, ⟨rfl, ⟨rfl, ⟨rfl, rfl⟩⟩⟩, ⟨rfl, ⟨rfl, rfl⟩⟩, trivial⟩ <| .wZ (wY (vt 36 ([(t.2.2.1.1, t.2.2.1.2.1, ()), (t.2.2.2.1.1, t.2.2.2.1.2.1, ())] : List vF)) <| wY (vE 39 t.1 t.2.1 t.2.2.1.1 t.2.2.1.2.1 t.2.2.2.1.1 t.2.2.2.1.2.1 t.2.2.2.2.1) True) <| .ok (.inl ((z, ()))))))
 (.call (anI ((t.2.2.2.1.1, t.2.2.2.1.2.1, ()), (t.2.2.1.1, t.2.2.1.2.1, ()), ())) aO8 fun y1 =>
 .ite (y1.2.1 != 0)
 (.ok (.inr ((410, ()))))
 (.ite (decide (y1.1 > 0))
 (.ok (.inr ((410, ()))))
 (.ite (t.2.1 == t.1)
 (.call (afC ((t.2.2.1.1, t.2.2.1.2.1, ()), ())) aO8 fun y2 =>
 .ite (len t.2.2.2.2.1 != 0)
 (.ok (.inr ((410, ()))))
 (.ite (y2.2.1 != 0)
 (.ok (.inr ((410, ()))))
 (.ite (y2.1 != 0)
 (.ok (.inr ((410, ()))))
 (.ok (.inr ((0, ())))))))
 (.ite (decide (len t.2.2.2.2.1 < 1))
 (.ok (.inr ((410, ()))))
 (.ite (decide (len t.2.2.2.2.1 > 4))
 (.ok (.inr ((410, ()))))
 (.loop 1 (.tt <| .wZ (vq (0 : Int) (len t.2.2.2.2.1) t.2.2.2.2.1) <| .wZ (wY (vt 36 ([(t.2.2.1.1, t.2.2.1.2.1, ()), (t.2.2.2.1.1, t.2.2.2.1.2.1, ())] : List vF)) <| wY (vE 39 t.1 t.2.1 t.2.2.1.1 t.2.2.1.2.1 t.2.2.2.1.1 t.2.2.2.1.2.1 t.2.2.2.2.1) True) <| .ok ((0, ()))) (aj2 t i y1)))))))
def al8 (t : Int × Int × vF × vF × List vF × Unit) : TT vS :=
 .ite (decide (t.1 < 0))
 (.ok ((410, ())))
 (.ite (decide (t.1 > 1000000))
 (.ok ((410, ())))
 (.ite (decide (t.2.1 < 0))
 (.ok ((410, ())))
 (.ite (decide (t.2.1 > t.1))
 (.ok ((410, ())))
 (.loop 0 (.tt <| .triv (((0 : Int) = 0) ∧ (((↑2 : Int) : Int) = (↑2 : Int)) ∧ (((26) = (26)) ∧ (((0) = (0)) ∧ (((2) = (2)) ∧ ((true) = (true))))) ∧ (((0) = (0)) ∧ (((0) = (0)) ∧ ((true) = (true)))) ∧ True) ⟨rfl, rfl, ⟨rfl, ⟨rfl, ⟨rfl, rfl⟩⟩⟩, ⟨rfl, ⟨rfl, rfl⟩⟩, trivial⟩ <| .wZ (wY (vt 36 ([(t.2.2.1.1, t.2.2.1.2.1, ()), (t.2.2.2.1.1, t.2.2.2.1.2.1, ())] : List vF)) <| wY (vE 39 t.1 t.2.1 t.2.2.1.1 t.2.2.1.2.1 t.2.2.2.1.1 t.2.2.2.1.2.1 t.2.2.2.2.1) True) <| .ok ((0, ()))) (abX t)))))
end
set_option maxRecDepth 100000
open Go Go.Vg Go.Proofs
noncomputable section
def aE5 : LTab := []
def ao9 (words : List (List UInt8)) : TT vY :=
 .call (aIi (words, #[32].toList, ())) Dd2 fun y =>
 .need (List.length y.1 + List.length #[10].toList ≤ lim) <| .ok ((y.1 ++ #[10].toList, ()))
def aC7 : LTab := []
def al7 (v : List UInt8) (e : Int) : TT vY :=
 .ite (e != 0)
 (.bad)
 (.ok ((v, ())))
def aKb : LTab := []
def awB (a : List UInt8 × List UInt8 × Unit) (places : Int) : TT uh :=
 .call (acU ((a.1, a.2.1, ()), ())) aMK fun y =>
 .ite (!y.2.1)
 (.ok ((#[].toList, 20, ())))
 (.ite (decide (places < 0))
 (.ok ((#[].toList, 2, ())))
 (.ite (decide (places > 20))
 (.ok ((#[].toList, 2, ())))
 (.call (auV (#[48].toList, places, ())) Dd2 fun y1 =>
 .need (List.length #[49].toList + List.length y1.1 ≤ lim) <| .call (aeM (#[49].toList ++ y1.1, ())) Dd0 fun y2 =>
 .call (al0 (((y.1.1.1, y.1.1.2.1, ()), y.1.2.1, ()), y2.1, ())) Dd5 fun y3 =>
 .call (af3 (y3.1.1, ())) Dd2 fun y4 =>
 .ite (decide (places > 0))
 (.call (auV (#[48].toList, if 0 > w64 (w64 (places + 1) - len y4.1) then 0 else w64 (w64 (places + 1) - len y4.1), ())) Dd2 fun y5 =>
 .need (List.length y5.1 + List.length y4.1 ≤ lim) <| .need (inc (w64 (len (y5.1 ++ y4.1) - places)) (len (y5.1 ++ y4.1))) <| .need (List.length (List.take (Int.toNat (w64 (len (y5.1 ++ y4.1) - places))) (y5.1 ++ y4.1)) + List.length #[46].toList ≤ lim) <| .need (inc (w64 (len (y5.1 ++ y4.1) - places)) (len (y5.1 ++ y4.1))) <| .need (List.length (List.take (Int.toNat (w64 (len (y5.1 ++ y4.1) - places))) (y5.1 ++ y4.1) ++ #[46].toList) + List.length (List.take (List.length (y5.1 ++ y4.1) - Int.toNat (w64 (len (y5.1 ++ y4.1) - places))) (List.drop (Int.toNat (w64 (len (y5.1 ++ y4.1) - places))) (y5.1 ++ y4.1))) ≤ lim) <| .ite (y3.1.2.1)
 (.need (List.length #[45].toList + List.length (List.take (Int.toNat (w64 (len (y5.1 ++ y4.1) - places))) (y5.1 ++ y4.1) ++ #[46].toList ++ List.take (List.length (y5.1 ++ y4.1) - Int.toNat (w64 (len (y5.1 ++ y4.1) - places))) (List.drop (Int.toNat (w64 (len (y5.1 ++ y4.1) - places))) (y5.1 ++ y4.1))) ≤ lim) <| .ok ((#[45].toList ++ (List.take (Int.toNat (w64 (len (y5.1 ++ y4.1) - places))) (y5.1 ++ y4.1) ++ #[46].toList ++ List.take (List.length (y5.1 ++ y4.1) - Int.toNat (w64 (len (y5.1 ++ y4.1) - places))) (List.drop (Int.toNat (w64 (len (y5.1 ++ y4.1) - places))) (y5.1 ++ y4.1))), 0, ())))
 (.ok ((List.take (Int.toNat (w64 (len (y5.1 ++ y4.1) - places))) (y5.1 ++ y4.1) ++ #[46].toList ++ List.take (List.length (y5.1 ++ y4.1) - Int.toNat (w64 (len (y5.1 ++ y4.1) - places))) (List.drop (Int.toNat (w64 (len (y5.1 ++ y4.1) - places))) (y5.1 ++ y4.1)), 0, ()))))
 (.ite (y3.1.2.1)
 (.need (List.length #[45].toList + List.length y4.1 ≤ lim) <| .ok ((#[45].toList ++ y4.1, 0, ())))
 (.ok ((y4.1, 0, ())))))))
def aE6 : LTab := [(10, 1018, 46080, ⟨0, (Int) × (List (List UInt8)) × Unit, .dat (.s 48) vG <| .app (.s 5) 45 9 (Ty.str) <| .nil, [47, 46, 3, 2, 1], [35, 27, 17, 12, 2, 1, 0], 1⟩)]
def aiX (t : Int × Int × vF × vF × List vF × Unit) (y : Int × Unit) (y1 : List UInt8 × Unit) (y2 : List UInt8 × Unit) (y3 : List UInt8 × Unit) (y4 : List UInt8 × Unit) (y5 : List UInt8 × Int × Unit) (y6 : List UInt8 × Unit) (y7 : List UInt8 × Unit) (y8 : List UInt8 × Int × Unit) (y9 : List UInt8 × Unit) (y10 : List UInt8 × Unit) (i : (Int) × (List (List UInt8)) × Unit) : TT (((Int) × (List (List UInt8)) × Unit) ⊕ uh) :=
 .ite (decide (i.1 < len t.2.2.2.2.1))
 (.need (inb i.1 (len t.2.2.2.2.1)) <| .call (agH (((gi t.2.2.2.2.1 i.1 ([], [], ())).1, (gi t.2.2.2.2.1 i.1 ([], [], ())).2.1, ()), 6, ())) aMV fun y11 =>
 .call (afH (y11.1, y11.2.1, ())) Dd2 fun y12 =>
 .need ((List.length i.2.1 + 1) * 16 ≤ 140737488355328) <| .tt <| .lt (w64 (i.1 + 1) : Int) fun z1 => .lt (List.take (List.length i.2.1) i.2.1 ++ [y12.1] : List (List UInt8)) fun z2 => .need ((((45) = (45)) ∧ (((0) = (0)) ∧ ((List.length i.2.1 + 1 = List.length z2) ∧ ((true) = (true))))) ∧ ((z1 : Int) = z1) ∧ ((len t.2.2.2.2.1 : Int) = len t.2.2.2.2.1) ∧ ((t.2.2.2.2.1 : List vF) = t.2.2.2.2.1) ∧ (((2) = (2)) ∧ (((0) = (0)) ∧ ((true) = (true)))) ∧ (((1) = (1)) ∧ (((0) = (0)) ∧ ((true) = (true)))) ∧ (((0) = (0)) ∧ (((0) = (0)) ∧ ((true) = (true)))) ∧ True) <| .wZ (wY (vt 9 z2) <| wY (vt 9 ([#[109, 101, 97, 110].toList, y9.1] : List (List UInt8))) <| wY (vt 9 ([#[103, 114, 101, 97, 116, 101, 115, 116].toList, y6.1] : List (List UInt8))) <| wY (vt 9 ([#[102, 97, 105, 108, 101, 100].toList, y3.1] : List (List UInt8))) <| wY (vt 9 ([#[112, 111, 105, 110, 116, 115].toList, y1.1] : List (List UInt8))) <| wY (vB 43 (0 : Int)) <| wY (vB 9 (y2.1 ++ y4.1 ++ (y7.1 ++ y10.1) : List UInt8)) <| wY (vE 39 t.1 t.2.1 t.2.2.1.1 t.2.2.1.2.1 t.2.2.2.1.1 t.2.2.2.1.2.1 t.2.2.2.2.1) True) <| .ok (.inl ((z1, z2, ()))))
 (.ite (len t.2.2.2.2.1 == 0)
 (.need ((List.length i.2.1 + 1) * 16 ≤ 140737488355328) <| .call (ac4 (List.take (List.length i.2.1 + 1) (List.take (List.length i.2.1) i.2.1 ++ [#[45].toList]), ())) Dd2 fun y13 =>
 .need (List.length (y2.1 ++ y4.1 ++ (y7.1 ++ y10.1)) + List.length y13.1 ≤ lim) <| .tt <| .triv (Exit.normal = Exit.normal ∨ Exit.normal = Exit.ret) (Or.inl rfl) <| .ok (.inr ((y2.1 ++ y4.1 ++ (y7.1 ++ y10.1) ++ y13.1, 0, ()))))
 (.call (ac4 (List.take (List.length i.2.1) i.2.1, ())) Dd2 fun y14 =>
 .need (List.length (y2.1 ++ y4.1 ++ (y7.1 ++ y10.1)) + List.length y14.1 ≤ lim) <| .tt <| .triv (Exit.normal = Exit.normal ∨ Exit.normal = Exit.ret) (Or.inl rfl) <| .ok (.inr ((y2.1 ++ y4.1 ++ (y7.1 ++ y10.1) ++ y14.1, 0, ())))))
def apA (t : Int × Int × vF × vF × List vF × Unit) : TT uh :=
 .call (ad1 ((t.1, t.2.1, (t.2.2.1.1, t.2.2.1.2.1, ()), (t.2.2.2.1.1, t.2.2.2.1.2.1, ()), t.2.2.2.2.1, ()), ())) Dd6 fun y =>
 .ite (y.1 != 0)
 (.tt <| .triv (Exit.normal = Exit.normal ∨ Exit.normal = Exit.ret) (Or.inl rfl) <| .ok ((#[].toList, y.1, ())))
 (.call (ar5 (t.1, ())) Dd2 fun y1 =>
 .call (ac4 (List.take 2 [#[112, 111, 105, 110, 116, 115].toList, y1.1], ())) Dd2 fun y2 =>
 .call (ar5 (t.2.1, ())) Dd2 fun y3 =>
 .call (ac4 (List.take 2 [#[102, 97, 105, 108, 101, 100].toList, y3.1], ())) Dd2 fun y4 =>
 .need (List.length y2.1 + List.length y4.1 ≤ lim) <| .call (agH ((t.2.2.1.1, t.2.2.1.2.1, ()), 6, ())) aMV fun y5 =>
 .call (afH (y5.1, y5.2.1, ())) Dd2 fun y6 =>
 .call (ac4 (List.take 2 [#[103, 114, 101, 97, 116, 101, 115, 116].toList, y6.1], ())) Dd2 fun y7 =>
 .call (agH ((t.2.2.2.1.1, t.2.2.2.1.2.1, ()), 6, ())) aMV fun y8 =>
 .call (afH (y8.1, y8.2.1, ())) Dd2 fun y9 =>
 .call (ac4 (List.take 2 [#[109, 101, 97, 110].toList, y9.1], ())) Dd2 fun y10 =>
 .need (List.length y7.1 + List.length y10.1 ≤ lim) <| .need (List.length (y2.1 ++ y4.1) + List.length (y7.1 ++ y10.1) ≤ lim) <| .loop 0 (.tt <| .lt ([#[97, 116].toList] : List (List UInt8)) fun z => .wZ ((vu 45 0 1 true) ∧ (vl (0 : Int) (len t.2.2.2.2.1) t.2.2.2.2.1 <| (vh 2 0 true) ∧ (vh 1 0 true) ∧ vO ∧ True)) <| .wZ (wY (vt 9 z) <| wY (vt 9 ([#[109, 101, 97, 110].toList, y9.1] : List (List UInt8))) <| wY (vt 9 ([#[103, 114, 101, 97, 116, 101, 115, 116].toList, y6.1] : List (List UInt8))) <| wY (vt 9 ([#[102, 97, 105, 108, 101, 100].toList, y3.1] : List (List UInt8))) <| wY (vt 9 ([#[112, 111, 105, 110, 116, 115].toList, y1.1] : List (List UInt8))) <| wY (vB 43 (0 : Int)) <| wY (vB 9 (y2.1 ++ y4.1 ++ (y7.1 ++ y10.1) : List UInt8)) <| wY (vE 39 t.1 t.2.1 t.2.2.1.1 t.2.2.1.2.1 t.2.2.2.1.1 t.2.2.2.1.2.1 t.2.2.2.2.1) True) <| .ok ((0, z, ()))) (aiX t y y1 y2 y3 y4 y5 y6 y7 y8 y9 y10))
end
end Go.Vs
