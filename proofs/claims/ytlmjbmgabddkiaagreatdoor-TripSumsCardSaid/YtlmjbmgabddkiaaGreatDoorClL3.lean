/-
  Trees of what the functions compute, and their laws. Own work; no condition.
-/
import Derived.Test.YtlmjbmgabddkiaaGreatDoorClL2
import Derived.KernelRfl
set_option linter.unusedVariables false
set_option linter.unusedSimpArgs false
namespace Go.Vs
open Go Go.Vg
theorem ai8 {p q : Int × Int} (h : (pl p.1, pl p.2, ()) = (pl q.1, pl q.2, ())) : p = q := by
 obtain ⟨h1, h2⟩ := Prod.mk.inj h
 obtain ⟨h2, -⟩ := Prod.mk.inj h2
 exact Prod.ext (aqE h1) (aqE h2)
theorem auX {p q : Nat × Nat} (h : (dig p.1, dig p.2, ()) = (dig q.1, dig q.2, ())) : p = q := by
 obtain ⟨h1, h2⟩ := Prod.mk.inj h
 obtain ⟨h2, -⟩ := Prod.mk.inj h2
 exact Prod.ext (arU h1) (arU h2)
theorem aHe {n : Nat} (h : n < 10000) : isD (atA n) := by
 intro c hc
 simp only [atA, zo, List.not_mem_nil, or_false] at hc
 rcases hc with rfl | rfl | rfl | rfl <;> rw [apF zb] <;> omega
theorem aHd {n : Nat} (h : n < 10000) : num (atA n) = n := by
 have e : ∀ a b c d : Nat, a < 10 → b < 10 → c < 10 → d < 10 → num [UInt8.ofNat (48 + a), UInt8.ofNat (48 + b), UInt8.ofNat (48 + c), UInt8.ofNat (48 + d)] = ((a * 10 + b) * 10 + c) * 10 + d := by
  intro a b c d ha hb hc hd
  unfold num
  rw [af3, af3, af3, af3, auV ha, auV hb, auV hc, auV hd]
  simp [ay1]
 unfold atA
 rw [e _ _ _ _ zb zb zb zb]
 omega
theorem aJQ {s : List UInt8} {k : Nat} (h : ∀ c ∈ s.take k, c = 48) : num s = num (s.drop k) := by
 have h1 : ∀ l : List UInt8, (∀ c ∈ l, c = 48) → num l = 0 := by
  intro l
  induction l using aAJ with
  | nil => intro _; rfl
  | snoc l c ih =>
   intro h
   rw [ajC, ih (fun d hd => h d (wV _ hd)), h c zh]
   rfl
 conv => lhs; rw [← xh k s]
 rw [ajD, h1 _ h]
 omega
theorem aMP {n : Nat} (h : Bd 6 n) : (dig n).length ≤ 13000000000 := by
 have h2 := auY (k := 1000000 * 4 ^ 6) h
 omega
theorem aAu {z : Int} (h : Bd 6 z.natAbs) : aiZ (pl z, ()) = some (dec z, ()) := aaR (enc := fun x : Int => (pl x, ())) z h (fun b hb => aqE (Prod.mk.inj hb).1)
theorem aAY (x : PlT) (y) (h : aiZ (x, ()) = some y) : (ap9 x).toO = some y := by
 obtain ⟨z, hp, hx, rfl⟩ := aaH h
 obtain ⟨rfl, -⟩ := Prod.mk.inj hx
 have hl := aMP hp
 have hd := ac3 z.natAbs
 have hV := agG z.natAbs
 clear h hx
 unfold ap9
 dsimp only
 refine uO (((dig z.natAbs).length : Int) - 1, [], ()) ?_ ?_
 ·repeat refine za ?_
  rw [aaP, aaI, aaA zb]
 refine aaW (fun i : Int × List UInt8 × Unit => ∃ k : Nat, k ≤ (dig z.natAbs).length ∧ i.1 = (k : Int) - 1 ∧ isD i.2.1 ∧ i.2.1.length = 4 * ((dig z.natAbs).length - k) ∧ (num i.2.1 : Int) = V 10000 ((dig z.natAbs).drop k)) (fun i => (i.1 + 1).toNat) (fun _ => (dec z, ())) ?_ _ ⟨_, zi _, rfl, (show isD [] from fun c hc => by cases hc), by simp, by rw [acS _ (zi _)]; rfl⟩
 rintro ⟨i, s, u⟩ ⟨k, h1, h2, h3, h4, h5⟩
 dsimp only at h2 h3 h4 h5
 subst h2
 cases k with
 | succ j =>
  left
  have e6 : ((j + 1 : Nat) : Int) - 1 = (j : Int) := zb
  have dj := aaY zb hd j
  obtain ⟨m, hm⟩ := zG dj.1
  have hm2 : m < 10000 := zb
  rw [e6]
  refine ⟨((j : Int) - 1, s ++ atA m, ()), ?_, ⟨j, by omega, rfl, ?_, ?_, ?_⟩, by dsimp only; omega, zd⟩
  ·simp only [am0, aaN, hm]
   refine uT sd (uN sd (uC _ (aIu hm2) (uN ?_ ?_)))
   ·have : (atA m).length = 4 := rfl
    dsimp only
    rw [this, h4]
    unfold lim; omega
   ·repeat refine za ?_
    rw [aaP, aaA (x := (j : Int) - 1) zb]
  ·exact isD_append.2 ⟨h3, aHe hm2⟩
  ·have : (atA m).length = 4 := rfl
   simp only [zF, this, h4]; omega
  ·dsimp only
   rw [ajD, aHd hm2, aaO, hm, ← h5]
   have : (atA m).length = 4 := rfl
   rw [this]
   simp; omega
 | zero =>
  right
  rw [yC, hV] at h5
  have h5' : num s = z.natAbs := Int.ofNat.inj h5
  simp only [am0]
  refine uF sd (uO (0, ()) rfl ?_)
  refine aaW (fun i : Int × Unit => ∃ q : Nat, q ≤ s.length ∧ i = ((q : Int), ()) ∧ ∀ c ∈ s.take q, c = 48) (fun i => ((s.length : Int) - i.1).toNat) (fun _ => (.inr (dec z, ()) : (Int × List UInt8 × Unit) ⊕ (List UInt8 × Unit))) ?_ _ ⟨0, by omega, rfl, by simp⟩
  rintro i ⟨q, g1, rfl, g2⟩
  have hlead := aJQ g2
  have hsl : s.length ≤ 60000000000 := zb
  have hdd : isD (s.drop q) := alY h3 q
  have htk : List.take (s.length - q) (s.drop q) = s.drop q := zp zh
  have fin : ∀ (w : TT (vU ⊕ ((Int × List UInt8 × Unit) ⊕ ub))), (q = s.length ∨ (s.drop q).head? ≠ some 48) → (TT.ite (s.drop q == #[].toList) (TT.ok (.inr (.inr (#[48].toList, ())))) (TT.ite (decide (z < 0)) (TT.need (List.length #[(45 : UInt8)].toList + List.length (s.drop q) ≤ lim) (TT.ok (.inr (.inr (#[45].toList ++ s.drop q, ()))))) (TT.ok (.inr (.inr (s.drop q, ())))) : TT (vU ⊕ ((Int × List UInt8 × Unit) ⊕ ub)))).toO = some (.inr (.inr (dec z, ()))) := by
   intro _ hq
   by_cases c0 : s.drop q = []
   ·refine uT (by rw [c0]; rfl) ?_
    rw [c0] at hlead
    have : z.natAbs = 0 := by rw [← h5', hlead]; rfl
    have hz : z = 0 := zb
    subst hz
    rw [acP zb, Int.natAbs_zero, ab6 zb]; rfl
   ·refine uF (by rw [beq_eq_false_iff_ne]; exact c0) ?_
    have hu : s.drop q = abV z.natAbs := by
     have := aAa hdd c0 (by
      rcases hq with hq | hq
      ·exact absurd (by rw [hq]; simp) c0
      ·exact Or.inl hq)
     rw [this, ← hlead, h5']
    by_cases cz : z < 0
    ·refine uT (zm cz) (uN ?_ ?_)
     ·show 1 + (s.drop q).length ≤ lim
      rw [yo]; unfold lim; omega
     ·rw [hu, ag0 cz]; rfl
    ·refine uF (zl cz) ?_
     rw [hu, acP zb]; rfl
  unfold at2 ahP
  simp only [aaN, zj, htk]
  rcases zt q s.length with hq | hq
  ·have e1 : s.getD q 0 = s[q] := by simp [hq]
   rw [e1]
   by_cases c : s[q] = 48
   ·left
    refine ⟨(((q + 1 : Nat) : Int), ()), ?_, ⟨q + 1, by omega, rfl, ?_⟩, by dsimp only; omega, zd⟩
    ·refine uT sd (uN sd (uT (by rw [c]; rfl) ?_))
     repeat refine za ?_
     rw [aaP, aaA (x := (q : Int) + 1) zb]; rfl
    ·intro c' hc'
     rw [zP hq] at hc'
     rcases zz.1 hc' with hc' | hc'
     ·exact g2 c' hc'
     ·rw [yg.1 hc', c]
   ·right
    refine uT sd (uN sd (uF ?_ (uN sd ?_)))
    ·rw [beq_eq_false_iff_ne]
     intro h
     exact c (UInt8.toNat_inj.1 (Int.ofNat.inj h))
    ·refine fin TT.bad (Or.inr ?_)
     rw [yr hq, wW]
     exact fun h => c (Option.some.inj h)
  ·right
   refine uF sd (uN sd ?_)
   exact fin TT.bad (Or.inl zb)
theorem aDc {z : Int} (h : Bd 6 z.natAbs) : amC (pl z, ()) = some (wrW z) := aaR (enc := fun x : Int => (pl x, ())) z h (fun b hb => aqE (Prod.mk.inj hb).1)
theorem aDM (x : PlT) (y) (h : amC (x, ()) = some y) : (aCv x).toO = some y := by
 obtain ⟨z, hp, hx, rfl⟩ := aaH h
 obtain ⟨rfl, -⟩ := Prod.mk.inj hx
 refine uC _ (aAu hp) ?_
 dsimp only
 have hl : (abV z.natAbs).length ≤ 90000000000 := by
  have := ag1 (k := 1000000 * 4 ^ 6) hp
  omega
 by_cases c : z < 0
 ·refine uT (zm c) ?_
  have e : w64 (len (dec z) - 1) = ((abV z.natAbs).length : Int) := by
   rw [ag0 c, aaI, yw, aaA zb]; omega
  rw [e]
  by_cases f : Fit z
  ·rw [avH f]
   have f' : (abV z.natAbs).length ≤ 600 := f
   exact uF sd rfl
  ·rw [avI f]
   have f' : ¬ (abV z.natAbs).length ≤ 600 := f
   exact uT sd rfl
 ·refine uF (zl c) ?_
  have e : len (dec z) = ((abV z.natAbs).length : Int) := by rw [acP zb]; rfl
  rw [e]
  by_cases f : Fit z
  ·rw [avH f]
   have f' : (abV z.natAbs).length ≤ 600 := f
   exact uF sd rfl
  ·rw [avI f]
   have f' : ¬ (abV z.natAbs).length ≤ 600 := f
   exact uT sd rfl
theorem agW {n : Int} (h : adQ n) : acC (n, ()) = some (pl n, ()) := by unfold acC; rw [if_pos h]
theorem aJ7 {l : List Int} {x w v N : Int} (h : V 10000 l + 10000 ^ l.length * w = N) (hx : x + 10000 * v = w) : V 10000 (l ++ [x]) + 10000 ^ (l.length + 1) * v = N := by
 rw [adL, atK, yi, ← h]
 have : (10000 : Int) ^ l.length * (x + 10000 * v) = 10000 ^ l.length * w := by rw [hx]
 grind
theorem as3 (n : Int) (y) (h : acC (n, ()) = some y) : (aoA n).toO = some y := by
 unfold acC at h
 split at h
 case isFalse => cases h
 case isTrue hn =>
 injection h with h
 subst h
 obtain ⟨n0, n1⟩ := hn
 dsimp only at n0 n1
 refine uO (true, [], n, ()) rfl ?_
 refine aaW (fun i : Bool × List Int × Int × Unit => Dg 10000 i.2.1 ∧ i.2.2.1.natAbs ≤ n.natAbs ∧ V 10000 i.2.1 + 10000 ^ i.2.1.length * i.2.2.1.natAbs = n.natAbs ∧ (i.1 = true → i.2.1 = []) ∧ (i.2.2.1 = 0 → Cn i.2.1) ∧ i.2.1.length ≤ 6 ∧ i.2.2.1.natAbs < 10000 ^ (6 - i.2.1.length)) (fun i => i.2.2.1.natAbs) (fun _ => (pl n, ())) ?_ _ ⟨aoX _, zi _, by simp [V], fun _ => rfl, fun _ => aoZ, by simp, by simp; omega⟩
 rintro ⟨f, l, v, u⟩ ⟨g1, g2, g3, g4, g5, g6, g7⟩
 dsimp only at g1 g2 g3 g4 g5 g6 g7
 by_cases hv : v = 0
 ·right
  subst hv
  have hm : abG (decide (n < 0), l, ()) = some (pl n, ()) := asM g1 zb (by simp at g3; omega) (Or.inr rfl)
  cases f with
  | true =>
   obtain rfl := g4 rfl
   unfold aeK
   exact uT rfl (uF rfl (uC _ hm rfl))
  | false =>
   unfold aeK
   dsimp only
   rw [zq]
   exact uF rfl (uF rfl (uC _ hm rfl))
 ·left
  have hl6 : l.length ≤ 5 := by
   rcases zt 5 l.length with h | h
   ·have : l.length = 6 := zb
    rw [this] at g7; simp at g7; omega
   ·exact h
  have td : (Int.tdiv v 10000).natAbs = v.natAbs / 10000 := by rw [Int.natAbs_tdiv]; rfl
  have tm : (Int.tmod v 10000).natAbs = v.natAbs % 10000 := by rw [xF]; rfl
  have hx : ((v.natAbs % 10000 : Nat) : Int) + 10000 * ((v.natAbs / 10000 : Nat) : Int) = v.natAbs := zb
  have wd : w64 (Int.tdiv v 10000) = Int.tdiv v 10000 := aaA zb
  have wm : w64 (0 - Int.tmod v 10000) = 0 - Int.tmod v 10000 := aaA zb
  have inv : Dg 10000 (l ++ [((v.natAbs % 10000 : Nat) : Int)]) ∧ (Int.tdiv v 10000).natAbs ≤ n.natAbs ∧ V 10000 (l ++ [((v.natAbs % 10000 : Nat) : Int)]) + 10000 ^ (l ++ [((v.natAbs % 10000 : Nat) : Int)]).length * ((Int.tdiv v 10000).natAbs : Int) = n.natAbs ∧ (false = true → (l ++ [((v.natAbs % 10000 : Nat) : Int)]) = []) ∧ (Int.tdiv v 10000 = 0 → Cn (l ++ [((v.natAbs % 10000 : Nat) : Int)])) ∧ (l ++ [((v.natAbs % 10000 : Nat) : Int)]).length ≤ 6 ∧ (Int.tdiv v 10000).natAbs < 10000 ^ (6 - (l ++ [((v.natAbs % 10000 : Nat) : Int)]).length) := by
   refine ⟨ad1 g1 (ai4 zb zb), by omega, ?_, by simp, ?_, by simp; omega, ?_⟩
   ·rw [zF, yb, td]
    exact aJ7 g3 hx
   ·intro hz
    unfold Cn
    simp only [List.getLast?_concat, ne_eq, Option.some.injEq]
    omega
   ·rw [zF, yb, td, yL zb]
    have h9 : 10000 ^ (6 - l.length) = 10000 ^ (6 - (l.length + 1)) * 10000 := by
     rw [← yA]; congr 1; omega
    omega
  refine ⟨(false, l ++ [((v.natAbs % 10000 : Nat) : Int)], Int.tdiv v 10000, ()), ?_, inv, by dsimp only; omega, zd⟩
  cases f with
  | true =>
   obtain rfl := g4 rfl
   simp only [aeK, wd, wm]
   by_cases c : Int.tmod v 10000 < 0
   ·refine uT rfl (uT (by simpa using hv) (uV (uT (zm c) ?_)))
    repeat refine za ?_
    rw [aaP, show 0 - Int.tmod v 10000 = ((v.natAbs % 10000 : Nat) : Int) by omega]; rfl
   ·refine uT rfl (uT (by simpa using hv) (uV (uF (zl c) ?_)))
    repeat refine za ?_
    rw [aaP, show Int.tmod v 10000 = ((v.natAbs % 10000 : Nat) : Int) by omega]; rfl
  | false =>
   simp only [aeK, wd, wm, zq]
   by_cases c : Int.tmod v 10000 < 0
   ·refine uF rfl (uT (by simpa using hv) (uV (uT (zm c) ?_)))
    repeat refine za ?_
    rw [aaP, show 0 - Int.tmod v 10000 = ((v.natAbs % 10000 : Nat) : Int) by omega]
   ·refine uF rfl (uT (by simpa using hv) (uV (uF (zl c) ?_)))
    repeat refine za ?_
    rw [aaP, show Int.tmod v 10000 = ((v.natAbs % 10000 : Nat) : Int) by omega]
theorem ak5 {k n : Nat} (h : Bd k n) (hk : k ≤ 8) : (dig n).length ≤ 1000000000000 := zu (asA h hk) zb
theorem asN {z : Int} (h : Bd 8 z.natAbs) : ahH (pl z, ()) = some (pl (-z), ()) := aaR (enc := fun x : Int => (pl x, ())) z h (fun b hb => aqE (Prod.mk.inj hb).1)
theorem aAX (x : PlT) (y) (h : ahH (x, ()) = some y) : (ayH x).toO = some y := by
 obtain ⟨z, hp, hx, rfl⟩ := aaH h
 obtain ⟨rfl, -⟩ := Prod.mk.inj hx
 refine uC (pl (-z), ()) (ae2 (ak5 hp zb) zb ?_) rfl
 by_cases h0 : z = 0
 ·left; omega
 ·right
  show (!decide (z < 0)) = decide (-z < 0)
  by_cases h1 : z < 0
  ·rw [zm h1, zl zb]; rfl
  ·rw [zl h1, zm zb]; rfl
theorem aKD {a b : Nat} (h1 : (dig a).length ≤ 1000000000000) (h2 : (dig b).length ≤ 1000000000000) : apK (dig a, dig b, ()) = some (dig (a + b), ()) := aaR (enc := fun p : Nat × Nat => (dig p.1, dig p.2, ())) (a, b) ⟨h1, h2⟩ (fun b hb => auX hb)
theorem au9 {a b : Nat} (h1 : (dig a).length ≤ 1000000000000) (h : b ≤ a) : abB (dig a, dig b, ()) = some (dig (a - b), ()) := ai2 (ac3 a) (ac3 b) h1 (ab4 h) (by rw [agG, agG]; omega) (by rw [agG, agG]; omega)
theorem aE5 {a b : Nat} (h1 : (dig a).length ≤ 400000000000) (h2 : (dig b).length ≤ 400000000000) : abO (dig a, dig b, ()) = some (dig (a * b), ()) := ai1 (ac3 a) (Or.inl (ac3 b)) h1 h2 (by rw [agG, agG]; simp)
theorem amK {a b : Int} (h1 : Bd 7 a.natAbs) (h2 : Bd 7 b.natAbs) : afK (pl a, pl b, ()) = some (pl (a + b), ()) := aaR (enc := fun p : Int × Int => (pl p.1, pl p.2, ())) (a, b) ⟨h1, h2⟩ (fun b hb => ai8 hb)
theorem aA0 (x x' : PlT) (y) (h : afK (x, x', ()) = some y) : (aqC x x').toO = some y := by
 obtain ⟨⟨a, b⟩, hp, hx, rfl⟩ := aaH h
 obtain ⟨rfl, hx2⟩ := Prod.mk.inj hx; obtain ⟨rfl, -⟩ := Prod.mk.inj hx2; dsimp only
 obtain ⟨l1, l2⟩ := hp
 simp only at l1 l2
 have d1 := ak5 l1 zb
 have d2 := ak5 l2 zb
 have d3 := ak5 (aa1 l1 l2) zb
 unfold aqC
 dsimp only
 by_cases hs : (decide (a < 0) == decide (b < 0)) = true
 ·refine uT hs ?_
  have hs' : (a < 0 ↔ b < 0) := by simpa using hs
  refine uC _ (aKD d1 d2) ?_
  refine uC (pl (a + b), ()) (ae2 d3 zb (Or.inr (decide_eq_decide.2 zb))) rfl
 ·have hs' : ¬ (a < 0 ↔ b < 0) := by simpa using hs
  refine uF (by simpa using hs) ?_
  refine uC _ (an3 _ _ (ac3 _) (ac3 _) d1 d2) ?_
  obtain ⟨o1, o2⟩ := aCy a.natAbs b.natAbs
  by_cases hc : a.natAbs < b.natAbs
  ·refine uF (zl (by have := o1.2 hc; dsimp only; omega)) ?_
   refine uC _ (au9 d2 zb) ?_
   have d4 : (dig (b.natAbs - a.natAbs)).length ≤ 1000000000000 := zu (ab4 (Nat.sub_le _ _)) d2
   refine uC (pl (a + b), ()) (ae2 d4 zb (Or.inr (decide_eq_decide.2 zb))) rfl
  ·refine uT (zm (by
    rcases zN (aLk (dig a.natAbs) (dig b.natAbs)) 0 with h | h
    ·exact absurd (o1.1 h) hc
    ·exact h)) ?_
   refine uC _ (au9 d1 zb) ?_
   have d4 : (dig (a.natAbs - b.natAbs)).length ≤ 1000000000000 := zu (ab4 (Nat.sub_le _ _)) d1
   refine uC (pl (a + b), ()) (ae2 d4 zb ?_) rfl
   by_cases h0 : a + b = 0
   ·exact Or.inl h0
   ·exact Or.inr (decide_eq_decide.2 zb)
theorem aE6 {a b : Int} (h1 : Bd 7 a.natAbs) (h2 : Bd 7 b.natAbs) : ajS (pl a, pl b, ()) = some (pl (a - b), ()) := aaR (enc := fun p : Int × Int => (pl p.1, pl p.2, ())) (a, b) ⟨h1, h2⟩ (fun b hb => ai8 hb)
theorem ayL (x x' : PlT) (y) (h : ajS (x, x', ()) = some y) : (at3 x x').toO = some y := by
 obtain ⟨⟨a, b⟩, hp, hx, rfl⟩ := aaH h
 obtain ⟨rfl, hx2⟩ := Prod.mk.inj hx; obtain ⟨rfl, -⟩ := Prod.mk.inj hx2; dsimp only
 obtain ⟨l1, l2⟩ := hp
 refine uC _ (asN (aaJ l2 zb)) (uC _ (amK l1 (aaV l2)) ?_)
 rw [Int.sub_eq_add_neg]; rfl
theorem aJT {a b : Int} : a * b = 0 ∨ (!(decide (a < 0) == decide (b < 0))) = decide (a * b < 0) := by
 by_cases hz : a * b = 0
 ·exact Or.inl hz
 ·right
  have z1 : a ≠ 0 := fun h => hz (by rw [h]; simp)
  have z2 : b ≠ 0 := fun h => hz (by rw [h]; simp)
  rcases zN a 0 with c1 | c1 <;> rcases zN b 0 with c2 | c2
  ·have := Int.mul_pos_of_neg_of_neg c1 c2
   rw [zm c1, zm c2, zl zb]; rfl
  ·have := wD c1 (show 0 < b by omega)
   rw [zm c1, zl zb, zm zb]; rfl
  ·have := wE (show 0 < a by omega) c2
   rw [zl zb, zm c2, zm zb]; rfl
  ·have := Int.mul_pos (show 0 < a by omega) (show 0 < b by omega)
   rw [zl zb, zl zb, zl zb]; rfl
theorem ahL {a b : Int} (h1 : Bd 7 a.natAbs) (h2 : Bd 7 b.natAbs) : aeF (pl a, pl b, ()) = some (pl (a * b), ()) := aaR (enc := fun p : Int × Int => (pl p.1, pl p.2, ())) (a, b) ⟨h1, h2⟩ (fun b hb => ai8 hb)
theorem ayI (x x' : PlT) (y) (h : aeF (x, x', ()) = some y) : (at1 x x').toO = some y := by
 obtain ⟨⟨a, b⟩, hp, hx, rfl⟩ := aaH h
 obtain ⟨rfl, hx2⟩ := Prod.mk.inj hx; obtain ⟨rfl, -⟩ := Prod.mk.inj hx2; dsimp only
 obtain ⟨l1, l2⟩ := hp
 simp only at l1 l2
 have d1 := asA l1 zb
 have d2 := asA l2 zb
 refine uC _ (aE5 (zu d1 zb) (zu d2 zb)) ?_
 refine uC (pl (a * b), ()) (ae2 (ak5 (aaZ l1 l2) zb) (by rw [yk]) aJT) rfl
theorem au8 {a b : Nat} (h1 : (dig a).length ≤ 200000000000) (h2 : (dig b).length ≤ 200000000000) (h3 : b ≠ 0) : ahG (dig a, dig b, ()) = some (dig (a / b), dig (a % b), ()) := aaR (enc := fun p : Nat × Nat => (dig p.1, dig p.2, ())) (a, b) ⟨h1, h2, h3⟩ (fun b hb => auX hb)
theorem ai3 {a b : Int} (h1 : Bd 8 a.natAbs) (h2 : Bd 8 b.natAbs) : aeG (pl a, pl b, ()) = some (pl (Nat.gcd a.natAbs b.natAbs), ()) := aaR (enc := fun p : Int × Int => (pl p.1, pl p.2, ())) (a, b) ⟨h1, h2⟩ (fun b hb => ai8 hb)
theorem as4 (x x' : PlT) (y) (h : aeG (x, x', ()) = some y) : (aoB x x').toO = some y := by
 obtain ⟨⟨a, b⟩, hp, hx, rfl⟩ := aaH h
 obtain ⟨rfl, hx2⟩ := Prod.mk.inj hx; obtain ⟨rfl, -⟩ := Prod.mk.inj hx2; dsimp only
 obtain ⟨l1, l2⟩ := hp
 dsimp only at l1 l2
 have d1 := asA l1 zb
 have d2 := asA l2 zb
 refine uO (dig b.natAbs, dig a.natAbs, ()) rfl ?_
 have hres : (pl ((Nat.gcd a.natAbs b.natAbs : Nat) : Int), ()) = ((false, dig (Nat.gcd a.natAbs b.natAbs), ()), ()) := by
  unfold pl
  rw [zl zb, yO]
 rw [hres]
 refine aaW (fun i : List Int × List Int × Unit => ∃ p q : Nat, i = (dig q, dig p, ()) ∧ (dig p).length ≤ 200000000000 ∧ (dig q).length ≤ 200000000000 ∧ Nat.gcd p q = Nat.gcd a.natAbs b.natAbs) (fun i => (V 10000 i.1).toNat) (fun _ => ((false, dig (Nat.gcd a.natAbs b.natAbs), ()), ())) ?_ _ ⟨a.natAbs, b.natAbs, rfl, d1, d2, rfl⟩
 rintro i ⟨p, q, rfl, lp, lq, hg⟩
 unfold alM
 dsimp only
 by_cases hq : q = 0
 ·right
  subst hq
  refine uF (by rw [dig_zero]; rfl) ?_
  rw [← hg, Nat.gcd_zero_right]; rfl
 ·left
  have hql : 1 ≤ (dig q).length := by
   rcases zy (dig q).length with h5 | h5
   ·exact absurd (dig_nil_iff.1 (zS.1 h5)) hq
   ·exact h5
  refine ⟨(dig (p % q), dig q, ()), ?_, ⟨q, p % q, rfl, lq, ?_, ?_⟩, ?_, zd⟩
  ·refine uT sd (uC _ (au8 lp lq hq) ?_)
   repeat refine za ?_
   rfl
  ·exact zu (ab4 (Nat.le_of_lt (yR p (show 0 < q by omega)))) lq
  ·rw [← hg, xO p q, Nat.gcd_rec q p, xO]
  ·simp only [agG, zj]
   exact yR p zb
theorem ajX {a b : Int} (h1 : Bd 6 a.natAbs) (h2 : Bd 6 b.natAbs) (h3 : b ≠ 0) : aeY (pl a, pl b, ()) = some (pl (a / b), pl (a % b), ()) := aaR (enc := fun p : Int × Int => (pl p.1, pl p.2, ())) (a, b) ⟨h1, h2, h3⟩ (fun b hb => ai8 hb)
theorem aOF {a b : Int} (hb : b ≠ 0) : ∃ q r : Int, q.natAbs = a.natAbs / b.natAbs ∧ r.natAbs = a.natAbs % b.natAbs ∧ (q = 0 ∨ (!(decide (a < 0) == decide (b < 0))) = decide (q < 0)) ∧ (r = 0 ∨ decide (a < 0) = decide (r < 0)) ∧ (r < 0 → a / b = (if b < 0 then q + 1 else q - 1) ∧ a % b = r + b.natAbs) ∧ (¬ r < 0 → a / b = q ∧ a % b = r) := by
 refine ⟨Int.tdiv a b, Int.tmod a b, Int.natAbs_tdiv a b, xF a b, ?_, ?_, ?_, ?_⟩
 ·by_cases hz : Int.tdiv a b = 0
  ·exact Or.inl hz
  ·right
   rcases zN a 0 with c1 | c1 <;> rcases zN b 0 with c2 | c2
   ·have : 0 ≤ Int.tdiv a b := by
     rw [← Int.neg_tdiv_neg]; exact xA zb zb
    rw [zm c1, zm c2, zl zb]; rfl
   ·have : Int.tdiv a b ≤ 0 := by
     have := xA (a := -a) (b := b) zb c2
     rw [Int.neg_tdiv] at this; omega
    rw [zm c1, zl zb, zm zb]; rfl
   ·have : Int.tdiv a b ≤ 0 := by
     have := xA (a := a) (b := -b) c1 zb
     rw [Int.tdiv_neg] at this; omega
    rw [zl zb, zm c2, zm zb]; rfl
   ·have := xA c1 c2
    rw [zl zb, zl zb, zl zb]; rfl
 ·by_cases hz : Int.tmod a b = 0
  ·exact Or.inl hz
  ·right
   refine decide_eq_decide.2 ?_
   rcases zN a 0 with c1 | c1
   ·have : Int.tmod a b ≤ 0 := by
     have := xP (a := -a) b zb
     rw [Int.neg_tmod] at this; omega
    omega
   ·have := xP (a := a) b c1
    omega
 ·intro hr
  have ha : a < 0 := by
   rcases zN a 0 with c | c
   ·exact c
   ·have := xP (a := a) b c; omega
  have h1 := xW a b
  have h2 : (Int.tmod a b).natAbs < b.natAbs := by rw [xF]; exact yR _ zb
  generalize Int.tdiv a b = q at *
  generalize Int.tmod a b = r at *
  have key : ∀ q' r' : Int, r' + b * q' = a → 0 ≤ r' → r' < b.natAbs → a / b = q' ∧ a % b = r' := by
   intro q' r' e e1 e2
   have hr' : r' / b = 0 := by
    rcases zN b 0 with c | c
    ·have : r' / (-(-b)) = -(r' / -b) := Int.ediv_neg _ _
     rw [Int.neg_neg] at this
     rw [this, xu e1 zb]; rfl
    ·exact xu e1 zb
   have d1 : a / b = q' := by rw [← e, wT _ _ hb, hr', wK]
   refine ⟨d1, ?_⟩
   have := yc a b
   rw [d1] at this
   omega
  rcases zN b 0 with c | c
  ·rw [if_pos c]
   exact key _ _ (by rw [xS]; omega) zb zb
  ·rw [if_neg zb]
   exact key _ _ (by rw [Int.mul_sub]; omega) zb zb
 ·intro hr
  have h1 := xW a b
  have h2 : (Int.tmod a b).natAbs < b.natAbs := by rw [xF]; exact yR _ zb
  generalize Int.tdiv a b = q at *
  generalize Int.tmod a b = r at *
  have hr' : r / b = 0 := by
   rcases zN b 0 with c | c
   ·have : r / (-(-b)) = -(r / -b) := Int.ediv_neg _ _
    rw [Int.neg_neg] at this
    rw [this, xu zb zb]; rfl
   ·exact xu zb zb
  have d1 : a / b = q := by rw [← h1, wT _ _ hb, hr', wK]
  refine ⟨d1, ?_⟩
  have := yc a b
  rw [d1] at this
  omega
theorem ayK (x x' : PlT) (y) (h : aeY (x, x', ()) = some y) : (am2 x x').toO = some y := by
 obtain ⟨⟨a, b⟩, hp, hx, rfl⟩ := aaH h
 obtain ⟨rfl, hx2⟩ := Prod.mk.inj hx; obtain ⟨rfl, -⟩ := Prod.mk.inj hx2; dsimp only
 obtain ⟨l1, l2, l3⟩ := hp
 dsimp only at l1 l2 l3
 have d1 := asA l1 zb
 have d2 := asA l2 zb
 obtain ⟨q, r, hq, hr, sq, sr, hneg, hpos⟩ := aOF (a := a) l3
 have bq : Bd 6 q.natAbs := by rw [hq]; exact aaQ _ l1
 have br : Bd 6 r.natAbs := by rw [hr]; exact aa3 _ l1
 have i1 : adQ 1 := ⟨by omega, by omega⟩
 have b1 : Bd 7 (1 : Int).natAbs := aaJ (aaG zf) zb
 unfold am2
 dsimp only
 refine uC _ (au8 d1 d2 zb) ?_
 refine uC (pl q, ()) (ae2 (by rw [← hq]; exact ak5 bq zb) hq.symm sq) ?_
 refine uC (pl r, ()) (ae2 (by rw [← hr]; exact ak5 br zb) hr.symm sr) ?_
 dsimp only
 by_cases c : r < 0
 ·obtain ⟨e1, e2⟩ := hneg c
  refine uT (zm c) ?_
  have hpb : afK (pl r, (false, dig b.natAbs, ()), ()) = some (pl (r + b.natAbs), ()) := by
   have := amK (a := r) (b := (b.natAbs : Int)) (aaJ br zb) (aaJ l2 zb)
   unfold pl at this ⊢
   rwa [zl (show ¬ ((b.natAbs : Int) < 0) by omega), yO] at this
  refine uC _ hpb ?_
  rw [e1, e2]
  by_cases c2 : b < 0
  ·rw [if_pos c2]
   exact uT (zm c2) (uC _ (agW i1) (uC _ (amK (aaJ bq zb) b1) rfl))
  ·rw [if_neg c2]
   exact uF (zl c2) (uC _ (agW i1) (uC _ (aE6 (aaJ bq zb) b1) rfl))
 ·obtain ⟨e1, e2⟩ := hpos c
  rw [e1, e2]
  exact uF (zl c) rfl
theorem avA {s : List UInt8} (h : s.length ≤ 1000000000000) : aeX (s, ()) = some ((rdW s).isSome, ()) := by unfold aeX; rw [if_pos h]
theorem ayJ (a : List UInt8) (y) (h : aeX (a, ()) = some y) : (am1 a).toO = some y := by
 unfold aeX at h
 split at h
 case isFalse => cases h
 case isTrue hl =>
 injection h with h
 subst h
 dsimp only at hl ⊢
 obtain ⟨j, t, b, hj, hat, hc⟩ : ∃ (j : Nat) (t : List UInt8) (b : Bool), j ≤ a.length ∧ (a.drop j = t ∧ (b = true ↔ j = 1) ∧ j ≤ 1 ∧ (∃ d : TT (vU ⊕ uc), True) ∧ ((TT.ite (decide (len a > 0)) (TT.need (asT Int 0 ≤ 0 ∧ 0 < len a) (TT.ite ((((gi a 0 0).toNat : Int)) == 45) (TT.ok (.inl (1, ()))) (TT.ok (.inl (0, ()))))) (TT.ok (.inl (0, ()))) : TT (vU ⊕ uc)).toO = some (.inl ((j : Int), ())))) ∧ abW (a, #[45].toList, ()) = some (t, b, ()) := by
  cases a with
  | nil => exact ⟨0, [], false, by simp, ⟨rfl, by simp, by omega, ⟨TT.bad, trivial⟩, uF rfl rfl⟩, rfl⟩
  | cons c a =>
   by_cases hcc : c = 45
   ·subst hcc
    refine ⟨1, a, true, by simp, ⟨rfl, by simp, by omega, ⟨TT.bad, trivial⟩, uT (by (try simp only [zH, xa, yQ, xp, beq_eq_false_iff_ne, bne_eq_false_iff_eq, zZ, xw]) <;> (try simp only [aaI, inb, inc, ge_iff_le, gt_iff_lt, zj, asT, ne_eq]) <;> simp) (uN ⟨by simp [asT], by (try simp only [aaI, inb, inc, ge_iff_le, gt_iff_lt, zj, asT, ne_eq]); simp⟩ (uT rfl rfl))⟩, ?_⟩
    simp [abW, List.isPrefixOf]
   ·refine ⟨0, c :: a, false, by simp, ⟨rfl, by simp, by omega, ⟨TT.bad, trivial⟩, uT (by (try simp only [zH, xa, yQ, xp, beq_eq_false_iff_ne, bne_eq_false_iff_eq, zZ, xw]) <;> (try simp only [aaI, inb, inc, ge_iff_le, gt_iff_lt, zj, asT, ne_eq]) <;> simp) (uN ⟨by simp [asT], by (try simp only [aaI, inb, inc, ge_iff_le, gt_iff_lt, zj, asT, ne_eq]); simp⟩ (uF ?_ rfl))⟩, ?_⟩
    ·rw [beq_eq_false_iff_ne]
     intro h
     exact hcc (UInt8.toNat_inj.1 (Int.ofNat.inj h))
    ·have : ¬ (45 = c) := fun h => hcc h.symm
     simp [abW, List.isPrefixOf, this]
 obtain ⟨ht, hb, hj1, -, hjoin⟩ := hat
 have htl : t.length = a.length - j := by rw [← ht]; simp
 have hget : ∀ k, a.getD (j + k) 0 = t.getD k 0 := by
  intro k; rw [← ht]; simp [yq, yu]
 have hnot : ¬ (isD t ∧ t ≠ [] ∧ t.length ≤ 600 ∧ (t.head? = some 48 → b = false ∧ t.length = 1)) → (rdW a).isSome = false := fun h => by rw [aFI hc h]; rfl
 have hyes : isD t → t ≠ [] → t.length ≤ 600 → (t.head? = some 48 → b = false ∧ t.length = 1) → (rdW a).isSome = true := fun h1 h2 h3 h4 => by
  obtain ⟨z, e1, -, -⟩ := aFH hc h1 h2 h3 h4
  rw [e1]; rfl
 unfold am1
 refine uL ((j : Int), ()) hjoin ?_
 unfold aqB
 have hw : w64 (len a - (j : Int)) = (t.length : Int) := by rw [aaI, aaA zb]; omega
 simp only [hw]
 by_cases c1 : t = []
 ·rw [hnot (fun h => h.2.1 c1)]
  exact uR _ (uT (by rw [c1]; rfl) rfl)
 have hlen : 1 ≤ t.length := zL.2 c1
 by_cases c2 : t.length ≤ 600
 case neg =>
  rw [hnot (fun h => c2 h.2.2.1)]
  exact uR _ (uF sd (uT sd rfl))
 refine uL (false, ()) (uF sd (uF sd rfl)) ?_
 refine uO ((j : Int), ()) rfl ?_
 refine aaW (fun i : Int × Unit => ∃ k : Nat, i.1 = ((j + k : Nat) : Int) ∧ k ≤ t.length ∧ isD (t.take k)) (fun i => ((a.length : Int) - i.1).toNat) (fun _ => ((rdW a).isSome, ())) ?_ _ ⟨0, rfl, by omega, by simp [isD]⟩
 rintro ⟨i, u⟩ ⟨k, h3, h4, h5⟩
 simp only at h3
 subst h3
 simp only [aqA, aaN, hget]
 rcases zt k t.length with hk | hk
 ·have e1 : t.getD k 0 = t[k] := by simp [hk]
  simp only [e1]
  by_cases d1 : t[k].toNat < 48
  ·right
   rw [hnot (fun h => by have := h.1 t[k] (yy hk); omega)]
   repeat refine za ?_
   rfl
  by_cases d2 : t[k].toNat > 57
  ·right
   rw [hnot (fun h => by have := h.1 t[k] (yy hk); omega)]
   repeat refine za ?_
   rfl
  ·left
   refine ⟨(((j + (k + 1) : Nat) : Int), ()), ?_, ⟨k + 1, rfl, by omega, ?_⟩, by simp only; omega, zd⟩
   ·repeat refine za ?_
    rw [aaP, aaA (x := ((j + k : Nat) : Int) + 1) zb]; rfl
   ·rw [zP hk, isD_append]
    refine ⟨h5, fun c hc => ?_⟩
    have := yg.1 hc
    subst this
    omega
 ·right
  have hd : isD t := by rwa [zp hk] at h5
  have hg0 : a.getD j 0 = t.getD 0 0 := hget 0
  simp only [hg0]
  refine uF sd (uN ⟨by omega, by exact sn⟩ ?_)
  cases hct : t with
  | nil => exact absurd hct c1
  | cons c r =>
   rw [← hct]
   have hg : t.getD 0 0 = c := by rw [hct]; rfl
   simp only [hg]
   have hh : t.head? = some c := by rw [hct]; rfl
   by_cases c0 : c = 48
   ·subst c0
    refine uF rfl ?_
    show some (Sum.inr (len a == 1, ())) = _
    by_cases hl1 : a.length = 1
    ·rw [hyes hd c1 c2 (fun _ => ⟨by
      cases b with
      | false => rfl
      | true => have := hb.1 rfl; omega, by omega⟩)]
     rw [show (len a == 1) = true by rw [yQ, aaI]; omega]
    ·rw [hnot (fun h => by
      obtain ⟨q1, q2⟩ := h.2.2.2 hh
      have : ¬ j = 1 := fun h => by rw [hb.2 h] at q1; cases q1
      omega)]
     rw [show (len a == 1) = false by rw [beq_eq_false_iff_ne, aaI]; omega]
   ·rw [hyes hd c1 c2 (fun h => by rw [hh] at h; injection h with h; exact absurd h c0)]
    refine uT ?_ rfl
    rw [xp]
    intro h
    exact c0 (UInt8.toNat_inj.1 (Int.ofNat.inj h))
theorem ax2 {a t : List UInt8} {j : Nat} (hd : isD t) (hget : ∀ k, a.getD (j + k) 0 = t.getD k 0) {s i e : Nat} (h1 : s ≤ i) (h2 : i < e) (h3 : e ≤ t.length) (h4 : e - s ≤ 4) : w64 (w64 ((num ((t.take i).drop s) : Int) * 10) + w64 (wu8 (((a.getD (j + i) 0).toNat : Int) - 48))) = (num ((t.take (i + 1)).drop s) : Int) := by
 have hi : i < t.length := zb
 have e1 : t.getD i 0 = t[i] := by simp [hi]
 have e2 := hd t[i] (yy hi)
 have e3 := ay0 (alY (apB hd i) s)
 rw [apX h1 zb] at e3
 have e4 : (10 : Nat) ^ (i - s) ≤ 10 ^ 3 := zQ zb zb
 have e5 : dv t[i] = t[i].toNat - 48 := rfl
 rw [aCm h1 hi, ajC, hget, e1, e5]
 rw [abZ (x := (t[i].toNat : Int) - 48) zb, aaA (x := (t[i].toNat : Int) - 48) zb, aaA (x := (num ((t.take i).drop s) : Int) * 10) zb, aaA zb]
 omega
theorem axJ {z : Int} (h : Fit z) : ak9 (dec z, ()) = some (pl z, ()) := aaR (enc := fun x : Int => (dec x, ())) z h (fun b hb => anS (Prod.mk.inj hb).1)
theorem aFX (a : List UInt8) (y) (h : ak9 (a, ()) = some y) : (aA1 a).toO = some y := by
 obtain ⟨z, hp, hx, rfl⟩ := aaH h
 obtain ⟨rfl, -⟩ := Prod.mk.inj hx
 clear h hx
 have hfit : (abV z.natAbs).length ≤ 600 := hp
 have hd := al6 z.natAbs
 have hn := alW z.natAbs
 have hne := agE z.natAbs
 obtain ⟨j, hj, hget, hlen, hjoin⟩ : ∃ j : Nat, (j = if z < 0 then 1 else 0) ∧ (∀ k, (dec z).getD (j + k) 0 = (abV z.natAbs).getD k 0) ∧ (dec z).length = j + (abV z.natAbs).length ∧ ((TT.need (asT Int 0 ≤ 0 ∧ 0 < len (dec z)) (TT.ite ((((gi (dec z) 0 0).toNat : Int)) == 45) (TT.ok (.inl (1, ()))) (TT.ok (.inl (0, ())))) : TT (vU ⊕ (PlT × Unit))).toO = some (.inl ((j : Int), ()))) := by
  by_cases c : z < 0
  ·rw [ag0 c]
   refine ⟨1, by rw [if_pos c], fun k => by rw [yD]; simp, by simp; omega, uN ⟨by simp [asT], by (try simp only [aaI, inb, inc, ge_iff_le, gt_iff_lt, zj, asT, ne_eq]); simp⟩ (uT rfl rfl)⟩
  ·rw [acP zb]
   refine ⟨0, by rw [if_neg c], fun k => by rw [zn], by omega, uN ⟨by simp [asT], by exact sn⟩ (uF ?_ rfl)⟩
   have := ac4 z.natAbs
   cases hdn : abV z.natAbs with
   | nil => exact absurd hdn (agD _)
   | cons c l =>
    rw [hdn] at this
    show ((c.toNat : Int) == 45) = false
    rw [beq_eq_false_iff_ne]
    intro h
    have hc : c = 45 := UInt8.toNat_inj.1 (Int.ofNat.inj h)
    rw [hc] at this
    exact this rfl
 have hj1 : j ≤ 1 := by rw [hj]; split <;> omega
 have hjb : ((j : Int) == 1) = decide (z < 0) := by
  by_cases c : z < 0
  ·rw [zm c, hj, if_pos c]; rfl
  ·rw [zl c, hj, if_neg c]; rfl
 generalize abV z.natAbs = t at *
 generalize dec z = a at *
 unfold aA1
 refine uL ((j : Int), ()) hjoin ?_
 refine uO ((a.length : Int), true, [], ()) rfl ?_
 refine aaW (fun i : Int × Bool × List Int × Unit => ∃ e : Nat, (i.1 = ((j + e : Nat) : Int) ∨ (e = 0 ∧ i.1 ≤ j ∧ -10 ≤ i.1)) ∧ e ≤ t.length ∧ Dg 10000 i.2.2.1 ∧ V 10000 i.2.2.1 + 10000 ^ i.2.2.1.length * num (t.take e) = z.natAbs ∧ i.2.2.1.length + e ≤ t.length ∧ (i.2.1 = true → i.2.2.1 = [])) (fun i => (i.1 + 20).toNat) (fun _ => (pl z, ())) ?_ _ ⟨t.length, Or.inl (show (a.length : Int) = _ by omega), zi _, aoX _, by simp [V]; omega, by simp, fun _ => rfl⟩
 rintro ⟨e', f, l, u⟩ ⟨e, g1, g3, g4, g5, g6, g7⟩
 simp only at g1 g4 g5 g6 g7
 rcases zy e with he | he
 ·right
  subst he
  have hle : e' ≤ j := zb
  have hv : V 10000 l = z.natAbs := by simpa [aBc] using g5
  have hm : abG ((j : Int) == 1, l, ()) = some (pl z, ()) := asM g4 zb hv (Or.inr hjb)
  cases f with
  | true =>
   obtain rfl := g7 rfl
   unfold alK
   exact uT rfl (uF (zl (show ¬ (e' > (j : Int)) by omega)) (uC _ hm rfl))
  | false =>
   unfold alK
   dsimp only
   rw [zq]
   exact uF rfl (uF (zl (show ¬ (e' > (j : Int)) by omega)) (uC _ hm rfl))
 ·left
  have he' : e' = ((j + e : Nat) : Int) := zb
  subst he'
  obtain ⟨s, hs, hs1, hs2, hs3, hs4⟩ : ∃ s : Nat, (if (j : Int) > w64 (((j + e : Nat) : Int) - 4) then (j : Int) else w64 (((j + e : Nat) : Int) - 4)) = ((j + s : Nat) : Int) ∧ s ≤ e ∧ e - s ≤ 4 ∧ (s = 0 ∨ s + 4 = e) ∧ s < e := by
   rw [aaA (x := ((j + e : Nat) : Int) - 4) zb]
   rcases zt e 4 with h9 | h9
   ·exact ⟨0, by rw [if_pos zb]; rfl, by omega, by omega, Or.inl rfl, by omega⟩
   ·exact ⟨e - 4, by rw [if_neg zb]; omega, by omega, by omega, Or.inr zb, by omega⟩
  have hseg := aGM (s := t) hs1 g3
  have hv := ay0 (alY (apB hd e) s)
  rw [apX hs1 g3] at hv
  have hv4 : (10 : Nat) ^ (e - s) ≤ 10 ^ 4 := zQ zb hs2
  have hw4 : w64 (((j + e : Nat) : Int) - 4) = ((j + e : Nat) : Int) - 4 := aaA zb
  generalize hX : num ((t.take e).drop s) = X at hseg hv
  have hD : Dg 10000 (l ++ [(X : Int)]) := ad1 g4 (ai4 zb zb)
  have hV1 : V 10000 (l ++ [(X : Int)]) + 10000 ^ (l ++ [(X : Int)]).length * (num (t.take s) : Int) = z.natAbs := by
   rw [adL, atK, ← g5, hseg, zF, yb, yi]
   rcases hs3 with h0 | h0
   ·subst h0; simp [aBc]
   ·rw [show e - s = 4 by omega]
    have : (((num (t.take s) * 10 ^ 4 + X : Nat)) : Int) = (num (t.take s) : Int) * 10000 + X := zh
    rw [this]
    grind
  have inv : (((j + e : Nat) : Int) - 4 = ((j + s : Nat) : Int) ∨ (s = 0 ∧ ((j + e : Nat) : Int) - 4 ≤ j ∧ -10 ≤ ((j + e : Nat) : Int) - 4)) := zb
  refine ⟨(((j + e : Nat) : Int) - 4, false, l ++ [(X : Int)], ()), ?_, ⟨s, inv, by omega, hD, hV1, by simp; omega, by simp⟩, by simp only; omega, zd⟩
  cases f with
  | false =>
   simp only [alK]
   refine uF rfl (uT sd (uO (((j + s : Nat) : Int), 0, ()) (by repeat refine za ?_; rw [hs]; rfl) ?_))
   refine aaW (fun i : Int × Int × Unit => ∃ q : Nat, s ≤ q ∧ q ≤ e ∧ i = (((j + q : Nat) : Int), (num ((t.take q).drop s) : Int), ())) (fun i => (((j + e : Nat) : Int) - i.1).toNat) (fun _ => (Sum.inl (((j + e : Nat) : Int) - 4, false, l ++ [(X : Int)], ()) : (Int × Bool × List Int × Unit) ⊕ (PlT × Unit))) ?_ _ ⟨s, zi _, hs1, by rw [yd zg]; rfl⟩
   rintro i ⟨q, h1, h2, rfl⟩
   rcases zt q e with hq | hq
   ·left
    refine ⟨(((j + (q + 1) : Nat) : Int), (num ((t.take (q + 1)).drop s) : Int), ()), ?_, ⟨q + 1, by omega, by omega, rfl⟩, by simp only; omega, zd⟩
    simp only [av1, aaN, ax2 hd hget h1 hq g3 hs2]
    refine uT sd (uN ⟨by omega, by exact sn⟩ ?_)
    repeat refine za ?_
    rw [aaP, aaA (x := ((j + q : Nat) : Int) + 1) zb]; rfl
   ·right
    have hqe : q = e := zb
    subst hqe
    simp only [av1, hX, zq, hw4]
    refine uF sd (uN zb ?_)
    repeat refine za ?_
    rfl
  | true =>
   obtain rfl := g7 rfl
   simp only [alK]
   refine uT rfl (uT sd (uO (((j + s : Nat) : Int), 0, ()) (by repeat refine za ?_; rw [hs]; rfl) ?_))
   refine aaW (fun i : Int × Int × Unit => ∃ q : Nat, s ≤ q ∧ q ≤ e ∧ i = (((j + q : Nat) : Int), (num ((t.take q).drop s) : Int), ())) (fun i => (((j + e : Nat) : Int) - i.1).toNat) (fun _ => (Sum.inl (((j + e : Nat) : Int) - 4, false, [(X : Int)], ()) : (Int × Bool × List Int × Unit) ⊕ (PlT × Unit))) ?_ _ ⟨s, zi _, hs1, by rw [yd zg]; rfl⟩
   rintro i ⟨q, h1, h2, rfl⟩
   rcases zt q e with hq | hq
   ·left
    refine ⟨(((j + (q + 1) : Nat) : Int), (num ((t.take (q + 1)).drop s) : Int), ()), ?_, ⟨q + 1, by omega, by omega, rfl⟩, by simp only; omega, zd⟩
    simp only [av2, aaN, ax2 hd hget h1 hq g3 hs2]
    refine uT sd (uN ⟨by omega, by exact sn⟩ ?_)
    repeat refine za ?_
    rw [aaP, aaA (x := ((j + q : Nat) : Int) + 1) zb]; rfl
   ·right
    have hqe : q = e := zb
    subst hqe
    simp only [av2, hX, hw4]
    refine uF sd (uN zb ?_)
    repeat refine za ?_
    rfl
theorem au6 {l : List Int} (h : Dg 10000 l) (k : Nat) : V 10000 (l.drop k) = V 10000 l / 10000 ^ k := by
 have h1 := ab7 10000 l k
 have h2 := acY zb h k
 have h3 := aaL zb (ab5 h k)
 rw [h1, wT _ _ (by have := av3 (show (1 : Int) ≤ 10000 by omega) k; omega), xu h3 h2, wK]
theorem aA2 {R b top first P : Int} (hP : 0 < P) (hb0 : 0 < b) (htop : 10000 ≤ top) (hb1 : top * P ≤ b) (hb2 : b < (top + 1) * P) (hf1 : first * P ≤ R) (hf2 : R < (first + 1) * P) (hR0 : 0 ≤ R) (hR : R < b * 10000) (hf0 : 0 ≤ first) :
  (first / (top + 1)) * b ≤ R ∧ R < (first / top + 1) * b ∧ first / top + 1 ≤ 10001 ∧ 0 ≤ first / (top + 1) ∧ first ≤ 100000000000000 * top := by
 have g1 := yc first (top + 1)
 have g2 := xB first (show top + 1 ≠ 0 by omega)
 have g3 := yc first top
 have g4 := xv first (show 0 < top by omega)
 have g7 := xB first (show top ≠ 0 by omega)
 have g5 := xE hf0 (show 0 ≤ top + 1 by omega)
 have g6 := xE hf0 (show 0 ≤ top by omega)
 generalize first / (top + 1) = L at *
 generalize first / top = H at *
 generalize first % (top + 1) = m1 at *
 generalize first % top = m2 at *
 refine ⟨?_, ?_, ?_, g5, ?_⟩
 ·have a1 : L * b ≤ L * ((top + 1) * P) := zv zb g5
  have a2 : L * ((top + 1) * P) = ((top + 1) * L) * P := by grind
  have a3 : ((top + 1) * L) * P ≤ first * P := zD zb zb
  omega
 ·have a1 : (H + 1) * (top * P) ≤ (H + 1) * b := zv hb1 zb
  have a2 : (H + 1) * (top * P) = (top * H + top) * P := by grind
  have a3 : (first + 1) * P ≤ (top * H + top) * P := zD zb zb
  omega
 ·have a1 : first * P < ((top + 1) * 10000) * P := by
   have : b * 10000 < ((top + 1) * P) * 10000 := zb
   have e : ((top + 1) * P) * 10000 = ((top + 1) * 10000) * P := by grind
   omega
  have a2 : first < (top + 1) * 10000 := zW a1 zb
  have a3 : top * H < top * 10001 := zb
  have := yH a3 zb
  omega
 ·have a1 : first * P < ((top + 1) * 10000) * P := by
   have : b * 10000 < ((top + 1) * P) * 10000 := zb
   have e : ((top + 1) * P) * 10000 = ((top + 1) * 10000) * P := by grind
   omega
  have a2 : first < (top + 1) * 10000 := zW a1 zb
  omega
theorem ayD (m o : List Int) (y) (h : ahG (m, o, ()) = some y) : (amW m o).toO = some y := by
 obtain ⟨⟨a, b⟩, hn, hx, rfl⟩ := aaH h
 obtain ⟨rfl, hx2⟩ := Prod.mk.inj hx; obtain ⟨rfl, -⟩ := Prod.mk.inj hx2; dsimp only
 obtain ⟨la, lb, hb0⟩ := hn
 simp only at la lb hb0
 clear h hx hx2
 have hda := ac3 a
 have hdb := ac3 b
 have hVa := agG a
 have hVb := agG b
 have hbl : 1 ≤ (dig b).length := by
  rcases zy (dig b).length with h5 | h5
  ·exact absurd (dig_nil_iff.1 (zS.1 h5)) hb0
  ·exact h5
 unfold amW
 by_cases h1 : (dig b).length = 1
 ·-- one digit
  refine uT sd (uN ⟨by simp [asT], by exact sn⟩ ?_)
  have hb1 : b < 10000 := by have := dig_length_le_iff.1 (xL h1); simpa using this
  have hdb1 : dig b = [(b : Int)] := aHL hb0 hb1
  have hg : gi (dig b) 0 0 = (b : Int) := by rw [hdb1]; rfl
  rw [hg]
  refine uC _ (aIt zb zb hb1) ?_
  have hm := yR a (show 0 < b by omega)
  generalize a % b = r at hm ⊢
  refine uC (dig r, ()) (ae6 (ai4 (show (0 : Int) ≤ (r : Int) by omega) (show (r : Int) < 10000 by omega)) zh (by simp [V])) rfl
 obtain ⟨n, hnl⟩ : ∃ n, (dig b).length = n + 2 := ⟨(dig b).length - 2, by omega⟩
 have w1 : w64 (len (dig b) - 1) = ((n + 1 : Nat) : Int) := by rw [aaI, hnl, aaA zb]; omega
 have w2 : w64 (((n + 1 : Nat) : Int) - 1) = ((n : Nat) : Int) := by rw [aaA zb]; omega
 have bge : 10000 ^ (n + 1) ≤ b := by have := aqD (B := 10000) zb hb0; rw [show (ao3 10000 b).length = n + 2 from hnl] at this; exact this
 refine uF sd ?_
 simp only [w1]
 by_cases h2 : (dig a).length ≤ n + 1
 ·-- the dividend is shorter
  refine uT sd (uN zb ?_)
  have hab : a < b := zM (dig_length_le_iff.1 h2) bge
  rw [aaP, yS hab, yp hab, dig_zero]
  simp
 have hq : ∃ M, (dig a).length = M + (n + 1) ∧ 0 < M := ⟨(dig a).length - (n + 1), by omega, by omega⟩
 obtain ⟨M, hM, hM0⟩ := hq
 have w3 : w64 (len (dig a) - ((n + 1 : Nat) : Int)) = (M : Int) := by rw [aaI, hM, aaA zb]; omega
 refine uF sd ?_
 simp only [w2, w3]
 refine uN sd (uN sd (uN zb (uN sd ?_)))
 simp only [zj]
 have htk : List.take ((dig a).length - M) ((dig a).drop M) = (dig a).drop M := zp zh
 simp only [htk]
 have htk2 : List.take (0 + ((dig a).drop M).length) (List.take 0 ([] : List Int) ++ (dig a).drop M) = (dig a).drop M := by rw [zn, List.take_zero, yV, zq]
 simp only [htk2]
 refine uN zg ?_
 have w4 : w64 ((M : Int) - 1) = (M : Int) - 1 := aaA zb
 refine uO ((M : Int) - 1, (dig a).drop M, List.replicate M 0, ()) ?_ ?_
 ·repeat refine za ?_
  rw [aaP, w4]
 -- the first two digits of the divisor
 have dB1 := aaY zb hdb (n + 1)
 have dB0 := aaY zb hdb n
 have hBtop : 1 ≤ (dig b).getD (n + 1) 0 := by
  have hc := aC4 b
  unfold Cn at hc
  rw [yG, hnl, show n + 2 - 1 = n + 1 by omega, zI zb] at hc
  rw [ahV zb] at *
  rcases zN 0 (dig b)[n + 1] with h | h
  ·exact h
  ·exact absurd (by congr 1; omega) hc
 have htopV : V 10000 ((dig b).drop n) = (dig b).getD (n + 1) 0 * 10000 + (dig b).getD n 0 := by
  have e1 := aaO 10000 (dig b) n
  have e2 := aaO 10000 (dig b) (n + 1)
  have e3 := acS 10000 (l := dig b) (k := n + 1 + 1) zb
  omega
 have htop2 := au6 hdb n
 rw [hVb] at htop2
 have hwtop : w64 (w64 (gi (dig b) ((n + 1 : Nat) : Int) 0 * 10000) + gi (dig b) (n : Int) 0) = (dig b).getD (n + 1) 0 * 10000 + (dig b).getD n 0 := by
  rw [aaN, aaN, aaA (x := (dig b).getD (n + 1) 0 * 10000) zb, aaA zb]
 have hwtop1 : w64 ((dig b).getD (n + 1) 0 * 10000 + (dig b).getD n 0 + 1) = (dig b).getD (n + 1) 0 * 10000 + (dig b).getD n 0 + 1 := aaA zb
 have htop3 : 10000 ≤ (dig b).getD (n + 1) 0 * 10000 + (dig b).getD n 0 ∧ (dig b).getD (n + 1) 0 * 10000 + (dig b).getD n 0 < 100000000 := zb
 rw [← htopV] at htop3
 have hP : (0 : Int) < 10000 ^ n := yB zb
 have hbt1 : V 10000 ((dig b).drop n) * 10000 ^ n ≤ (b : Int) := by
  rw [htop2]; exact Int.ediv_mul_le _ zb
 have hbt2 : (b : Int) < (V 10000 ((dig b).drop n) + 1) * 10000 ^ n := by
  rw [htop2]; exact Int.lt_ediv_add_one_mul_self _ hP
 rw [← htopV] at hwtop hwtop1
 generalize htv : V 10000 ((dig b).drop n) = top at *
 clear htopV htop2 dB1 dB0 hBtop htv
 have hR0 : V 10000 ((dig a).drop M) < (b : Int) := by
  have := aE1 zb (acJ hda M)
  rw [yo, show (dig a).length - M = n + 1 by omega] at this
  have hb2 : ((10000 ^ (n + 1) : Nat) : Int) ≤ (b : Int) := Int.ofNat_le.2 bge
  rw [Int.natCast_pow] at hb2
  exact Int.lt_of_lt_of_le this hb2
 have hcR0 : Cn ((dig a).drop M) := by
  have hc := aC4 a
  unfold Cn at hc ⊢
  rw [List.getLast?_drop, if_neg zb]
  exact hc
 refine aaW (fun i : Int × List Int × List Int × Unit => ∃ (k : Nat) (R : Nat), k ≤ M ∧ i.1 = (k : Int) - 1 ∧ i.2.1 = dig R ∧ R < b ∧ i.2.2.1.length = M ∧ Dg 10000 i.2.2.1 ∧ V 10000 ((dig a).drop k) = V 10000 (i.2.2.1.drop k) * b + R) (fun i => (i.1 + 1).toNat) (fun _ => (dig (a / b), dig (a % b), ())) ?_ _ ?_
 case refine_2 =>
  obtain ⟨R, hR⟩ := zG (aaL zb (acJ hda M))
  refine ⟨M, R, zi _, rfl, awW (acJ hda M) hcR0 hR, by omega, by simp, afX zb _, ?_⟩
  rw [hR, acS _ zh]; simp
 rintro ⟨i, r, q, u⟩ ⟨k, R, g1, g2, g3, g4, g5, g6, g7⟩
 dsimp only at g2 g3 g5 g6 g7
 subst g2 g3
 cases k with
 | zero =>
  right
  simp only [yC, hVa] at g7
  obtain ⟨v, hv⟩ := zG (aaL zb g6)
  rw [hv] at g7
  have h8 : a = v * b + R := by
   have : (a : Int) = ((v * b + R : Nat) : Int) := by simpa using g7
   exact Int.ofNat.inj this
  have h9 : a / b = v := by rw [h8, yD, xZ _ _ zb, yS zb, zn]
  have h10 : a % b = R := by rw [h8, yD, xG, yp zb]
  simp only [akI, w1, w3, zj]
  refine uF sd (uC (dig v, ()) ?_ ?_)
  ·rw [zp zb]
   exact ae6 g6 zb hv
  ·rw [aaP, h9, h10]
 | succ j =>
  left
  have e6 : ((j + 1 : Nat) : Int) - 1 = (j : Int) := zb
  rw [e6]
  have da := aaY zb hda j
  obtain ⟨d, hd⟩ := zG da.1
  have lR : (dig R).length ≤ n + 2 := by rw [← hnl]; exact ab4 zb
  -- the next rest
  obtain ⟨R', hR'⟩ : ∃ R', R' = d + 10000 * R := ⟨_, rfl⟩
  have hR'b : R' < b * 10000 := zb
  have hcut : acL ((dig a).getD j 0 :: dig R, ()) = some (dig R', ()) := by
   rw [hd]
   refine ae6 (axL ⟨by omega, by omega⟩ (ac3 R)) zg ?_
   simp only [V, agG, hR']; simp
  have lR' : (dig R').length ≤ n + 3 := by
   rw [dig_length_le_iff]
   have := dig_length_le_iff.1 (xL hnl)
   rw [show n + 3 = (n + 2) + 1 by omega, yA]
   exact zM hR'b (zJ _ (Nat.le_of_lt this))
  have hdR := ac3 R'
  have hVR := agG R'
  -- its first three digits
  have hf := au6 hdR n
  rw [hVR] at hf
  have hf1 : V 10000 ((dig R').drop n) * 10000 ^ n ≤ (R' : Int) := by rw [hf]; exact Int.ediv_mul_le _ zb
  have hf2 : (R' : Int) < (V 10000 ((dig R').drop n) + 1) * 10000 ^ n := by rw [hf]; exact Int.lt_ediv_add_one_mul_self _ hP
  have hf0 := aaL zb (acJ hdR n)
  obtain ⟨k1, k2, k3, k4, k5⟩ := aA2 hP zb htop3.1 hbt1 hbt2 hf1 hf2 zb zb hf0
  have hfirst : adP (fun i1 => (ad4 (dig a) (dig b) ((j : Int), dig R, q, ()) (dig R', ()) i1).toO) (((n + 2 : Nat) : Int), 0, ()) = adP (fun i1 => (ad4 (dig a) (dig b) ((j : Int), dig R, q, ()) (dig R', ()) i1).toO) ((n : Int) - 1, V 10000 ((dig R').drop n), ()) := by
   have st : ∀ (t : Nat) (v : Int), n ≤ t → t ≤ n + 2 → v = V 10000 ((dig R').drop (t + 1)) → (ad4 (dig a) (dig b) ((j : Int), dig R, q, ()) (dig R', ()) ((t : Int), v, ())).toO = some (.inl ((t : Int) - 1, V 10000 ((dig R').drop t), ())) := by
    intro t v ht1 ht2 hv
    have e1 := aaO 10000 (dig R') t
    have e2 := aaY zb hdR t
    have e3 := aaL zb (acJ hdR (t + 1))
    have e4 : V 10000 ((dig R').drop (t + 1)) < 10000 ^ 2 := by
     have := aE1 zb (acJ hdR (t + 1))
     have h7 : (10000 : Int) ^ ((dig R').drop (t + 1)).length ≤ 10000 ^ 2 := aA4 zb (by rw [yo]; omega)
     omega
    subst hv
    simp only [ad4, w1, w2, aaN]
    refine uT sd ?_
    by_cases ct : t < (dig R').length
    ·refine uT sd (uN sd ?_)
     repeat refine za ?_
     rw [aaP, aaA (x := (t : Int) - 1) zb, aaA (x := V 10000 ((dig R').drop (t + 1)) * 10000) zb, aaA zb, e1, Int.add_comm, yY]
    ·refine uF sd ?_
     repeat refine za ?_
     rw [af8 zb] at e1
     rw [aaP, aaA (x := (t : Int) - 1) zb, aaA zb, e1, wK, yY]
   have s1 := st (n + 2) 0 zb zb (by rw [acS _ zb])
   rw [show (((n + 2 : Nat) : Int)) - 1 = ((n + 1 : Nat) : Int) by omega] at s1
   rw [aeS s1]
   have s2 := st (n + 1) _ zb zb rfl
   rw [show (((n + 1 : Nat) : Int)) - 1 = ((n : Nat) : Int) by omega] at s2
   rw [aeS s2]
   rw [aeS (st n _ zb zb rfl)]
  -- the search
  obtain ⟨Q, hQ⟩ : ∃ Q : Nat, Q = R' / b := ⟨_, rfl⟩
  have hQm := Nat.mod_add_div R' b
  have hQl := yR R' (show 0 < b by omega)
  rw [← hQ] at hQm
  have hQ4 : Q < 10000 := by
   rw [hQ, yL zb, xd]; exact hR'b
  have hRQ : (R' : Int) = (Q : Int) * b + ((R' % b : Nat) : Int) := by
   have : (R' : Int) = ((R' % b + b * Q : Nat) : Int) := by rw [hQm]
   rw [this]; simp; rw [yY]; omega
  have res : adP (fun i1 => (ad4 (dig a) (dig b) ((j : Int), dig R, q, ()) (dig R', ()) i1).toO) (((n + 2 : Nat) : Int), 0, ()) = some (Sum.inl ((j : Int) - 1, dig (R' % b), q.set j (Q : Int), ())) := by
   rw [hfirst]
   refine aeB ?_
   simp only [ad4, w1, w2, hwtop, hwtop1]
   refine uF sd (uN zb (uN zb ?_))
   have hd1 : Int.tdiv (V 10000 ((dig R').drop n)) top = V 10000 ((dig R').drop n) / top := zK hf0
   have hd2 : Int.tdiv (V 10000 ((dig R').drop n)) (top + 1) = V 10000 ((dig R').drop n) / (top + 1) := zK hf0
   simp only [hd1, hd2]
   have hn1 := xE hf0 (show 0 ≤ top by omega)
   have hlow : V 10000 ((dig R').drop n) / (top + 1) ≤ Q := by
    have : V 10000 ((dig R').drop n) / (top + 1) * b < ((Q : Int) + 1) * b := by
     rw [Int.add_mul]; omega
    have := zW this zb
    omega
   have hhigh : (Q : Int) < V 10000 ((dig R').drop n) / top + 1 := by
    have : (Q : Int) * b < (V 10000 ((dig R').drop n) / top + 1) * b := zb
    exact zW this zb
   have wH : w64 (w64 (V 10000 ((dig R').drop n) / top) + 1) = V 10000 ((dig R').drop n) / top + 1 := by
    rw [aaA (x := V 10000 ((dig R').drop n) / top) zb, aaA zb]
   have wL : w64 (V 10000 ((dig R').drop n) / (top + 1)) = V 10000 ((dig R').drop n) / (top + 1) := aaA zb
   simp only [wH, wL]
   generalize V 10000 ((dig R').drop n) / top + 1 = H at *
   generalize V 10000 ((dig R').drop n) / (top + 1) = L at *
   refine uO (H, L, ()) (by repeat refine za ?_; rfl) ?_
   refine aaW (fun i2 : Int × Int × Unit => 0 ≤ i2.2.1 ∧ i2.2.1 ≤ Q ∧ (Q : Int) < i2.1 ∧ i2.1 ≤ 10001) (fun i2 => (i2.1 - i2.2.1).toNat) (fun _ => (.inr (.inl ((j : Int) - 1, dig (R' % b), q.set j (Q : Int), ())) : (Int × Int × Unit) ⊕ ((Int × List Int × List Int × Unit) ⊕ (List Int × List Int × Unit)))) ?_ _ ⟨k4, hlow, hhigh, k3⟩
   rintro ⟨hi, lo, u3⟩ ⟨c1, c2, c3, c4⟩
   dsimp only at c1 c2 c3 c4
   have wd : w64 (hi - lo) = hi - lo := aaA zb
   simp only [ap4, wd]
   by_cases hgap : hi - lo > 1
   ·left
    have wm : w64 (Int.tdiv (w64 (lo + hi)) 2) = (lo + hi) / 2 := by
     rw [aaA (x := lo + hi) zb, zK zb, aaA zb]
    simp only [wm]
    obtain ⟨mm, hmm⟩ := zG (show 0 ≤ (lo + hi) / 2 by omega)
    rw [hmm]
    have hmB : mm ≤ 10000 ∧ 1 ≤ mm := zb
    have hprod : abO (dig b, [(mm : Int)], ()) = some (dig (b * mm), ()) := by
     refine ai1 hdb ?_ zb zh (by rw [hVb]; simp [V])
     by_cases cm : mm = 10000
     ·right; rw [cm]; rfl
     ·left; exact ai4 zb zb
    have lbm : (dig (b * mm)).length ≤ 1000000000000 := by
     have : (dig (b * mm)).length ≤ (dig b).length + 2 := by
      rw [dig_length_le_iff, wP]
      have q1 := dig_length_le_iff.1 (zi (dig b).length)
      exact Nat.mul_lt_mul'' q1 zb
     omega
    have hcutp : acL (dig (b * mm), ()) = some (dig (b * mm), ()) := ae6 (ac3 _) lbm (agG _)
    obtain ⟨o1, o2⟩ := aCy (b * mm) R'
    have hle : aLk (dig (b * mm)) (dig R') ≤ 0 ↔ b * mm ≤ R' := zb
    have hmQ : b * mm ≤ R' ↔ mm ≤ Q := by
     rw [hQ, Nat.le_div_iff_mul_le zb, xd]
    by_cases cm : mm ≤ Q
    ·refine ⟨(hi, (mm : Int), ()), ?_, ⟨by dsimp only; omega, by dsimp only; omega, c3, c4⟩, by dsimp only; omega, zd⟩
     refine uT (zm hgap) (uV ?_)
     refine uC _ hprod (uC _ hcutp (uC _ (an3 _ _ (ac3 _) (ac3 _) lbm zb) (uT (zm (hle.2 (hmQ.2 cm))) ?_)))
     repeat refine za ?_
     rfl
    ·refine ⟨((mm : Int), lo, ()), ?_, ⟨c1, c2, by dsimp only; omega, by dsimp only; omega⟩, by dsimp only; omega, zd⟩
     refine uT (zm hgap) (uV ?_)
     refine uC _ hprod (uC _ hcutp (uC _ (an3 _ _ (ac3 _) (ac3 _) lbm zb) (uF (zl (fun h => cm (hmQ.1 (hle.1 h)))) ?_)))
     repeat refine za ?_
     rfl
   ·right
    have hlQ : lo = Q := zb
    subst hlQ
    refine uF (zl hgap) ?_
    simp only [w1, w3, zj]
    refine uN ⟨by omega, by omega⟩ ?_
    have hprod : abO (dig b, [(Q : Int)], ()) = some (dig (b * Q), ()) := ai1 hdb (Or.inl (ai4 zb zb)) zb zh (by rw [hVb]; simp [V])
    have hdiff : abB (dig R', dig (b * Q), ()) = some (dig (R' % b), ()) := by
     have := ai2 (a := dig R') (b := dig (b * Q)) (n := R' % b) (ac3 _) (ac3 _) zb (ab4 zb) (by rw [agG, agG]; omega) (by rw [agG, agG]; omega)
     exact this
    refine uC _ hprod (uC _ hdiff ?_)
    repeat refine za ?_
    rw [aaP, aaA (x := (j : Int) - 1) zb, zn]
  refine ⟨((j : Int) - 1, dig (R' % b), q.set j (Q : Int), ()), ?_, ⟨j, R' % b, by omega, rfl, rfl, hQl, by simp; omega, ahM g6 ⟨by omega, by omega⟩ _, ?_⟩, by dsimp only; omega, zd⟩
  ·simp only [akI, aaN, w1]
   have htk3 : List.take (1 + (dig R).length) ([(dig a).getD j 0] ++ dig R) = (dig a).getD j 0 :: dig R := by
    rw [zp zg]; rfl
   simp only [htk3]
   have w5 : w64 (((n + 1 : Nat) : Int) + 1) = ((n + 2 : Nat) : Int) := by rw [aaA zb]; omega
   simp only [w5]
   refine uT sd (uN sd (uN zb (uC _ hcut ?_)))
   refine uO (((n + 2 : Nat) : Int), 0, ()) (by repeat refine za ?_; rfl) ?_
   exact res
  ·dsimp only
   rw [aaO 10000 (dig a) j, hd, g7, aaO 10000 (q.set j _) j, akP zb, agB _ zb]
   have : (d : Int) + 10000 * (V 10000 (q.drop (j + 1)) * b + R) = 10000 * (V 10000 (q.drop (j + 1)) * b) + R' := by rw [hR']; simp; grind
   rw [this, hRQ]
   grind
theorem aCo {p q : Rat × Rat} (h : (ra p.1, ra p.2, ()) = (ra q.1, ra q.2, ())) : p = q := by
 obtain ⟨h1, h2⟩ := Prod.mk.inj h
 obtain ⟨h2, -⟩ := Prod.mk.inj h2
 exact Prod.ext (aFM h1) (aFM h2)
theorem aoQ (n d : Int) (hd : d ≠ 0) : ∃ s : Int, s.natAbs = n.natAbs ∧ Rat.divInt n d = mkRat s d.natAbs ∧ s = (if d < 0 then -n else n) := by
 rcases zN d 0 with c | c
 ·refine ⟨-n, by omega, ?_, by rw [if_pos c]⟩
  rw [← Rat.neg_divInt_neg, ← xo]
  congr 1; omega
 ·refine ⟨n, rfl, ?_, by rw [if_neg zb]⟩
  rw [← xo]
  congr 1; omega
theorem aET {k : Nat} {n d : Int} (hd : d ≠ 0) (h1 : Bd k n.natAbs) (h2 : Bd k d.natAbs) : BdQ k (Rat.divInt n d) := by
 obtain ⟨s, e1, e2, -⟩ := aoQ n d hd
 obtain ⟨g, t, hg, g0, e0, f1, f2⟩ := aeR s (d := d.natAbs) zb
 rw [e2]
 refine ⟨?_, ?_⟩
 ·rw [f1, ← acR e0 g0, e1]; exact aaQ _ h1
 ·rw [f2]; exact aaQ _ h2
theorem alA {n d : Int} (h1 : Bd 6 n.natAbs) (h2 : Bd 6 d.natAbs) (h3 : d ≠ 0) : aeV (pl n, pl d, ()) = some (ra (Rat.divInt n d), ()) := aaR (enc := fun x : Int × Int => (pl x.1, pl x.2, ())) (n, d) ⟨h1, h2, h3⟩ (fun b hb => ai8 hb)
theorem aBi {s : Int} {d : Nat} (hd : d ≠ 0) (h1 : Bd 6 s.natAbs) (h2 : Bd 6 d) : ∃ g : Nat, g = Nat.gcd s.natAbs d ∧ g ≠ 0 ∧ Bd 6 g ∧ s / (g : Int) = (mkRat s d).num ∧ (d : Int) / (g : Int) = ((mkRat s d).den : Int) := by
 obtain ⟨g, t, hg, g0, e0, f1, f2⟩ := aeR s hd
 refine ⟨g, hg, g0, by rw [hg]; exact aa0 h1 h2, ?_, ?_⟩
 ·rw [f1, e0, Int.mul_ediv_cancel_left _ zb]
 ·rw [f2]; simp
theorem avY (x x' : PlT) (y) (h : aeV (x, x', ()) = some y) : (akG x x').toO = some y := by
 obtain ⟨⟨n, d⟩, hp, hx, rfl⟩ := aaH h
 obtain ⟨rfl, hx2⟩ := Prod.mk.inj hx; obtain ⟨rfl, -⟩ := Prod.mk.inj hx2; dsimp only
 obtain ⟨l1, l2, l3⟩ := hp
 dsimp only at l1 l2 l3
 obtain ⟨s, e1, e2, e3⟩ := aoQ n d l3
 obtain ⟨g, hg, g0, bg, q1, q2⟩ := aBi (s := s) (d := d.natAbs) zb (by rw [e1]; exact l1) l2
 rw [e2]
 unfold akG
 dsimp only
 have hgcd : Nat.gcd s.natAbs d.natAbs = g := hg.symm
 have g0' : (g : Int) ≠ 0 := zb
 by_cases c : d < 0
 ·rw [if_pos c] at e3
  subst e3
  refine uT (zm c) ?_
  refine uC _ (asN (aaJ l1 zb)) (uC _ (asN (aaJ l2 zb)) ?_)
  have hdv := ai3 (a := -n) (b := -d) (aaV (aaJ l1 zb)) (aaV (aaJ l2 zb))
  rw [Int.natAbs_neg d, hgcd] at hdv
  refine uC _ hdv ?_
  refine uC _ (ajX (b := (g : Int)) (aaV l1) bg g0') ?_
  refine uC _ (ajX (b := (g : Int)) (aaV l2) bg g0') ?_
  rw [q1, show -d = (d.natAbs : Int) by omega, q2]; rfl
 ·rw [if_neg c] at e3
  subst e3
  refine uF (zl c) ?_
  have hdv := ai3 (a := s) (b := d) (aaJ l1 zb) (aaJ l2 zb)
  rw [hgcd] at hdv
  refine uC _ hdv ?_
  refine uC _ (ajX (b := (g : Int)) l1 bg g0') ?_
  refine uC _ (ajX (b := (g : Int)) l2 bg g0') ?_
  rw [q1, show d = (d.natAbs : Int) by omega, yO, q2]; rfl
theorem aCP {n : Int} (h : adQ n) : Bd 0 n.natAbs := aaG (by have := h.1; have := h.2; omega)
theorem aE4 {n d : Int} (h1 : adQ n) (h2 : adQ d) (h3 : d ≠ 0) : ajP (n, d, ()) = some (ra (Rat.divInt n d), ()) := aaR (enc := fun x : Int × Int => (x.1, x.2, ())) (n, d) ⟨h1, h2, h3⟩ (fun b hb => by
 obtain ⟨e1, e2⟩ := Prod.mk.inj hb
 obtain ⟨e2, -⟩ := Prod.mk.inj e2
 exact Prod.ext e1 e2)
theorem ayB (n d : Int) (y) (h : ajP (n, d, ()) = some y) : (at0 n d).toO = some y := by
 obtain ⟨⟨n', d'⟩, hp, hx, rfl⟩ := aaH h
 obtain ⟨rfl, hx2⟩ := Prod.mk.inj hx; obtain ⟨rfl, -⟩ := Prod.mk.inj hx2; dsimp only
 obtain ⟨l1, l2, l3⟩ := hp
 exact uC _ (agW l1) (uC _ (agW l2) (uC _ (alA (aaJ (aCP l1) zb) (aaJ (aCP l2) zb) l3) rfl))
theorem ajW {s : FxT} (h : shF s) : adM (s, ()) = some ((rdF s).isSome, ()) := by unfold adM; rw [if_pos h]
theorem ayA (a : FxT) (y) (h : adM (a, ()) = some y) : (amV a).toO = some y := by
 unfold adM at h
 split at h
 case isFalse => cases h
 case isTrue hl =>
 injection h with h
 subst h
 obtain ⟨s, t, u⟩ := a
 obtain ⟨l1, l2⟩ := hl
 dsimp only at l1 l2 ⊢
 have hs := aKR s t
 unfold amV
 refine uC _ (avA l1) ?_
 cases hn : rdW s with
 | none =>
  rw [hn] at hs
  rw [show rdF (s, t, u) = none from hs]
  exact uT rfl rfl
 | some n =>
  refine uF rfl (uC _ (avA l2) ?_)
  cases hd : rdW t with
  | none =>
   rw [hn, hd] at hs
   rw [show rdF (s, t, u) = none from hs]
   exact uT rfl rfl
  | some d =>
   rw [hn, hd] at hs
   dsimp only at hs
   obtain ⟨f1, rfl⟩ := afP hn
   obtain ⟨f2, rfl⟩ := afP hd
   have b1 := ar9 f1
   have b2 := ar9 f2
   refine uF rfl (uC _ (axJ f1) (uC _ (axJ f2) ?_))
   dsimp only
   by_cases hp : 0 < d
   case neg =>
    rw [dif_neg (fun h => hp h.1)] at hs
    rw [show rdF (dec n, dec d, u) = none from hs]
    by_cases c : d < 0
    ·exact uT (zm c) rfl
    ·have : d = 0 := zb
     subst this
     exact uF rfl (uT (by rw [Int.natAbs_zero, dig_zero]; rfl) rfl)
   refine uF sd (uF ?_ ?_)
   ·rw [beq_eq_false_iff_ne, aaI]
    intro h
    have := dig_nil_iff.1 (zS.1 (show (dig d.natAbs).length = 0 by omega))
    omega
   have hdv := ai3 (a := n) (b := d) (aaJ b1 zb) (aaJ b2 zb)
   refine uC _ hdv (uC _ (aAu (aaJ (aa0 b1 b2) zb)) ?_)
   have h1 : abV 1 = #[49].toList := by rw [ab6 zb]; rfl
   rw [aaP, akZ]
   by_cases hcop : n.natAbs.Coprime d.natAbs
   ·rw [dif_pos ⟨hp, hcop⟩] at hs
    rw [show rdF (dec n, dec d, u) = some _ from hs]
    have : Nat.gcd n.natAbs d.natAbs = 1 := hcop
    rw [this, h1]; rfl
   ·rw [dif_neg (fun h => hcop h.2)] at hs
    rw [show rdF (dec n, dec d, u) = none from hs]
    have : (abV (Nat.gcd n.natAbs d.natAbs) == #[49].toList) = false := by
     rw [beq_eq_false_iff_ne]
     exact fun h => hcop (apE (h.trans h1.symm))
    rw [this]; rfl
theorem axI {q : Rat} (h : aiA q) : ak8 (fx q, ()) = some (ra q, ()) := aaR (enc := fun x : Rat => (fx x, ())) q h (fun b hb => azL (Prod.mk.inj hb).1)
theorem aFQ (a : FxT) (y) (h : ak8 (a, ()) = some y) : (aFP a).toO = some y := by
 obtain ⟨q, hp, hx, rfl⟩ := aaH h
 obtain ⟨rfl, -⟩ := Prod.mk.inj hx
 refine uC _ (axJ hp.1) (uC (pl q.den, ()) ?_ rfl)
 have := axJ hp.2
 rwa [akZ] at this
theorem axH {q : Rat} (h : BdQ 6 q) : ajQ (ra q, ()) = some (wrF q) := aaR (enc := fun x : Rat => (ra x, ())) q h (fun b hb => aFM (Prod.mk.inj hb).1)
theorem aDB (x : RaT) (y) (h : ajQ (x, ()) = some y) : (aCq x).toO = some y := by
 obtain ⟨q, hp, hx, rfl⟩ := aaH h
 obtain ⟨rfl, -⟩ := Prod.mk.inj hx
 refine uC _ (aDc hp.1) (uC _ (aDc (z := (q.den : Int)) hp.2) ?_)
 by_cases c1 : Fit q.num
 ·rw [avH c1]
  by_cases c2 : Fit q.den
  ·rw [amL ⟨c1, c2⟩, avH c2]
   refine uF rfl (uF rfl ?_)
   rw [aaP, akZ]
  ·rw [avJ (fun h => c2 h.2), avI c2]
   exact uF rfl (uT rfl rfl)
 ·rw [avI c1, avJ (fun h => c1 h.1)]
  exact uT rfl rfl
theorem aIr {p q : Rat} (h1 : BdQ 3 p) (h2 : BdQ 3 q) : asJ (ra p, ra q, ()) = some (ra (p + q), ()) := aaR (enc := fun x : Rat × Rat => (ra x.1, ra x.2, ())) (p, q) ⟨h1, h2⟩ (fun b hb => aCo hb)
theorem aL1 (x x' : RaT) (y) (h : asJ (x, x', ()) = some y) : (aFN x x').toO = some y := by
 obtain ⟨⟨p, q⟩, hp, hx, rfl⟩ := aaH h
 obtain ⟨rfl, hx2⟩ := Prod.mk.inj hx; obtain ⟨rfl, -⟩ := Prod.mk.inj hx2; dsimp only
 obtain ⟨⟨p1, p2⟩, q1, q2⟩ := hp
 dsimp only at p1 p2 q1 q2
 have t1 := aaB p1 (aaM q2)
 have t2 := aaB q1 (aaM p2)
 have t3 := aaB (aaM p2) (aaM q2)
 refine uC _ (ahL (aaJ p1 zb) (aaM (aaJ q2 zb))) ?_
 refine uC _ (ahL (aaJ q1 zb) (aaM (aaJ p2 zb))) ?_
 refine uC _ (amK (aaJ t1 zb) (aaJ t2 zb)) ?_
 refine uC _ (ahL (a := (p.den : Int)) (b := (q.den : Int)) (aaM (aaJ p2 zb)) (aaM (aaJ q2 zb))) ?_
 have hd : (p.den : Int) * (q.den : Int) ≠ 0 := by
  have := yW p.den_nz q.den_nz
  rw [← yN]; omega
 refine uC _ (alA (aaJ (aaE t1 t2) zb) (aaJ t3 zb) hd) ?_
 have : Rat.divInt (p.num * q.den + q.num * p.den) ((p.den : Int) * q.den) = p + q := by
  rw [← yN, xo, Rat.add_def']
 rw [this]; rfl
theorem aE3 {p q : Rat} (h1 : BdQ 3 p) (h2 : BdQ 3 q) : ajO (ra p, ra q, ()) = some (ra (p * q), ()) := aaR (enc := fun x : Rat × Rat => (ra x.1, ra x.2, ())) (p, q) ⟨h1, h2⟩ (fun b hb => aCo hb)
theorem ax9 (x x' : RaT) (y) (h : ajO (x, x', ()) = some y) : (atZ x x').toO = some y := by
 obtain ⟨⟨p, q⟩, hp, hx, rfl⟩ := aaH h
 obtain ⟨rfl, hx2⟩ := Prod.mk.inj hx; obtain ⟨rfl, -⟩ := Prod.mk.inj hx2; dsimp only
 obtain ⟨⟨p1, p2⟩, q1, q2⟩ := hp
 dsimp only at p1 p2 q1 q2
 refine uC _ (ahL (aaJ p1 zb) (aaJ q1 zb)) ?_
 refine uC _ (ahL (a := (p.den : Int)) (b := (q.den : Int)) (aaM (aaJ p2 zb)) (aaM (aaJ q2 zb))) ?_
 have hd : (p.den : Int) * (q.den : Int) ≠ 0 := by
  have := yW p.den_nz q.den_nz
  rw [← yN]; omega
 refine uC _ (alA (aaJ (aaB p1 q1) zb) (aaJ (aaB (aaM p2) (aaM q2)) zb) hd) ?_
 have : Rat.divInt (p.num * q.num) ((p.den : Int) * q.den) = p * q := by
  rw [← yN, xo, Rat.mul_def']
 rw [this]; rfl
theorem aFO (n d : Int) (y) (h : asK (n, d, ()) = some y) : (aAR n d).toO = some y := by
 unfold asK akE at h
 split at h
 case isFalse => cases h
 case isTrue hp =>
 obtain ⟨i1, i2⟩ := hp
 dsimp only at i1 i2 h
 unfold ofQ at h
 unfold aAR
 by_cases c : d = 0
 ·rw [if_pos c] at h
  exact uT (by rw [c]; rfl) h
 ·rw [if_neg c] at h
  refine uF (by simpa using c) (uC _ (aE4 i1 i2 c) (uC _ (axH (aET c (aaJ (aCP i1) zb) (aaJ (aCP i2) zb))) h))
theorem aMX (a b : FxT) (y) (h : aDb (a, b, ()) = some y) : (aJe a b).toO = some y := by
 unfold aDb at h
 split at h
 case isFalse => cases h
 case isTrue hp =>
 obtain ⟨s1, s2⟩ := hp
 unfold ag3 aLn at h
 dsimp only at h s1 s2
 refine uC _ (ajW s1) ?_
 cases ha : rdF a with
 | none => simp only [ha] at h; exact uT rfl h
 | some p =>
  refine uF rfl (uC _ (ajW s2) ?_)
  cases hb : rdF b with
  | none => simp only [ha, hb] at h; exact uT rfl h
  | some q =>
   simp only [ha, hb] at h
   refine uF rfl ?_
   have b1 := ag6 ha
   have b2 := ag6 hb
   obtain ⟨f1, rfl⟩ := alJ ha
   obtain ⟨f2, rfl⟩ := alJ hb
   refine uC _ (axI f1) (uC _ (axI f2) ?_)
   exact uC _ (aIr (aeP b1 zb) (aeP b2 zb)) (uC _ (axH (aeP (aIb b1 b2) zb)) h)
theorem aDC (a b : FxT) (y) (h : ajR (a, b, ()) = some y) : (aCr a b).toO = some y := by
 unfold ajR at h
 split at h
 case isFalse => cases h
 case isTrue hp =>
 obtain ⟨s1, s2⟩ := hp
 unfold ae1 aLn at h
 dsimp only at h s1 s2
 refine uC _ (ajW s1) ?_
 cases ha : rdF a with
 | none => simp only [ha] at h; exact uT rfl h
 | some p =>
  refine uF rfl (uC _ (ajW s2) ?_)
  cases hb : rdF b with
  | none => simp only [ha, hb] at h; exact uT rfl h
  | some q =>
   simp only [ha, hb] at h
   refine uF rfl ?_
   have b1 := ag6 ha
   have b2 := ag6 hb
   obtain ⟨f1, rfl⟩ := alJ ha
   obtain ⟨f2, rfl⟩ := alJ hb
   refine uC _ (axI f1) (uC _ (axI f2) ?_)
   exact uC _ (aE3 (aeP b1 zb) (aeP b2 zb)) (uC _ (axH (aeP (aB2 b1 b2) zb)) h)
theorem aKM {q : Rat} (h : aiA q) : shF (fx q) := by
 obtain ⟨h1, h2⟩ := h
 unfold Fit at h1 h2
 refine ⟨?_, ?_⟩
 ·show (dec q.num).length ≤ 1000000000000
  have := al5 q.num
  omega
 ·show (dec (q.den : Int)).length ≤ 1000000000000
  have := al5 (q.den : Int)
  omega
theorem aHo : aiA 0 := by have := aKh (n := 0) ⟨by omega, by omega⟩; rwa [aqQ] at this
theorem aO8 : mkRat 0 1 = (0 : Rat) := by rw [aqQ]; rfl
theorem an8 (u : Rat) : u.num.sign < 0 ↔ u < 0 := by
 have e : u < 0 ↔ u.num < 0 := by rw [← Rat.not_le, ← Rat.num_nonneg]; omega
 rw [e]
 constructor
 ·intro h
  rcases wO u.num 0 with g | g | g
  ·exact g
  ·rw [g] at h; exact absurd h zf
  ·rw [xr g] at h; omega
 ·intro h; rw [xf h]; omega
noncomputable def aOw (off : Int) (y : Rat) : Option Rat := (aOG (y + mkRat off 1000000)).map aN7
structure Tp where
 p : Int
 f : Int
 g : Rat
 m : Rat
 a : List Rat
def afA (n m : Int) (a b : Rat) : Rat := if n + m > 0 then (a * n + b * m) / ((n + m : Int) : Rat) else 0
def Tp.pick (x y : Tp) : Bool := decide (x.p - x.f = 0) || decide (x.g < y.g)
def Tp.join (x y : Tp) : Tp := { p := x.p + y.p, f := x.f + y.f, g := if x.pick y then y.g else x.g, m := afA (x.p - x.f) (y.p - y.f) x.m y.m, a := if x.pick y then y.a else x.a }
structure Tp.Ok (x : Tp) : Prop where
 f0 : 0 ≤ x.f
 fp : x.f ≤ x.p
 g0 : 0 ≤ x.g
 m0 : 0 ≤ x.m
 mg : x.m ≤ x.g
 z : x.f = x.p → x.g = 0 ∧ x.a = []
theorem ak4 {n : Int} (h : n > 0) : (n : Rat) ≠ 0 := by
 have : n ≠ 0 := zb
 exact_mod_cast this
theorem aBf {n : Int} {a b : Rat} (h : n > 0) : (a * n + b * ((0 : Int) : Rat)) / ((n + 0 : Int) : Rat) = a := by
 rw [we]
 have q := ak4 h
 have : (a * n + b * ((0 : Int) : Rat)) = a * n := by
  rw [show ((0 : Int) : Rat) = 0 from rfl, Rat.mul_zero, Rat.add_zero]
 rw [this, wx, Rat.mul_assoc, Rat.mul_inv_cancel _ q, Rat.mul_one]
theorem aBg {n : Int} {a b : Rat} (h : n > 0) : (a * ((0 : Int) : Rat) + b * n) / ((0 + n : Int) : Rat) = b := by
 rw [wK]
 have q := ak4 h
 have : (a * ((0 : Int) : Rat) + b * n) = b * n := by
  rw [show ((0 : Int) : Rat) = 0 from rfl, Rat.mul_zero, Rat.zero_add]
 rw [this, wx, Rat.mul_assoc, Rat.mul_inv_cancel _ q, Rat.mul_one]
theorem aGS {n : Int} {a b : Rat} (h : 0 ≤ n) (ha : n = 0 → a = 0) : afA n 0 a b = a := by
 unfold afA
 by_cases h0 : n = 0
 ·subst h0; rw [if_neg zb, ha rfl]
 ·rw [if_pos zb]; exact aBf zb
theorem aGT {n : Int} {a b : Rat} (h : 0 ≤ n) (hb : n = 0 → b = 0) : afA 0 n a b = b := by
 unfold afA
 by_cases h0 : n = 0
 ·subst h0; rw [if_neg zb, hb rfl]
 ·rw [if_pos zb]; exact aBg zb
theorem aEb (n m k : Int) (a b c : Rat) (h1 : 0 ≤ n) (h2 : 0 ≤ m) (h3 : 0 ≤ k) (hn : n = 0 → a = 0) (hm : m = 0 → b = 0) (hk : k = 0 → c = 0) : afA (n + m) k (afA n m a b) c = afA n (m + k) a (afA m k b c) := by
 by_cases e1 : m = 0
 ·subst e1
  rw [aGS h1 hn, aGT h3 hk, we, wK]
 ·have e2 : n + m > 0 := zb
  have e3 : m + k > 0 := zb
  have e4 : n + m + k > 0 := zb
  have e5 : n + (m + k) = n + m + k := zb
  unfold afA
  rw [e5, if_pos e2, if_pos e3, if_pos e4, if_pos e4]
  rw [Rat.div_mul_cancel (ak4 e2), Rat.div_mul_cancel (ak4 e3), Rat.add_assoc]
theorem Tp.Ok.ok_n {x : Tp} (h : x.Ok) : x.p - x.f = 0 → x.m = 0 := by
 intro h0
 have := (h.z zb).1
 have h1 := h.mg
 rw [this] at h1
 exact Rat.le_antisymm h1 h.m0
theorem ay5 {n m : Int} {a b : Rat} (h1 : 0 ≤ n) (h2 : 0 ≤ m) (ha : 0 ≤ a) (hb : 0 ≤ b) : 0 ≤ afA n m a b := by
 unfold afA
 split
 ·rename_i h
  rw [wx]
  have i1 : (0 : Rat) ≤ n := by exact_mod_cast h1
  have i2 : (0 : Rat) ≤ m := by exact_mod_cast h2
  have i3 : (0 : Rat) ≤ ((n + m : Int) : Rat) := by exact_mod_cast (by omega : 0 ≤ n + m)
  exact wN (Rat.add_nonneg (wN ha i1) (wN hb i2)) (wX (Rat.inv_pos.2 (by exact_mod_cast h)))
 ·exact xi
theorem aJV {n m : Int} {a b g : Rat} (h1 : 0 ≤ n) (h2 : 0 ≤ m) (hg : 0 ≤ g) (ha : a ≤ g) (hb : b ≤ g) : afA n m a b ≤ g := by
 unfold afA
 split
 ·rename_i h
  have i0 := ak4 h
  have i1 : (0 : Rat) ≤ n := by exact_mod_cast h1
  have i2 : (0 : Rat) ≤ m := by exact_mod_cast h2
  have i3 : (0 : Rat) < ((n + m : Int) : Rat) := by exact_mod_cast (by omega : 0 < n + m)
  have e : g = (g * ((n + m : Int) : Rat)) / ((n + m : Int) : Rat) := by rw [wx, Rat.mul_assoc, Rat.mul_inv_cancel _ i0, Rat.mul_one]
  rw [e, wx, wx]
  refine xR ?_ (wX (Rat.inv_pos.2 i3))
  have i4 : g * ((n + m : Int) : Rat) = g * n + g * m := by rw [Rat.intCast_add, Rat.mul_add]
  rw [i4]
  have j1 := xR ha i1
  have j2 := xR hb i2
  grind
 ·exact hg
theorem Tp.join_ok {x y : Tp} (hx : x.Ok) (hy : y.Ok) : (x.join y).Ok := by
 have h1 := hx.f0; have h2 := hx.fp; have h3 := hy.f0; have h4 := hy.fp
 have g1 : x.g ≤ (x.join y).g := by
  show x.g ≤ if x.pick y then y.g else x.g
  split
  ·rename_i h
   simp only [Tp.pick, yn, zH] at h
   rcases h with h | h
   ·rw [(hx.z zb).1]; exact hy.g0
   ·exact wX h
  ·exact xi
 have g2 : y.g ≤ (x.join y).g := by
  show y.g ≤ if x.pick y then y.g else x.g
  split
  ·exact xi
  ·rename_i h
   simp only [Tp.pick, yn, zH, not_or] at h
   exact xg.1 h.2
 refine ⟨?_, ?_, Rat.le_trans hx.g0 g1, ay5 zb zb hx.m0 hy.m0, aJV zb zb (Rat.le_trans hx.g0 g1) (Rat.le_trans hx.mg g1) (Rat.le_trans hy.mg g2), ?_⟩
 ·show 0 ≤ x.f + y.f; omega
 ·show x.f + y.f ≤ x.p + y.p; omega
 ·intro h
  have h' : x.f + y.f = x.p + y.p := h
  have a1 := hx.z zb
  have a2 := hy.z zb
  show (if x.pick y then y.g else x.g) = 0 ∧ (if x.pick y then y.a else x.a) = []
  split
  ·exact a2
  ·exact a1
theorem Tp.join_assoc {x y z : Tp} (hx : x.Ok) (hy : y.Ok) (hz : z.Ok) : (x.join y).join z = x.join (y.join z) := by
 have h1 := hx.f0; have h2 := hx.fp; have h3 := hy.f0; have h4 := hy.fp; have h5 := hz.f0; have h6 := hz.fp
 have em : ((x.join y).join z).m = (x.join (y.join z)).m := by
  show afA ((x.p + y.p) - (x.f + y.f)) (z.p - z.f) (afA (x.p - x.f) (y.p - y.f) x.m y.m) z.m = afA (x.p - x.f) ((y.p + z.p) - (y.f + z.f)) x.m (afA (y.p - y.f) (z.p - z.f) y.m z.m)
  have e1 : (x.p + y.p) - (x.f + y.f) = (x.p - x.f) + (y.p - y.f) := zb
  have e2 : (y.p + z.p) - (y.f + z.f) = (y.p - y.f) + (z.p - z.f) := zb
  rw [e1, e2]
  exact aEb _ _ _ _ _ _ zb zb zb hx.ok_n hy.ok_n hz.ok_n
 have eg : ((x.join y).join z).g = (x.join (y.join z)).g ∧ ((x.join y).join z).a = (x.join (y.join z)).a := by
  have nx := hx.z; have ny := hy.z; have nz := hz.z
  have gx := hx.g0; have gy := hy.g0; have gz := hz.g0
  simp only [Tp.join, Tp.pick, yn, zH]
  by_cases a1 : x.p - x.f = 0
  ·simp only [a1, true_or, if_true]
   by_cases a2 : y.p - y.f = 0
   ·have : x.p + y.p - (x.f + y.f) = 0 := zb
    simp [this, a2]
   ·have : ¬ (x.p + y.p - (x.f + y.f) = 0) := zb
    simp [this, a2]
  ·have b1 : ¬ (x.p + y.p - (x.f + y.f) = 0) := zb
   simp only [a1, b1, false_or]
   by_cases a2 : y.p - y.f = 0
   ·obtain ⟨y1, y2⟩ := ny zb
    have b2 : ¬ (x.g < y.g) := by rw [y1]; exact xg.2 gx
    simp [a2, b2]
   ·simp only [a2, false_or]
    by_cases c1 : x.g < y.g
    ·simp only [c1, if_true]
     by_cases c2 : y.g < z.g
     ·have c3 : x.g < z.g := by grind
      simp [c2, c3]
     ·simp [c2, c1]
    ·simp only [c1, if_false]
     by_cases c2 : y.g < z.g
     ·simp [c2]
     ·have c3 : ¬ x.g < z.g := by grind
      simp [c2, c3, c1]
 obtain ⟨p1, f1, g1, m1, a1⟩ := x
 show ({ p := _, f := _, g := _, m := _, a := _ } : Tp) = { p := _, f := _, g := _, m := _, a := _ }
 have := eg.1
 rw [Tp.mk.injEq]
 refine ⟨?_, ?_, eg.1, em, eg.2⟩
 ·show p1 + y.p + z.p = p1 + (y.p + z.p); omega
 ·show f1 + y.f + z.f = f1 + (y.f + z.f); omega
def Sm (k : Nat) (q : Rat) : Prop := q.num.natAbs < 10 ^ k ∧ q.den < 10 ^ k
theorem Sm.mono {k l : Nat} {q : Rat} (h : Sm k q) (hkl : k ≤ l) : Sm l q :=
 ⟨zM h.1 (zQ zb hkl), zM h.2 (zQ zb hkl)⟩
theorem aFr {k : Nat} {a : Int} {b : Nat} (hb : b ≠ 0) (h1 : a.natAbs < 10 ^ k) (h2 : b < 10 ^ k) : Sm k (mkRat a b) := by
 obtain ⟨g, t, hg, g0, e0, e1, e2⟩ := aeR a hb
 refine ⟨wI ?_ h1, wI ?_ h2⟩
 ·rw [e1, ← acR e0 g0]; exact wC _ _
 ·rw [e2]; exact wC _ _
theorem Sm.fit {k : Nat} {q : Rat} (h : Sm k q) (hk : k ≤ 600) : aiA q := by
 refine ⟨?_, auQ h.2 hk⟩
 have := auQ h.1 hk
 exact arE this zh
theorem afZ {a b k l : Nat} (h1 : a < 10 ^ k) (h2 : b < 10 ^ l) : a * b < 10 ^ (k + l) := by
 rw [wP]
 exact Nat.mul_lt_mul_of_lt_of_le h1 (Nat.le_of_lt h2) (Nat.pow_pos zb)
theorem Sm.mul {k l : Nat} {p q : Rat} (h1 : Sm k p) (h2 : Sm l q) : Sm (k + l) (p * q) := by
 rw [Rat.mul_def']
 exact aFr (yW p.den_nz q.den_nz) (by rw [yk]; exact afZ h1.1 h2.1) (afZ h1.2 h2.2)
theorem Sm.add {k l : Nat} {p q : Rat} (h1 : Sm k p) (h2 : Sm l q) : Sm (k + l + 1) (p + q) := by
 rw [Rat.add_def']
 have e : (10 : Nat) ^ (k + l + 1) = 10 ^ (k + l) * 10 := yA ..
 have a1 : p.num.natAbs * q.den < 10 ^ (k + l) := afZ h1.1 h2.2
 have a2 : q.num.natAbs * p.den < 10 ^ (k + l) := by rw [yD]; exact afZ h2.1 h1.2
 have a3 : p.den * q.den < 10 ^ (k + l) := afZ h1.2 h2.2
 refine aFr (yW p.den_nz q.den_nz) ?_ zb
 have b1 : (p.num * q.den).natAbs = p.num.natAbs * q.den := by rw [yk]; rfl
 have b2 : (q.num * p.den).natAbs = q.num.natAbs * p.den := by rw [yk]; rfl
 have := Int.natAbs_add_le (p.num * q.den) (q.num * p.den)
 omega
theorem axX {n : Int} {k : Nat} (hk : k ≠ 0) (h : n.natAbs < 10 ^ k) : Sm k (n : Rat) :=
 ⟨h, Nat.one_lt_pow hk zb⟩
theorem Sm.divI {k l : Nat} {p : Rat} {n : Int} (h1 : Sm k p) (hn : 0 < n) (h2 : n.natAbs < 10 ^ l) : Sm (k + l) (p / (n : Rat)) := by
 have e : p / (n : Rat) = mkRat p.num (p.den * n.natAbs) := by
  have hd : ((n.natAbs : Nat) : Rat) = (n : Rat) := by
   rw [← Rat.intCast_natCast]; congr 1; omega
  rw [wk, Rat.natCast_mul, hd]
  have e0 : p = (p.num : Rat) / (p.den : Rat) := by rw [← wk]; exact (Rat.mkRat_self p).symm
  conv => lhs; rw [e0]
  have hz : (p.den : Rat) ≠ 0 := by have := p.den_nz; exact_mod_cast this
  have hn0 : (n : Rat) ≠ 0 := ak4 hn
  grind
 rw [e]
 exact aFr (yW p.den_nz zb) (zM h1.1 (zQ zb zb)) (afZ h1.2 h2)
theorem aJU {n m : Int} {a b : Rat} {k l : Nat} (h1 : 0 ≤ n) (h2 : 0 ≤ m) (h3 : n ≤ 1000000) (h4 : m ≤ 1000000) (ha : Sm k a) (hb : Sm l b) : Sm (k + l + 22) (afA n m a b) := by
 unfold afA
 split
 ·rename_i h
  have i1 : Sm 7 (n : Rat) := axX zb (by show _ < 10000000; omega)
  have i2 : Sm 7 (m : Rat) := axX zb (by show _ < 10000000; omega)
  exact (((ha.mul i1).add (hb.mul i2)).divI (l := 7) h (by show _ < 10000000; omega)).mono zb
 ·exact (show Sm 1 (0 : Rat) from ⟨by decide, by decide⟩).mono zb
abbrev NmT := Int × Int × Unit
abbrev DtT := Int × Int × Int × NmT × List NmT × Unit
abbrev TrT := Int × Int × FxT × FxT × List FxT × Unit
def aeO (t : Tp) : TrT := (t.p, t.f, fx t.g, fx t.m, t.a.map (fun q => fx q), ())
noncomputable def aM2 (t : TrT) : Bool := decide (0 ≤ t.1 ∧ t.1 ≤ 1000000 ∧ 0 ≤ t.2.1 ∧ t.2.1 ≤ t.1) && (match rdF t.2.2.1, rdF t.2.2.2.1 with
 | some g, some m => decide (0 ≤ g ∧ 0 ≤ m ∧ m ≤ g) && (if t.2.1 = t.1 then decide (t.2.2.2.2.1 = [] ∧ g = 0) else decide (1 ≤ t.2.2.2.2.1.length ∧ t.2.2.2.2.1.length ≤ 4) && t.2.2.2.2.1.all fun a => (rdF a).isSome)
 | _, _ => false)
structure Gd (k : Nat) (t : Tp) : Prop where
 ok : t.Ok
 p : t.p ≤ 1000000
 g : Sm k t.g
 m : Sm k t.m
 a : ∀ q ∈ t.a, aiA q
 l : t.f ≠ t.p → 1 ≤ t.a.length ∧ t.a.length ≤ 4
def noT : TrT := (0, 0, ([], [], ()), ([], [], ()), [], ())
def shQ (x : NmT) : Rat := mkRat ((x.1.tmod (x.2.1 + 2)).natAbs) (x.2.1 + 1).toNat
def aLt (x : NmT) : Prop := -32768 ≤ x.1 ∧ x.1 ≤ 32767 ∧ 0 ≤ x.2.1 ∧ x.2.1 ≤ 255
def aFe (d : DtT) : Prop := (0 ≤ d.1 ∧ d.1 ≤ 65535) ∧ (0 ≤ d.2.1 ∧ d.2.1 ≤ 65535) ∧ (0 ≤ d.2.2.1 ∧ d.2.2.1 ≤ 65535) ∧ aLt d.2.2.2.1 ∧ ∀ x ∈ d.2.2.2.2.1, aLt x
def arK (d : DtT) : Int := d.2.1.tmod (d.1 + 1)
def atD (d : DtT) : List Rat := if d.2.2.2.2.1 = [] then [0] else (d.2.2.2.2.1.take 4).map shQ
def tpD (d : DtT) : Tp := if arK d = d.1 then { p := d.1, f := d.1, g := 0, m := 0, a := [] }
 else { p := d.1, f := arK d, g := mkRat d.2.2.1 10000, m := mkRat d.2.2.1 10000 * shQ d.2.2.2.1, a := atD d }
def abN (x : FxT × Int × Unit) : Option (FxT × Unit) := if x.2.1 = 0 then some (x.1, ()) else none
def abL (x : Int × Unit) : Option (FxT × Unit) := if adQ x.1 then some (fx (mkRat x.1 1), ()) else none
noncomputable def aeE (x : TrT × Unit) : Option (Int × Unit) := some (if aM2 x.1 then 0 else 410, ())
noncomputable def adY : TrT × TrT × Unit → Option (TrT × Int × Unit) := afO (fun x : Tp × Tp => (aeO x.1, aeO x.2, ())) (fun x => Gd 100 x.1 ∧ Gd 100 x.2)
 (fun x => if x.1.p + x.2.p > 1000000 then (noT, 410, ()) else (aeO (x.1.join x.2), 0, ()))
def ad3 (x : Int × Int × Unit) : Option (FxT × Unit) := if adQ x.1 ∧ 0 < x.2.1 ∧ adQ x.2.1 then some (fx (mkRat x.1 x.2.1.toNat), ()) else none
noncomputable def ad5 (x : NmT × Unit) : Option (FxT × Unit) := open Classical in if aLt x.1 then some (fx (shQ x.1), ()) else none
noncomputable def aeU (x : DtT × Unit) : Option (TrT × Unit) := open Classical in if aFe x.1 then some (aeO (tpD x.1), ()) else none
def ajT (x : Int × Int × Unit) : Option (FxT × Unit) := ad3 x
noncomputable def asI (x : List FxT × List FxT × Unit) : Option (Bool × Unit) := if x.1.length ≤ 1000000000000 then some (eqb x.1 x.2.1, ()) else none
noncomputable def aeH (x : TrT × TrT × Unit) : Option (Bool × Unit) := if x.1.2.2.2.2.1.length ≤ 1000000000000 then some (eqb x.1 x.2.1, ()) else none
noncomputable def adE (x : FxT × FxT × Unit) : Option (Bool × Unit) := match rdF x.1, rdF x.2.1 with
 | some p, some q => some (decide (p ≤ q), ())
 | _, _ => some (false, ())
def aAr (_ : Unit) : Option (Bool × Unit) := some (true, ())
def an1 (_ : DtT × DtT × DtT × Unit) : Option (Bool × Unit) := some (true, ())
open Go Go.Vg Go.Proofs
theorem aDR : (aLB .unit (.pair .bool .unit) aAr).ok Tryz.prog Gt 7 := by
 refine aBU (by kernel_rfl) (fun w ok vs x y hG hok hvs hy => ?_)
 have hy' : y = (true, ()) := (Option.some.inj hy).symm
 subst hy'
 exact Go.Vg.top_at.2 w ok vs x hG.1 hok hvs rfl
theorem aBr (m : List Int) (y) (h : adF (m, ()) = some y) : (aq5 m).toO = some y := by
 simpa [adF, aq5, TT.toO] using h
theorem aq7 (m : List Int) (y) (h : acD (m, ()) = some y) : (aq6 m).toO = some y := by
 unfold acD at h
 split at h
 ·rename_i hp
  obtain ⟨hd, hl⟩ := hp
  simp only at hd hl
  injection h with h
  subst h
  refine uO (m, ()) rfl ?_
  refine aaW (fun i => Dg 1000000000 i.1 ∧ i.1.length ≤ 2000000000000 ∧ V 1000000000 i.1 = V 1000000000 m) (fun i => i.1.length) (fun _ => (mag (V 1000000000 m).toNat, ())) ?_ _ ⟨hd, hl, rfl⟩
  rintro ⟨l, u⟩ ⟨h1, h2, h3⟩
  simp only at h1 h2 h3
  have hfin : Cn l → l = mag (V 1000000000 m).toNat := fun hc => ao9 h1 hc (by rw [h3]; have := aaL zb hd; omega)
  unfold auN
  by_cases hz : l = []
  ·subst hz
   right
   repeat refine za ?_
   rw [← hfin aoZ]; rfl
  ·have hlen : 0 < l.length := zL.2 hz
   have hw : w64 (len l - 1) = ((l.length - 1 : Nat) : Int) := by rw [aaI]; simp (disch := omega) only [aaA]; omega
   have hg : gi l ((l.length - 1 : Nat) : Int) 0 = l[l.length - 1] := aOW rfl zb
   simp only [hw, hg]
   by_cases h0 : l[l.length - 1] = 0
   ·left
    refine ⟨(l.take (l.length - 1), ()), ?_, ⟨ab5 h1 _, ?_, ?_⟩, ?_, trivial⟩
    ·repeat refine za ?_
     rfl
    ·simp; omega
    ·have := ah3 1000000000 (l := l) (i := l.length - 1) zb
     rw [h0, show l.length - 1 + 1 = l.length by omega, zq] at this
     rw [← h3, this]; simp
    ·simp; omega
   ·right
    repeat refine za ?_
    rw [← hfin (by unfold Cn; rw [yG, zI zb]; simpa using h0)]; rfl
 ·cases h
theorem azS (m : List Int) (y) (h : ajV (m, ()) = some y) : (auO m).toO = some y := by
 obtain ⟨n, hn, hx, rfl⟩ := aaH h
 injection hx with hx
 subst hx
 have hl : (mag n).length ≤ 2 := mag_length_le_iff.2 zb
 have hd := af6 n
 have hV := ak7 n
 refine uO (((mag n).length : Int) - 1, 0, ()) ?_ ?_
 ·repeat refine za ?_
  show some (w64 ((mag n).length - 1), (0 : Int), ()) = _
  rw [aaA (x := ((mag n).length : Int) - 1) zb]
 refine aaW (fun i => ∃ k : Nat, k ≤ (mag n).length ∧ i.1 = (k : Int) - 1 ∧ i.2.1 = V 1000000000 ((mag n).drop k)) (fun i => (i.1 + 1).toNat) (fun _ => ((n : Int), ())) ?_ _ ⟨_, zi _, rfl, by simp [V]⟩
 rintro ⟨i, v, u⟩ ⟨k, h1, h2, h3⟩
 simp only at h2 h3
 subst h2 h3
 unfold aq9
 rcases zy k with h0 | h0
 ·subst h0
  right
  repeat refine za ?_
  simp only [yC, hV]
  rfl
 ·left
  obtain ⟨j, rfl⟩ : ∃ j, k = j + 1 := ⟨k - 1, by omega⟩
  have e1 := aaO 1000000000 (mag n) j
  have e2 := aaY zb hd j
  have e3 := aaL zb (acJ hd j)
  have e4 := aaL zb (acJ hd (j + 1))
  have e5 := aIk zb hd j
  have e6 : ((j + 1 : Nat) : Int) - 1 = (j : Int) := zb
  rw [e6]
  refine ⟨((j : Int) - 1, V 1000000000 ((mag n).drop j), ()), ?_, ⟨j, by omega, rfl, rfl⟩, by simp only; omega, rfl⟩
  repeat refine za ?_
  simp only [aaN]
  rw [aaA (x := (j : Int) - 1) zb, aaK (x := V 1000000000 ((mag n).drop (j + 1)) * 1000000000) zb, aaK (x := (mag n).getD j 0) zb, aaK zb, e1, aaP]
  rw [Int.add_comm, yY]
theorem atB (m o : List Int) (y) (h : adG (m, o, ()) = some y) : (aiQ m o).toO = some y := by
 obtain ⟨⟨a, b⟩, hn, hx, rfl⟩ := aaH h
 obtain ⟨rfl, hx2⟩ := Prod.mk.inj hx
 obtain ⟨rfl, -⟩ := Prod.mk.inj hx2
 dsimp only
 obtain ⟨l1, l2⟩ := hn
 simp only at l1 l2
 unfold aiQ
 have hda := af6 a
 have hdb := af6 b
 have hVa := ak7 a
 have hVb := ak7 b
 rcases Nat.lt_trichotomy (mag a).length (mag b).length with hl | hl | hl
 ·have := akA hl
  repeat refine za ?_
  simp only [aaP, atG]
  rw [if_pos (show (a : Int) < b by omega)]
 ·refine uF sd ?_
  refine uO (((mag a).length : Int) - 1, ()) ?_ ?_
  ·repeat refine za ?_
   show some (w64 ((mag a).length - 1), ()) = _
   rw [aaA (x := ((mag a).length : Int) - 1) zb]
  refine aaW (fun i => ∃ k : Nat, k ≤ (mag a).length ∧ i.1 = (k : Int) - 1 ∧ V 1000000000 ((mag a).drop k) = V 1000000000 ((mag b).drop k)) (fun i => (i.1 + 1).toNat) (fun _ => (atG a b, ())) ?_ _ ⟨_, zi _, rfl, by rw [acS _ (zi _), acS _ zb]⟩
  rintro ⟨i, u⟩ ⟨k, h1, h2, h3⟩
  simp only at h2 h3
  subst h2
  unfold alZ
  rcases zy k with h0 | h0
  ·subst h0
   right
   repeat refine za ?_
   simp only [yC, hVa, hVb] at h3
   simp only [aaP, atG]
   rw [if_neg zb, if_pos h3]
  ·obtain ⟨j, rfl⟩ : ∃ j, k = j + 1 := ⟨k - 1, by omega⟩
   have e6 : ((j + 1 : Nat) : Int) - 1 = (j : Int) := zb
   simp only [e6, aaN]
   have a1 := ab7 1000000000 (mag a) j
   have b1 := ab7 1000000000 (mag b) j
   have a2 := aaO 1000000000 (mag a) j
   have b2 := aaO 1000000000 (mag b) j
   have a3 := acY zb hda j
   have b3 := acY zb hdb j
   have a4 := aaL zb (ab5 hda j)
   have b4 := aaL zb (ab5 hdb j)
   have hp : (1 : Int) ≤ 1000000000 ^ j := av3 zb j
   rcases wO ((mag a).getD j 0) ((mag b).getD j 0) with hc | hc | hc
   ·right
    repeat refine za ?_
    have h5 : (1000000000 : Int) ^ j * (V 1000000000 ((mag a).drop j) + 1) ≤ 1000000000 ^ j * V 1000000000 ((mag b).drop j) := zv zb zb
    rw [xS] at h5
    simp only [aaP, atG]
    rw [if_pos (show (a : Int) < b by omega)]
   ·left
    refine ⟨((j : Int) - 1, ()), ?_, ⟨j, by omega, rfl, by omega⟩, by simp only; omega, trivial⟩
    repeat refine za ?_
    rw [aaA (x := (j : Int) - 1) zb]; rfl
   ·right
    repeat refine za ?_
    have h5 : (1000000000 : Int) ^ j * (V 1000000000 ((mag b).drop j) + 1) ≤ 1000000000 ^ j * V 1000000000 ((mag a).drop j) := zv zb zb
    rw [xS] at h5
    simp only [aaP, atG]
    rw [if_neg (show ¬ (a : Int) < b by omega), if_neg (show ¬ (a : Int) = b by omega)]
 ·have := akA hl
  repeat refine za ?_
  simp only [aaP, atG]
  rw [if_neg (show ¬ (a : Int) < b by omega), if_neg (show ¬ (a : Int) = b by omega)]
theorem aj6 (m o : List Int) (a b : Nat) (la : (mag a).length ≤ 1000000000000) (hl : (mag b).length ≤ (mag a).length) : (anI m o (mag a, mag b, ())).toO = some (mag (a + b), ()) := by
 have hda := af6 a
 have hdb := af6 b
 have hVa := ak7 a
 have hVb := ak7 b
 unfold anI
 dsimp only
 refine uN ?_ ?_
 ·(try simp only [aaI, inb, inc, ge_iff_le, gt_iff_lt, zj, asT, ne_eq])
  simp (disch := omega) only [aaA, aaK, aaX, abZ, aaN, zn, zj, aaI]
  omega
 refine uO (0, 0, [], ()) rfl ?_
 refine aaW (fun i => ∃ k : Nat, k ≤ (mag a).length ∧ i.1 = (k : Int) ∧ 0 ≤ i.2.1 ∧ i.2.1 ≤ 1 ∧ i.2.2.1.length = k ∧ Dg 1000000000 i.2.2.1 ∧ V 1000000000 i.2.2.1 + 1000000000 ^ k * i.2.1 = V 1000000000 ((mag a).take k) + V 1000000000 ((mag b).take k)) (fun i => (((mag a).length : Int) - i.1).toNat) (fun _ => (mag (a + b), ())) ?_ _ ⟨0, zR _, rfl, by simp, by simp, rfl, aoX _, by simp [V]⟩
 rintro ⟨i, c, s, u⟩ ⟨k, h1, h2, h3, h4, h5, h6, h7⟩
 simp only at h2 h3 h4 h5 h6 h7
 subst h2
 simp only [auP, aaN]
 have ea := aa4 1000000000 (mag a) k
 have eb := aa4 1000000000 (mag b) k
 have da := aaY zb hda k
 have db := aaY zb hdb k
 rcases zt k (mag a).length with hk | hk
 ·left
  have key : ∀ x c' : Int, 0 ≤ x ∧ x < 1000000000 → x + 1000000000 * c' = (mag a).getD k 0 + (mag b).getD k 0 + c → V 1000000000 (s ++ [x]) + 1000000000 ^ (k + 1) * c' = V 1000000000 ((mag a).take (k + 1)) + V 1000000000 ((mag b).take (k + 1)) := by
   intro x c' _ hx
   rw [adL, atK, h5, ea, eb, yi]
   have : (1000000000 : Int) ^ k * (x + 1000000000 * c') = 1000000000 ^ k * ((mag a).getD k 0 + (mag b).getD k 0 + c) := by rw [hx]
   grind
  have fin : ∀ x c' : Int, 0 ≤ x ∧ x < 1000000000 → 0 ≤ c' ∧ c' ≤ 1 → x + 1000000000 * c' = (mag a).getD k 0 + (mag b).getD k 0 + c → (∃ k_1 : Nat, k_1 ≤ (mag a).length ∧ ((k + 1 : Nat) : Int) = (k_1 : Int) ∧ 0 ≤ c' ∧ c' ≤ 1 ∧ (s ++ [x]).length = k_1 ∧ Dg 1000000000 (s ++ [x]) ∧ V 1000000000 (s ++ [x]) + 1000000000 ^ k_1 * c' = V 1000000000 ((mag a).take k_1) + V 1000000000 ((mag b).take k_1)) ∧ (((mag a).length : Int) - ((k + 1 : Nat) : Int)).toNat < (((mag a).length : Int) - (k : Int)).toNat :=
   fun x c' hx hc he => ⟨⟨k + 1, by omega, rfl, hc.1, hc.2, by simp; omega, ad1 h6 (ai4 hx.1 hx.2), key x c' hx he⟩, by omega⟩
  rcases zt k (mag b).length with hkb | hkb
  ·rcases zN ((mag a).getD k 0 + c + (mag b).getD k 0) 1000000000 with hc | hc
   ·obtain ⟨g1, g2⟩ := fin ((mag a).getD k 0 + c + (mag b).getD k 0) 0 zb zb zb
    refine ⟨(((k + 1 : Nat) : Int), 0, s ++ [(mag a).getD k 0 + c + (mag b).getD k 0], ()), ?_, g1, g2, trivial⟩
    repeat refine za ?_
    simp (disch := omega) only [aaP, aaA, aaK, aaX, abZ, aaN, zn, zj, aaI, zq]
    rfl
   ·obtain ⟨g1, g2⟩ := fin ((mag a).getD k 0 + c + (mag b).getD k 0 - 1000000000) 1 zb zb zb
    refine ⟨(((k + 1 : Nat) : Int), 1, s ++ [(mag a).getD k 0 + c + (mag b).getD k 0 - 1000000000], ()), ?_, g1, g2, trivial⟩
    repeat refine za ?_
    simp (disch := omega) only [aaP, aaA, aaK, aaX, abZ, aaN, zn, zj, aaI, zq]
    rfl
  ·have hz : (mag b).getD k 0 = 0 := af8 hkb 0
   rcases zN ((mag a).getD k 0 + c) 1000000000 with hc | hc
   ·obtain ⟨g1, g2⟩ := fin ((mag a).getD k 0 + c) 0 zb zb zb
    refine ⟨(((k + 1 : Nat) : Int), 0, s ++ [(mag a).getD k 0 + c], ()), ?_, g1, g2, trivial⟩
    repeat refine za ?_
    simp (disch := omega) only [aaP, aaA, aaK, aaX, abZ, aaN, zn, zj, aaI, zq]
    rfl
   ·obtain ⟨g1, g2⟩ := fin ((mag a).getD k 0 + c - 1000000000) 1 zb zb zb
    refine ⟨(((k + 1 : Nat) : Int), 1, s ++ [(mag a).getD k 0 + c - 1000000000], ()), ?_, g1, g2, trivial⟩
    repeat refine za ?_
    simp (disch := omega) only [aaP, aaA, aaK, aaX, abZ, aaN, zn, zj, aaI, zq]
    rfl
 ·right
  have hkk : k = (mag a).length := zb
  rw [hkk, abF _ (zi _), abF _ hl, hVa, hVb] at h7
  rcases zN 0 c with hc | hc
  ·have hc1 : c = 1 := zb
   subst hc1
   repeat refine za ?_
   simp (disch := omega) only [aaP, aaA, aaK, aaX, abZ, aaN, zn, zj, aaI, zq]
   rw [zp zh]
   rw [ao9 (l := s ++ [1]) (n := a + b) (ad1 h6 (ai4 zb zb)) (by simp [Cn]) (by rw [adL, atK, h5, hkk]; omega)]
  ·have hc1 : c = 0 := zb
   subst hc1
   repeat refine za ?_
   simp (disch := omega) only [aaP, aaA, aaK, aaX, abZ, aaN, zn, zj, aaI, zq]
   rw [ao9 (l := s) (n := a + b) h6 (aKG zb h6 ?_) zb]
   rcases zy a with ha | ha
   ·left
    subst ha
    rw [mag_zero] at hkk
    exact zS.1 (by rw [h5, hkk]; rfl)
   ·right
    have := aqD (B := 1000000000) zb (n := a) zb
    have h8 : (1000000000 : Int) ^ ((mag a).length - 1) ≤ a := by
     have : ((1000000000 ^ ((mag a).length - 1) : Nat) : Int) ≤ (a : Int) := Int.ofNat_le.2 this
     simpa using this
    rw [h5, hkk]
    omega
theorem aBt (m o : List Int) (y) (h : amF (m, o, ()) = some y) : (arA m o).toO = some y := by
 obtain ⟨⟨a, b⟩, hn, hx, rfl⟩ := aaH h
 obtain ⟨rfl, hx2⟩ := Prod.mk.inj hx; obtain ⟨rfl, -⟩ := Prod.mk.inj hx2; dsimp only
 obtain ⟨l1, l2⟩ := hn
 simp only at l1 l2
 unfold arA
 rcases zt (mag a).length (mag b).length with hl | hl
 ·refine uL (mag b, mag a, ()) ?_ ?_
  ·repeat refine za ?_
   rfl
  ·rw [yD]
   exact aj6 _ _ b a l2 zb
 ·refine uL (mag a, mag b, ()) ?_ ?_
  ·repeat refine za ?_
   rfl
  ·exact aj6 _ _ a b l1 hl
end Go.Vs
