/-
  Trees of what the functions compute, and their laws. Own work; no condition.
-/
import Derived.Test.YtakjojajnblpoaaGreatDoorClL5
import Derived.Test.YtakjojajnblpoaaGreatDoorProg
set_option linter.unusedVariables false
set_option linter.unusedSimpArgs false
namespace Go.Vs
open Go Go.Vg
theorem aFR (b : BdT) (y) (h : aeZ (b, ()) = some y) : (auM b).toO = some y := by
 injection h with h
 subst h
 obtain ⟨lo, hi, u⟩ := b
 unfold auM
 dsimp only
 by_cases h1 : lo ≥ -1000000000000000000
 ·refine uT (zo h1) ?_
  by_cases h2 : lo ≤ hi
  ·refine uT (zo h2) ?_
   rw [aaI]
   congr 2
   exact decide_eq_decide.2 ⟨fun h => ⟨h1, h2, h⟩, fun h => h.2.2⟩
  ·refine uF (zn h2) ?_
   rw [aaI, zn (fun h : okB lo hi => h2 h.2.1)]
 ·refine uF (zn h1) ?_
  rw [aaI, zn (fun h : okB lo hi => h1 h.1)]
theorem alR (b : BdT) : aeZ (b, ()) = some (decide (okB b.1 b.2.1), ()) := rfl
theorem aFS (b : BdT) (y) (h : av2 (b, ()) = some y) : (aCc b).toO = some y := by
 injection h with h
 subst h
 refine uC _ (alR _) ?_
 by_cases c : okB b.1 b.2.1
 ·rw [if_pos c]; exact uF (by rw [zo c]; rfl) rfl
 ·rw [if_neg c]; exact uT (by rw [zn c]; rfl) rfl
theorem af3 {n : Int} (h : aa3 n) : abL (n, ()) = some (ra (mkRat n 1000000000000), ()) := by unfold abL; rw [if_pos h]
theorem aFP (n : Int) (y) (h : abL (n, ()) = some y) : (aCa n).toO = some y := by
 unfold abL at h
 split at h
 case isFalse => cases h
 case isTrue hp =>
 injection h with h
 subst h
 refine uC _ (av7 hp ⟨by omega, by omega⟩ zc) ?_
 have : Rat.divInt n 1000000000000 = mkRat n 1000000000000 := xl n 1000000000000
 rw [this]; rfl
theorem aRr {k : Nat} {n : Int} {d : Nat} (hd : d ≠ 0) (h1 : Bd k n.natAbs) (h2 : Bd k d) : BdQ k (mkRat n d) := by
 obtain ⟨g, t, hg, g0, e0, f1, f2⟩ := aeH n hd
 refine ⟨?_, ?_⟩
 ·rw [f1, ← acT e0 g0]; exact aaS _ h1
 ·rw [f2]; exact aaS _ h2
theorem ajR {n : Int} (h : aa3 n) : BdQ 0 (mkRat n 1000000000000) := aRr zc (aGV h) (aaH zc)
theorem as4 : BdQ 0 adJ := ⟨aaH zf, aaH zf⟩
theorem aDj {p q : Rat} (h1 : BdQ 3 p) (h2 : BdQ 3 q) : alB (ra p, ra q, ()) = some (aeV p q) := aaE (enc := fun x : Rat × Rat => (ra x.1, ra x.2, ())) (p, q) ⟨h1, h2⟩ (fun b hb => ao6 hb)
theorem aFQ (x x' : RaT) (y) (h : alB (x, x', ()) = some y) : (aCb x x').toO = some y := by
 obtain ⟨⟨p, q⟩, hp, hx, rfl⟩ := aaC h
 obtain ⟨rfl, hx2⟩ := Prod.mk.inj hx; obtain ⟨rfl, -⟩ := Prod.mk.inj hx2; dsimp only
 obtain ⟨h1, h2⟩ := hp
 dsimp only at h1 h2
 have hq : Rat.divInt 1000000000000 1 = adJ := by
  have : Rat.divInt 1000000000000 ((1 : Nat) : Int) = adJ := by rw [xl, acJ]; rfl
  exact this
 have b1 := avT h1 (aa8 as4 (show 0 ≤ 3 by omega))
 have b2 := avT h2 (aa8 as4 (show 0 ≤ 3 by omega))
 have f1 : Bd 6 (fl (p * adJ)).natAbs := aaF (aVL b1.1) zc
 have f2 : Bd 6 (fl (-(q * adJ))).natAbs := aaF (aVL (aEZ b2).1) zc
 have hquick := av7 (n := 1000000000000) (d := 1) ⟨by omega, by omega⟩ ⟨by omega, by omega⟩ zc
 rw [hq] at hquick
 refine uC _ hquick ?_
 refine uC _ (av6 h1 (aa8 as4 zc)) (uC _ (aHS (aa8 b1 zc)) (uC _ (at1 f1) ?_))
 refine uC _ (av6 h2 (aa8 as4 zc)) (uC _ (aHQ (aa8 b2 zc)) (uC _ (aHS (aa8 (aEZ b2) zc)) (uC _ (at1 f2) ?_)))
 unfold aeV mkB
 generalize fl (p * adJ) = lo at *
 generalize fl (-(q * adJ)) = hi at *
 by_cases c1 : aa3 lo
 case neg =>
  rw [if_neg c1, if_neg (fun h : okB lo (-hi) => c1 (by unfold okB at h; unfold aa3; omega))]
  exact uT rfl rfl
 rw [if_pos c1]
 refine uF rfl ?_
 by_cases c2 : aa3 hi
 case neg =>
  rw [if_neg c2, if_neg (fun h : okB lo (-hi) => c2 (by unfold okB at h; unfold aa3; omega))]
  exact uT rfl rfl
 rw [if_pos c2]
 refine uF rfl ?_
 dsimp only
 by_cases c3 : hi = -9223372036854775808
 ·rw [if_neg (fun h : okB lo (-hi) => by unfold okB at h; omega)]
  exact uT (by rw [c3]; rfl) rfl
 refine uF (by simpa using c3) ?_
 have hw : w64 (0 - hi) = -hi := by unfold aa3 at c2; rw [aaA zc]; omega
 rw [hw]
 refine uC _ (alR _) ?_
 by_cases c4 : okB lo (-hi)
 ·rw [if_pos c4]; exact uF (by rw [zo c4]; rfl) rfl
 ·rw [if_neg c4]; exact uT (by rw [zn c4]; rfl) rfl
theorem aDU (a : FxT) (y) (h : ai1 (a, ()) = some y) : (ay2 a).toO = some y := by
 unfold ai1 at h
 split at h
 case isFalse => cases h
 case isTrue hs =>
 unfold ad2 at h
 dsimp only at h hs
 refine uC _ (acG hs) ?_
 cases ha : rdF a with
 | none => simp only [ha] at h; exact uT rfl h
 | some q =>
  simp only [ha] at h
  obtain ⟨f1, rfl⟩ := acW ha
  exact uF rfl (uC _ (aeT f1) (uC _ (aDj (aoC f1) (aoC f1)) h))
theorem an1 (n : Int) : mkRat n 1000000000000 * adJ = (n : Rat) := asD n zc
theorem aiK : (0 : Rat) < adJ := by unfold adJ; decide
theorem aD9 (p q : Rat) : axD p q ≤ 0 ↔ p ≤ q := by
 have := ao8 p q
 constructor
 ·intro h; exact vP.1 (fun h2 => by have := this.2 h2; omega)
 ·intro h
  rcases zQ 0 (axD p q) with h2 | h2
  ·exact absurd h (wy.2 (this.1 h2))
  ·exact h2
theorem aqJ (n : Int) (q : Rat) : mkRat n 1000000000000 ≤ q ↔ (n : Rat) ≤ q * adJ := by
 rw [← an1 n]
 constructor
 ·intro h; exact xj h (vT aiK)
 ·intro h; exact wX h aiK
theorem aJn (n : Int) (q : Rat) : q ≤ mkRat n 1000000000000 ↔ q * adJ ≤ (n : Rat) := by
 rw [← an1 n]
 constructor
 ·intro h; exact xj h (vT aiK)
 ·intro h; exact wX h aiK
theorem aTW (n : Int) : fl (n : Rat) = n := by unfold fl; rw [Rat.num_intCast, Rat.den_intCast]; simp
theorem aMb (a b : BdT) (y) (h : aE7 (a, b, ()) = some y) : (aKG a b).toO = some y := by
 injection h with h
 subst h
 unfold aKh
 dsimp only
 refine uC _ (alR _) ?_
 by_cases c : okB a.1 a.2.1
 case neg => rw [if_neg (fun h => c h.1)]; exact uT (by rw [zn c]; rfl) rfl
 refine uF (by rw [zo c]; rfl) (uC _ (alR _) ?_)
 by_cases d : okB b.1 b.2.1
 case neg => rw [if_neg (fun h => d h.2)]; exact uT (by rw [zn d]; rfl) rfl
 refine uF (by rw [zo d]; rfl) ?_
 rw [if_pos ⟨c, d⟩]
 obtain ⟨c1, c2, c3⟩ := c
 obtain ⟨d1, d2, d3⟩ := d
 have i1 : aa3 a.1 := ⟨by omega, by omega⟩
 have i2 : aa3 b.1 := ⟨by omega, by omega⟩
 have i3 : aa3 a.2.1 := ⟨by omega, by omega⟩
 have i4 : aa3 b.2.1 := ⟨by omega, by omega⟩
 have b1 := aAP (ajR i1) (ajR i2)
 have b2 := aAP (ajR i3) (ajR i4)
 refine uC _ (af3 i1) (uC _ (af3 i2) (uC _ (atV (aa8 (ajR i1) zc) (aa8 (ajR i2) zc)) ?_))
 refine uC _ (af3 i3) (uC _ (af3 i4) (uC _ (atV (aa8 (ajR i3) zc) (aa8 (ajR i4) zc)) ?_))
 refine uC _ (aDj (aa8 b1 zc) (aa8 b2 zc)) ?_
 have e : ∀ m n : Int, (mkRat m 1000000000000 + mkRat n 1000000000000) * adJ = ((m + n : Int) : Rat) := by
  intro m n
  rw [Rat.add_mul, an1, an1, xK]
 unfold aeV
 rw [e, e, aTW, ← xL, aTW, Int.neg_neg]
 rfl
theorem aDL {a b : Rat} (h0 : 0 ≤ a) (h : a ≤ b) : ∀ n : Nat, a ^ n ≤ b ^ n
 | 0 => by rw [wE, wE]; exact Rat.le_refl
 | n + 1 => by
  rw [xU, xU]
  have h1 := xj (aDL h0 h n) h0
  have h2 : (0 : Rat) ≤ b ^ n := Rat.pow_nonneg (Rat.le_trans h0 h)
  have h3 := Rat.mul_le_mul_of_nonneg_left h h2
  exact Rat.le_trans h1 h3
theorem ahH (n : Nat) : 0 ≤ abM n := by
 unfold abM
 have := (aqJ 0 (mkRat n 1000000000000)).2 (by rw [an1]; exact xR.2 zc)
 rwa [Rat.zero_mkRat] at this
theorem aR5 {m n : Nat} (h : m < n) : abM m < abM n := by
 unfold abM
 have : (mkRat (m : Int) 1000000000000) * adJ < (mkRat (n : Int) 1000000000000) * adJ := by
  rw [an1, an1]; exact Rat.intCast_lt_intCast.2 zc
 exact Rat.lt_of_mul_lt_mul_right this (vT aiK)
theorem aDA {m n : Nat} (h : m ≤ n) : abM m ≤ abM n := by
 rcases zr m n with h2 | h2
 ·exact vT (aR5 h2)
 ·have : m = n := zc
  subst this; exact Rat.le_refl
theorem aT0 {x : Rat} {q n : Nat} (hq : 1 ≤ q) (h1 : n ≤ 1000000000000000001) (h2 : abM n ^ q ≤ x) (h3 : n = 1000000000000000001 ∨ x < abM (n + 1) ^ q) : dnQ x q = n := by
 have hex : ∃ n : Nat, n ≤ 1000000000000000001 ∧ abM n ^ q ≤ x ∧ (n = 1000000000000000001 ∨ x < abM (n + 1) ^ q) := ⟨n, h1, h2, h3⟩
 unfold dnQ
 rw [dif_pos hex]
 obtain ⟨g1, g2, g3⟩ := hex.choose_spec
 generalize hex.choose = m at *
 rcases Nat.lt_trichotomy m n with c | c | c
 ·exfalso
  rcases g3 with g3 | g3
  ·omega
  ·have := aDL (ahH _) (aDA (show m + 1 ≤ n from c)) q
   grind
 ·exact c
 ·exfalso
  rcases h3 with h3 | h3
  ·omega
  ·have := aDL (ahH _) (aDA (show n + 1 ≤ m from c)) q
   grind
theorem afP {n : Nat} (h : n ≤ 1000000000000000002) {p : Nat} (hp : p ≤ 40) : BdQ 0 (abM n ^ p) := by
 have hn : aa3 (n : Int) := ⟨by omega, by omega⟩
 obtain ⟨g, t, hg, g0, e0, f1, f2⟩ := aeH (n : Int) (d := 1000000000000) zc
 have a1 : (abM n).num.natAbs ≤ n := by
  unfold abM; rw [f1, ← acT e0 g0, zK]; exact yS _ _
 have a2 : (abM n).den ≤ 1000000000000 := by unfold abM; rw [f2]; exact yS _ _
 have key : ∀ m : Nat, m ≤ 1000000000000000002 → Bd 0 (m ^ p) := by
  intro m hm
  have h1 := aj9 m p
  have h2 : (mag m).length ≤ 3 := mag_length_le_iff.2 zc
  have h3 : p * (mag m).length ≤ 40 * 3 := Nat.mul_le_mul hp h2
  unfold Bd; omega
 exact ⟨by rw [Rat.num_pow, vw]; exact key _ zc, by rw [Rat.den_pow]; exact key _ zc⟩
theorem aHP {x : Rat} {q : Nat} (h0 : 0 ≤ x) (h1 : 1 ≤ q) (h2 : q ≤ 12) (h3 : BdQ 3 x) : aoN (ra x, (q : Int), ()) = some ((dnQ x q : Int), ()) := by
 refine aaE (enc := fun x : Rat × Nat => (ra x.1, (x.2 : Int), ())) (x, q) ⟨h0, h1, h2, h3⟩ (fun b hb => ?_)
 obtain ⟨e1, e2⟩ := Prod.mk.inj hb
 obtain ⟨e2, -⟩ := Prod.mk.inj e2
 exact Prod.ext (awF e1) (Int.ofNat.inj e2)
theorem aIF (x : RaT) (k : Int) (y) (h : aoN (x, k, ()) = some y) : (aFN x k).toO = some y := by
 obtain ⟨⟨x, q⟩, hp, hx, rfl⟩ := aaC h
 obtain ⟨rfl, hx2⟩ := Prod.mk.inj hx; obtain ⟨rfl, -⟩ := Prod.mk.inj hx2; dsimp only
 obtain ⟨x0, q1, q2, bx⟩ := hp
 dsimp only at x0 q1 q2 bx
 refine uO (1000000000000000002, 0, ()) rfl ?_
 have hz : abM 0 ^ q ≤ x := by
  have : abM 0 = 0 := by unfold abM; simp
  rw [this]
  obtain ⟨j, rfl⟩ : ∃ j, q = j + 1 := ⟨q - 1, by omega⟩
  rw [xU, Rat.mul_zero]; exact x0
 refine aaK (fun i : Int × Int × Unit => ∃ lo hi : Nat, i = ((hi : Int), (lo : Int), ()) ∧ lo < hi ∧ hi ≤ 1000000000000000002 ∧ abM lo ^ q ≤ x ∧ (hi = 1000000000000000002 ∨ x < abM hi ^ q)) (fun i => (i.1 - i.2.1).toNat) (fun _ => ((dnQ x q : Int), ())) ?_ _ ⟨0, 1000000000000000002, rfl, by omega, zq _, hz, Or.inl rfl⟩
 rintro i ⟨lo, hi, rfl, g1, g2, g3, g4⟩
 have wd : w64 ((hi : Int) - lo) = (hi : Int) - lo := aaA zc
 simp only [aB9, wd]
 by_cases hg : (hi : Int) - lo > 1
 ·left
  have wm : w64 (Int.tdiv (w64 ((lo : Int) + hi)) 2) = (((lo + hi) / 2 : Nat) : Int) := by
   rw [aaA (x := (lo : Int) + hi) zc, zL zc, aaA zc]; omega
  simp only [wm]
  generalize hm : (lo + hi) / 2 = m
  have hm1 : lo < m ∧ m < hi := zc
  have hv : abL ((m : Int), ()) = some (ra (abM m), ()) := af3 ⟨by omega, by omega⟩
  have bm := afP (n := m) zc (p := 1) zc
  rw [show abM m ^ 1 = abM m by rw [xU, wE, Rat.one_mul]] at bm
  have hr := am0 (q := abM m) (n := q) (aa8 bm zc) zc
  have ho := aiE (p := abM m ^ q) (q := x) (aa8 (afP zc zc) zc) bx
  by_cases c : abM m ^ q ≤ x
  ·refine ⟨((hi : Int), (m : Int), ()), ?_, ⟨m, hi, rfl, hm1.2, g2, c, g4⟩, by dsimp only; omega, ze⟩
   refine uT (zo hg) (uV (uC _ hv (uC _ hr (uC _ ho (uT (zo ((aD9 _ _).2 c)) ?_)))))
   repeat refine za ?_
   rfl
  ·refine ⟨((m : Int), (lo : Int), ()), ?_, ⟨lo, m, rfl, hm1.1, by omega, g3, Or.inr (wy.1 c)⟩, by dsimp only; omega, ze⟩
   refine uT (zo hg) (uV (uC _ hv (uC _ hr (uC _ ho (uF (zn (fun h => c ((aD9 _ _).1 h))) ?_)))))
   repeat refine za ?_
   rfl
 ·right
  have hh : hi = lo + 1 := zc
  subst hh
  rw [aT0 q1 zc g3 (by rcases g4 with h | h; exact Or.inl zc; exact Or.inr h)]
  exact uF (zn hg) rfl
theorem aKD (a b : Rat) : ∀ n : Nat, (a * b) ^ n = a ^ n * b ^ n
 | 0 => by rw [wE, wE, wE, Rat.mul_one]
 | n + 1 => by rw [xU, xU, xU, aKD a b n]; grind
theorem aKp (n q : Nat) : abM n ^ q * adJ ^ q = ((n ^ q : Nat) : Rat) := by
 rw [← aKD]
 unfold abM
 rw [an1]
 rw [Rat.natCast_pow]; rfl
theorem aGk (p : Nat) : adJ ^ p = ((10 ^ (12 * p) : Nat) : Rat) := by
 unfold adJ
 rw [← Rat.natCast_pow, xG]
theorem ayC (n q m p : Nat) : abM n ^ q ≤ abM m ^ p ↔ n ^ q * 10 ^ (12 * p) ≤ m ^ p * 10 ^ (12 * q) := by
 have hT : (0 : Rat) < adJ ^ q * adJ ^ p := Rat.mul_pos (Rat.pow_pos aiK) (Rat.pow_pos aiK)
 have e1 : abM n ^ q * (adJ ^ q * adJ ^ p) = ((n ^ q * 10 ^ (12 * p) : Nat) : Rat) := by
  rw [← Rat.mul_assoc, aKp, aGk p, ← Rat.natCast_mul]
 have e2 : abM m ^ p * (adJ ^ q * adJ ^ p) = ((m ^ p * 10 ^ (12 * q) : Nat) : Rat) := by
  rw [Rat.mul_comm (adJ ^ q), ← Rat.mul_assoc, aKp, aGk q, ← Rat.natCast_mul]
 constructor
 ·intro h
  have := xj h (vT hT)
  rw [e1, e2] at this
  exact Rat.natCast_le_natCast.1 this
 ·intro h
  refine wX ?_ hT
  rw [e1, e2]
  exact Rat.natCast_le_natCast.2 h
theorem aqI (n q m p : Nat) : abM n ^ q < abM m ^ p ↔ n ^ q * 10 ^ (12 * p) < m ^ p * 10 ^ (12 * q) := by
 rw [← wy, ayC, Nat.not_le]
theorem aHi {p q : Nat} (n : Nat) (hq : 1 ≤ q) : arA p q n ^ q * 10 ^ (12 * p) ≤ n ^ p * 10 ^ (12 * q) ∧ n ^ p * 10 ^ (12 * q) < (arA p q n + 1) ^ q * 10 ^ (12 * p) := by
 obtain ⟨s1, s2⟩ := akW (n ^ p * 10 ^ (12 * q) / 10 ^ (12 * p)) hq
 unfold arA
 rw [wg (xg zc)] at s1
 rw [yE (xg zc)] at s2
 exact ⟨s1, s2⟩
theorem aQ1 {p q : Nat} (m : Nat) (hq : 1 ≤ q) : dnQ (abM m ^ p) q = min (arA p q m) 1000000000000000001 := by
 obtain ⟨s1, s2⟩ := aHi (p := p) m hq
 refine aT0 hq (Nat.min_le_right _ _) ?_ ?_
 ·have h1 : abM (arA p q m) ^ q ≤ abM m ^ p := (ayC _ _ _ _).2 s1
  exact Rat.le_trans (aDL (ahH _) (aDA (Nat.min_le_left _ _)) q) h1
 ·rcases zr 1000000000000000001 (arA p q m) with c | c
  ·left; exact Nat.min_eq_right zc
  ·right
   rw [yy c]
   exact (aqI _ _ _ _).2 s2
theorem aU8 {x : Rat} {q : Nat} (h0 : 0 ≤ x) (h1 : 1 ≤ q) (h2 : q ≤ 12) (h3 : BdQ 3 x) : aE6 (ra x, (q : Int), ()) = some ((upQ x q : Int), ()) := by
 refine aaE (enc := fun x : Rat × Nat => (ra x.1, (x.2 : Int), ())) (x, q) ⟨h0, h1, h2, h3⟩ (fun b hb => ?_)
 obtain ⟨e1, e2⟩ := Prod.mk.inj hb
 obtain ⟨e2, -⟩ := Prod.mk.inj e2
 exact Prod.ext (awF e1) (Int.ofNat.inj e2)
theorem aVH (x : Rat) (q : Nat) : dnQ x q ≤ 1000000000000000001 := by
 unfold dnQ
 split
 ·rename_i h; exact h.choose_spec.1
 ·omega
theorem aO7 (x : RaT) (k : Int) (y) (h : aE6 (x, k, ()) = some y) : (aO6 x k).toO = some y := by
 obtain ⟨⟨x, q⟩, hp, hx, rfl⟩ := aaC h
 obtain ⟨rfl, hx2⟩ := Prod.mk.inj hx; obtain ⟨rfl, -⟩ := Prod.mk.inj hx2; dsimp only
 obtain ⟨x0, q1, q2, bx⟩ := hp
 dsimp only at x0 q1 q2 bx
 have hm := aVH x q
 refine uC _ (aHP x0 q1 q2 bx) ?_
 have hv : abL ((dnQ x q : Int), ()) = some (ra (abM (dnQ x q)), ()) := af3 ⟨by omega, by omega⟩
 have bm := afP (n := dnQ x q) zc (p := 1) zc
 rw [show abM (dnQ x q) ^ 1 = abM (dnQ x q) by rw [xU, wE, Rat.one_mul]] at bm
 have hr := am0 (q := abM (dnQ x q)) (n := q) (aa8 bm zc) zc
 have ho := aiE (p := abM (dnQ x q) ^ q) (q := x) (aa8 (afP zc zc) zc) bx
 refine uC _ hv (uC _ hr (uC _ ho ?_))
 unfold upQ
 by_cases c : abM (dnQ x q) ^ q < x
 ·rw [if_pos c]
  refine uT (zo ((ajF _ _).2 c)) ?_
  rw [aaI, aaA zk]; rfl
 ·rw [if_neg c]
  exact uF (zn (fun h => c ((ajF _ _).1 h))) rfl
theorem aFM (p q : Int) (y) (h : av0 (p, q, ()) = some y) : (auK p q).toO = some y := by
 injection h with h
 subst h
 unfold auK
 by_cases h1 : p ≥ 1
 ·refine uT (zo h1) ?_
  by_cases h2 : p ≤ 36
  ·refine uT (zo h2) ?_
   by_cases h3 : q ≥ 1
   ·refine uT (zo h3) ?_
    rw [aaI]
    congr 2
    exact decide_eq_decide.2 ⟨fun h => ⟨h1, h2, h3, h⟩, fun h => h.2.2.2⟩
   ·refine uF (zn h3) ?_
    rw [aaI, zn (fun h : okE p q => h3 h.2.2.1)]
  ·refine uF (zn h2) ?_
   rw [aaI, zn (fun h : okE p q => h2 h.2.1)]
 ·refine uF (zn h1) ?_
  rw [aaI, zn (fun h : okE p q => h1 h.1)]
theorem aIE (lo hi : Int) (y) (h : atD (lo, hi, ()) = some y) : (ay1 lo hi).toO = some y := by
 unfold atD mkB at h
 dsimp only at h
 unfold ay1
 refine uC (decide (okB lo hi), ()) rfl ?_
 by_cases h1 : okB lo hi
 ·rw [if_pos h1] at h
  exact uF (by rw [zo h1]; rfl) h
 ·rw [if_neg h1] at h
  exact uT (by rw [zn h1]; rfl) h
theorem apN (p q n : Nat) (u : Bool) : (at6 p q n u).2.1 ≠ 0 ↔ arA p q n > 1000000000000000000 := by
 unfold at6
 split
 ·rename_i h; exact ⟨fun _ => h, fun _ => by dsimp only; omega⟩
 ·rename_i h; exact ⟨fun h2 => absurd rfl h2, fun h2 => absurd h2 h⟩
theorem aVf {p q : Nat} (m : Nat) (hq : 1 ≤ q) (h : arA p q m ≤ 1000000000000000000) : (upQ (abM m ^ p) q : Int) = (at6 p q m true).1 := by
 obtain ⟨s1, s2⟩ := aHi (p := p) m hq
 have hd := aQ1 (p := p) m hq
 rw [yy zc] at hd
 unfold upQ at6
 rw [hd, if_neg (show ¬ arA p q m > 1000000000000000000 by omega)]
 by_cases c : arA p q m ^ q * 10 ^ (12 * p) = m ^ p * 10 ^ (12 * q)
 ·rw [if_neg (fun h => by have := (aqI _ _ _ _).1 h; omega)]
  rw [if_neg (fun h => h.2 c)]
  simp
 ·rw [if_pos ((aqI _ _ _ _).2 zc), if_pos ⟨rfl, c⟩]
  simp
theorem aFO (b : BdT) (p q : Int) (y) (h : av1 (b, p, q, ()) = some y) : (auL b p q).toO = some y := by
 injection h with h
 subst h
 unfold aH2
 dsimp only
 unfold auL
 refine uC _ (alR _) ?_
 by_cases c : okB b.1 b.2.1
 case neg => rw [if_neg c]; exact uT (by rw [zn c]; rfl) rfl
 rw [if_pos c]
 refine uF (by rw [zo c]; rfl) (uC (decide (okE p q), ()) rfl ?_)
 by_cases c2 : okE p q
 case neg =>
  rw [if_neg (fun h => c2 h.1)]
  exact uT (by rw [zn c2]; rfl) rfl
 refine uF (by rw [zo c2]; rfl) ?_
 by_cases c3 : b.1 < 0
 ·rw [if_neg (fun h => by have := h.2; omega)]
  exact uT (zo c3) rfl
 rw [if_pos ⟨c2, by omega⟩]
 refine uF (zn c3) ?_
 obtain ⟨k1, k2, k3⟩ := c
 obtain ⟨P, rfl⟩ := zu (show 0 ≤ p by have := c2.1; omega)
 obtain ⟨Q, rfl⟩ := zu (show 0 ≤ q by have := c2.2.2.1; omega)
 obtain ⟨p1, p2, q1, q2⟩ := c2
 obtain ⟨lo, hlo⟩ := zu (show 0 ≤ b.1 by omega)
 obtain ⟨hi, hhi⟩ := zu (show 0 ≤ b.2.1 by omega)
 rw [hlo, hhi]
 simp only [zp]
 have vl : abL ((lo : Int), ()) = some (ra (abM lo), ()) := af3 ⟨by omega, by omega⟩
 have vh : abL ((hi : Int), ()) = some (ra (abM hi), ()) := af3 ⟨by omega, by omega⟩
 have b1 : ∀ n : Nat, n ≤ 1000000000000000000 → BdQ 0 (abM n) := fun n hn => by
  have := afP (n := n) zc (p := 1) zc
  rwa [show abM n ^ 1 = abM n by rw [xU, wE, Rat.one_mul]] at this
 have x1 : 0 ≤ abM lo ^ P := Rat.pow_nonneg (ahH _)
 have x2 : 0 ≤ abM hi ^ P := Rat.pow_nonneg (ahH _)
 refine uC _ vl (uC _ (am0 (aa8 (b1 lo zc) zc) zc) ?_)
 refine uC _ (aHP (q := Q) x1 zc zc (aa8 (afP zc zc) zc)) ?_
 refine uC _ vh (uC _ (am0 (aa8 (b1 hi zc) zc) zc) ?_)
 refine uC _ (aU8 (q := Q) x2 zc zc (aa8 (afP zc zc) zc)) ?_
 refine uC (mkB 6 (dnQ (abM lo ^ P) Q) (upQ (abM hi ^ P) Q)) rfl ?_
 rw [aaI]
 have hd1 := aQ1 (p := P) (q := Q) lo zc
 have hd2 := aQ1 (p := P) (q := Q) hi zc
 have hup : (dnQ (abM hi ^ P) Q) ≤ upQ (abM hi ^ P) Q := by unfold upQ; split <;> omega
 have bad : ∀ l u : Int, u > 1000000000000000000 ∨ l > 1000000000000000000 → mkB 6 l u = ((0, 0, ()), 6, ()) := fun l u hb => by
  unfold mkB; rw [if_neg (fun h : okB l u => by unfold okB at h; omega)]
 by_cases d1 : arA P Q lo > 1000000000000000000
 ·rw [if_pos ((apN _ _ _ _).2 d1), bad _ _ (Or.inr (by rw [hd1]; omega))]
 rw [if_neg (fun h => d1 ((apN _ _ _ _).1 h))]
 by_cases d2 : arA P Q hi > 1000000000000000000
 ·rw [if_pos ((apN _ _ _ _).2 d2), bad _ _ (Or.inl zc)]
 rw [if_neg (fun h => d2 ((apN _ _ _ _).1 h))]
 have el : (dnQ (abM lo ^ P) Q : Int) = (at6 P Q lo false).1 := by
  rw [hd1]
  unfold at6
  rw [if_neg d1]
  simp
  omega
 rw [el, aVf hi zc zc]
set_option maxRecDepth 100000
open Go Go.Vg Go.Proofs
noncomputable section
def aJz : LTab := [(177, 8186, 49153, ⟨0, (Int) × (List Int) × (List Int) × Unit, .dat (.s 12) uq <| .row 41 uy <| .row 26 uy <| .nil, [4, 11, 10, 9, 8, 5], [41, 26], 0⟩), (209, 63, 95232, ⟨1, (Int) × Unit, .dat (.s 8) uX <| .nil, [5, 4, 0, 1], [41, 26], 0⟩), (209, 252, 95232, ⟨2, (Int) × (Int) × Unit, .dat (.s 9) uX <| .dat (.s 8) uX <| .nil, [6, 5, 4, 0, 1], [41, 26], 0⟩), (209, 2042, 100352, ⟨3, (Int) × (Int) × (Int) × (List Int) × Unit, .dat (.s 77) uq <| .dat (.s 11) uq <| .dat (.s 10) uX <| .row 26 uy <| .nil, [76, 75, 8, 5, 4, 0, 1], [41, 26], 0⟩), (209, 65454, 118784, ⟨4, (Int) × (Int) × (List Int) × Unit, .dat (.s 125) uq <| .dat (.s 15) uy <| .row 26 uy <| .nil, [124, 123, 8, 5, 4, 0], [41, 26], 0⟩)]
def aiT (i1 : (Int) × (Int) × Unit) (y3 : List Int × Unit) (i : Int × List Int × List Int × Unit) : TT (uQ ⊕ (uY ⊕ uE)) :=
 .ite (decide (abZ (i1.1 + abZ (gi y3.1 (w64 (len y3.1 - 1)) 0)) ≥ 1000000000))
 (.tt <| .lt (abZ (i1.2.1 - 1) : Int) fun z5 => .vW (uh z5 (len y3.1) (0 : Int) <| (ub 26 (0 + Int.toNat i.1) (Int.toNat (w64 (w64 (i.1 + len y3.1) + 1)) - Int.toNat i.1) true) ∧ uf y3.1) <| .vW (vV (ua 189 i.2.1) <| vV (ua 189 i.2.2.1) True) <| .ok (.inr (.inl ((z5, ())))))
 (.tt <| .lt (abZ (i1.1 + abZ (gi y3.1 (w64 (len y3.1 - 1)) 0)) : Int) fun z6 => .lt (abZ (i1.2.1 - 1) : Int) fun z7 => .vW (uc z7 z6 (abZ (gi y3.1 (w64 (len y3.1 - 1)) 0) : Int) (len y3.1) (0 : Int) <| (ub 26 (0 + Int.toNat i.1) (Int.toNat (w64 (w64 (i.1 + len y3.1) + 1)) - Int.toNat i.1) true) ∧ uf y3.1) <| .vW (vV (ua 189 i.2.1) <| vV (ua 189 i.2.2.1) True) <| .ok (.inl ((z6, z7, ()))))
def ahP (m : List Int) (o : List Int) (y : Int × Unit) (y3 : List Int × Unit) (y4 : List Int × Unit) (i : Int × List Int × List Int × Unit) (i1 : (Int) × (Int) × Unit) : TT (uQ ⊕ (uY ⊕ uE)) :=
 .ite (decide (i1.2.1 ≥ 1000000000))
 (aiT i1 y3 i)
 (.need (inb (w64 (len y3.1 - 2)) (len y3.1)) <| .need (inb (w64 (len y3.1 - 2)) (↑(Int.toNat (w64 (w64 (i.1 + len y3.1) + 1)) - Int.toNat i.1) : Int)) <| .ite (decide (abZ (i1.2.1 * abZ (gi y3.1 (w64 (len y3.1 - 2)) 0)) > abZ (abZ (i1.1 * 1000000000) + abZ (List.getD i.2.2.1 (0 + Int.toNat i.1 + Int.toNat (w64 (len y3.1 - 2))) 0))))
  (aiT i1 y3 i)
  (.tt <| .lt (i1.2.1 : Int) fun z11 => .vW (uh z11 (len y3.1) (0 : Int) <| (ub 26 (0 + Int.toNat i.1) (Int.toNat (w64 (w64 (i.1 + len y3.1) + 1)) - Int.toNat i.1) true) ∧ uf y3.1) <| .vW (vV (ua 189 i.2.1) <| vV (ua 189 i.2.2.1) True) <| .ok (.inr (.inl ((z11, ()))))))
def ajK (m : List Int) (o : List Int) (y : Int × Unit) (y3 : List Int × Unit) (y4 : List Int × Unit) (i : Int × List Int × List Int × Unit) (j : Int × Unit) (i2 : Int × Int × Int × List Int × Unit) (i3 : (Int) × (Int) × (List Int) × Unit) : TT (uZ ⊕ sm) :=
 .ite (decide (i3.1 < len y3.1))
 (.need (inb i3.1 (len y3.1)) <| .need (inb i3.1 (↑(Int.toNat (w64 (w64 (i.1 + len y3.1) + 1)) - Int.toNat i.1) : Int)) <| .ite (decide (aeU (aeU (List.getD i3.2.2.1 (0 + Int.toNat i.1 + Int.toNat i3.1) 0 + gi y3.1 i3.1 0) + i3.2.1) ≥ 1000000000))
 (.need (inb i3.1 (↑(Int.toNat (w64 (w64 (i.1 + len y3.1) + 1)) - Int.toNat i.1) : Int)) <| .tt <| .lt (w64 (i3.1 + 1) : Int) fun z20 => .lt (List.set i3.2.2.1 (0 + Int.toNat i.1 + Int.toNat i3.1) (aeU (aeU (aeU (List.getD i3.2.2.1 (0 + Int.toNat i.1 + Int.toNat i3.1) 0 + gi y3.1 i3.1 0) + i3.2.1) - 1000000000)) : List Int) fun z21 => .vW (uj (1 : Int) z20 (len y3.1) y3.1 (abZ (j.1 - 1)) (len y3.1) (0 : Int) <| (ub 26 (0 + Int.toNat i.1) (Int.toNat (w64 (w64 (i.1 + len y3.1) + 1)) - Int.toNat i.1) true) ∧ True) <| .vW (vV (ua 189 i.2.1) <| vV (ua 189 z21) True) <| .ok (.inl ((z20, 1, z21, ()))))
 (.need (inb i3.1 (↑(Int.toNat (w64 (w64 (i.1 + len y3.1) + 1)) - Int.toNat i.1) : Int)) <| .tt <| .lt (w64 (i3.1 + 1) : Int) fun z22 => .lt (List.set i3.2.2.1 (0 + Int.toNat i.1 + Int.toNat i3.1) (aeU (aeU (List.getD i3.2.2.1 (0 + Int.toNat i.1 + Int.toNat i3.1) 0 + gi y3.1 i3.1 0) + i3.2.1)) : List Int) fun z23 => .vW (uj (0 : Int) z22 (len y3.1) y3.1 (abZ (j.1 - 1)) (len y3.1) (0 : Int) <| (ub 26 (0 + Int.toNat i.1) (Int.toNat (w64 (w64 (i.1 + len y3.1) + 1)) - Int.toNat i.1) true) ∧ True) <| .vW (vV (ua 189 i.2.1) <| vV (ua 189 z23) True) <| .ok (.inl ((z22, 0, z23, ())))))
 (.need (inb (len y3.1) (↑(Int.toNat (w64 (w64 (i.1 + len y3.1) + 1)) - Int.toNat i.1) : Int)) <| .need (inb i.1 (↑(Int.toNat (w64 (w64 (len m - len y3.1) + 1))) : Int)) <| .tt <| .lt (w64 (i.1 - 1) : Int) fun z24 => .lt (List.set i.2.1 (0 + Int.toNat i.1) (aeU (abZ (j.1 - 1))) : List Int) fun z25 => .lt (List.set i3.2.2.1 (0 + Int.toNat i.1 + Int.toNat (len y3.1)) 0 : List Int) fun z26 => .vW (vX z24 <| (ub 41 0 (Int.toNat (w64 (w64 (len m - len y3.1) + 1))) true) ∧ (vX (len y3.1) <| (ub 26 0 (Int.toNat (w64 (len m + 1))) true) ∧ (ud y3.1 (aeU (Int.tdiv 1000000000 (aeU (gi o (w64 (len o - 1)) 0 + 1))) : Int) <| True ∧ True))) <| .vW (vV (ua 189 z25) <| vV (ua 189 z26) True) <| .ok (.inr (.inr (.inl ((z24, z25, z26, ()))))))
def ahO (m : List Int) (o : List Int) (y : Int × Unit) (y3 : List Int × Unit) (y4 : List Int × Unit) (i : Int × List Int × List Int × Unit) (j : Int × Unit) (i2 : (Int) × (Int) × (Int) × (List Int) × Unit) : TT sm :=
 .ite (decide (i2.1 < len y3.1))
 (.need (inb i2.1 (len y3.1)) <| .need (inb i2.1 (↑(Int.toNat (w64 (w64 (i.1 + len y3.1) + 1)) - Int.toNat i.1) : Int)) <| .triv (asT Int 1000000000 ≠ 0) zf <| .triv (asT Int 1000000000 ≠ 0) zf <| .ite (decide (w64 (w64 (w64 (List.getD i2.2.2.2.1 (0 + Int.toNat i.1 + Int.toNat i2.1) 0) - i2.2.1) - w64 (Int.tmod (abZ (i2.2.2.1 + abZ (j.1 * abZ (gi y3.1 i2.1 0)))) 1000000000)) < 0))
 (.need (inb i2.1 (↑(Int.toNat (w64 (w64 (i.1 + len y3.1) + 1)) - Int.toNat i.1) : Int)) <| .tt <| .lt (w64 (i2.1 + 1) : Int) fun z13 => .lt (abZ (Int.tdiv (abZ (i2.2.2.1 + abZ (j.1 * abZ (gi y3.1 i2.1 0)))) 1000000000) : Int) fun z14 => .lt (List.set i2.2.2.2.1 (0 + Int.toNat i.1 + Int.toNat i2.1) (aeU (w64 (w64 (w64 (w64 (List.getD i2.2.2.2.1 (0 + Int.toNat i.1 + Int.toNat i2.1) 0) - i2.2.1) - w64 (Int.tmod (abZ (i2.2.2.1 + abZ (j.1 * abZ (gi y3.1 i2.1 0)))) 1000000000)) + 1000000000))) : List Int) fun z15 => .vW (ug z14 (1 : Int) z13 (len y3.1) y3.1 j.1 (len y3.1) (0 : Int) <| (ub 26 (0 + Int.toNat i.1) (Int.toNat (w64 (w64 (i.1 + len y3.1) + 1)) - Int.toNat i.1) true) ∧ uf y3.1) <| .vW (vV (ua 189 i.2.1) <| vV (ua 189 z15) True) <| .ok (.inl ((z13, 1, z14, z15, ()))))
 (.need (inb i2.1 (↑(Int.toNat (w64 (w64 (i.1 + len y3.1) + 1)) - Int.toNat i.1) : Int)) <| .tt <| .lt (w64 (i2.1 + 1) : Int) fun z16 => .lt (abZ (Int.tdiv (abZ (i2.2.2.1 + abZ (j.1 * abZ (gi y3.1 i2.1 0)))) 1000000000) : Int) fun z17 => .lt (List.set i2.2.2.2.1 (0 + Int.toNat i.1 + Int.toNat i2.1) (aeU (w64 (w64 (w64 (List.getD i2.2.2.2.1 (0 + Int.toNat i.1 + Int.toNat i2.1) 0) - i2.2.1) - w64 (Int.tmod (abZ (i2.2.2.1 + abZ (j.1 * abZ (gi y3.1 i2.1 0)))) 1000000000)))) : List Int) fun z18 => .vW (ug z17 (0 : Int) z16 (len y3.1) y3.1 j.1 (len y3.1) (0 : Int) <| (ub 26 (0 + Int.toNat i.1) (Int.toNat (w64 (w64 (i.1 + len y3.1) + 1)) - Int.toNat i.1) true) ∧ uf y3.1) <| .vW (vV (ua 189 i.2.1) <| vV (ua 189 z18) True) <| .ok (.inl ((z16, 0, z17, z18, ())))))
 (.need (inb (len y3.1) (↑(Int.toNat (w64 (w64 (i.1 + len y3.1) + 1)) - Int.toNat i.1) : Int)) <| .ite (decide (w64 (w64 (List.getD i2.2.2.2.1 (0 + Int.toNat i.1 + Int.toNat (len y3.1)) 0) - i2.2.1) < w64 i2.2.2.1))
 (.loop 4 (.tt <| .lt (i2.2.2.2.1 : List Int) fun z19 => .vW (uj (0 : Int) (0 : Int) (len y3.1) y3.1 (abZ (j.1 - 1)) (len y3.1) (0 : Int) <| (ub 26 (0 + Int.toNat i.1) (Int.toNat (w64 (w64 (i.1 + len y3.1) + 1)) - Int.toNat i.1) true) ∧ True) <| .vW (vV (ua 189 i.2.1) <| vV (ua 189 z19) True) <| .ok ((0, 0, z19, ()))) (ajK m o y y3 y4 i j i2))
 (.need (inb (len y3.1) (↑(Int.toNat (w64 (w64 (i.1 + len y3.1) + 1)) - Int.toNat i.1) : Int)) <| .need (inb i.1 (↑(Int.toNat (w64 (w64 (len m - len y3.1) + 1))) : Int)) <| .tt <| .lt (w64 (i.1 - 1) : Int) fun z27 => .lt (List.set i.2.1 (0 + Int.toNat i.1) (aeU j.1) : List Int) fun z28 => .lt (List.set i2.2.2.2.1 (0 + Int.toNat i.1 + Int.toNat (len y3.1)) 0 : List Int) fun z29 => .vW (vX z27 <| (ub 41 0 (Int.toNat (w64 (w64 (len m - len y3.1) + 1))) true) ∧ (vX (len y3.1) <| (ub 26 0 (Int.toNat (w64 (len m + 1))) true) ∧ (ud y3.1 (aeU (Int.tdiv 1000000000 (aeU (gi o (w64 (len o - 1)) 0 + 1))) : Int) <| True ∧ True))) <| .vW (vV (ua 189 z28) <| vV (ua 189 z29) True) <| .ok (.inr (.inl ((z27, z28, z29, ()))))))
def awX (m : List Int) (o : List Int) (y : Int × Unit) (y3 : List Int × Unit) (y4 : List Int × Unit) (i : Int × List Int × List Int × Unit) (j : (Int) × Unit) : TT uE :=
 .loop 3 (.tt <| .lt (i.2.2.1 : List Int) fun z12 => .vW (ug (0 : Int) (0 : Int) (0 : Int) (len y3.1) y3.1 j.1 (len y3.1) (0 : Int) <| (ub 26 (0 + Int.toNat i.1) (Int.toNat (w64 (w64 (i.1 + len y3.1) + 1)) - Int.toNat i.1) true) ∧ uf y3.1) <| .vW (vV (ua 189 i.2.1) <| vV (ua 189 z12) True) <| .ok ((0, 0, 0, z12, ()))) (ahO m o y y3 y4 i j)
def ajL (m : List Int) (o : List Int) (y : Int × Unit) (y3 : List Int × Unit) (y4 : List Int × Unit) (i : (Int) × (List Int) × (List Int) × Unit) : TT uE :=
 .ite (decide (i.1 ≥ 0))
 (.need (inc (w64 (w64 (i.1 + len y3.1) + 1)) (↑(Int.toNat (w64 (len m + 1))) : Int)) <| .need (inc i.1 (↑(Int.toNat (w64 (w64 (i.1 + len y3.1) + 1))) : Int)) <| .tt <| .tt <| .need (inb (w64 (len y3.1 - 1)) (len y3.1)) <| .need (inb (len y3.1) (↑(Int.toNat (w64 (w64 (i.1 + len y3.1) + 1)) - Int.toNat i.1) : Int)) <| .need (inb (w64 (len y3.1 - 1)) (↑(Int.toNat (w64 (w64 (i.1 + len y3.1) + 1)) - Int.toNat i.1) : Int)) <| .need (abZ (gi y3.1 (w64 (len y3.1 - 1)) 0) ≠ 0) <| .need (abZ (gi y3.1 (w64 (len y3.1 - 1)) 0) ≠ 0) <| .join 1 (ι := (Int) × Unit) (.loop 2 (.tt <| .lt (Int.tmod (abZ (abZ (abZ (List.getD i.2.2.1 (0 + Int.toNat i.1 + Int.toNat (len y3.1)) 0) * 1000000000) + abZ (List.getD i.2.2.1 (0 + Int.toNat i.1 + Int.toNat (w64 (len y3.1 - 1))) 0))) (abZ (gi y3.1 (w64 (len y3.1 - 1)) 0)) : Int) fun z3 => .lt (abZ (Int.tdiv (abZ (abZ (abZ (List.getD i.2.2.1 (0 + Int.toNat i.1 + Int.toNat (len y3.1)) 0) * 1000000000) + abZ (List.getD i.2.2.1 (0 + Int.toNat i.1 + Int.toNat (w64 (len y3.1 - 1))) 0))) (abZ (gi y3.1 (w64 (len y3.1 - 1)) 0))) : Int) fun z4 => .vW (uc z4 z3 (abZ (gi y3.1 (w64 (len y3.1 - 1)) 0) : Int) (len y3.1) (0 : Int) <| (ub 26 (0 + Int.toNat i.1) (Int.toNat (w64 (w64 (i.1 + len y3.1) + 1)) - Int.toNat i.1) true) ∧ uf y3.1) <| .vW (vV (ua 189 i.2.1) <| vV (ua 189 i.2.2.1) True) <| .ok ((z3, z4, ()))) (ahP m o y y3 y4 i)) (awX m o y y3 y4 i))
 (.need (inc (len y3.1) (↑(Int.toNat (w64 (len m + 1))) : Int)) <| .call (acZ (List.take (Int.toNat (len y3.1)) i.2.2.1, ())) Dd0 fun y5 =>
 .call (alG (y5.1, aeU (Int.tdiv 1000000000 (aeU (gi o (w64 (len o - 1)) 0 + 1))), ())) aWh fun y6 =>
 .call (acZ (List.take (Int.toNat (w64 (w64 (len m - len y3.1) + 1))) i.2.1, ())) Dd0 fun y7 =>
 .ok (.inr ((y7.1, y6.1, ()))))
def amC (m : List Int) (o : List Int) : TT (List Int × List Int × Unit) :=
 .call (aeM (m, o, ())) Dd6 fun y =>
 .ite (decide (y.1 < 0))
 (.ok (([], m, ())))
 (.ite (len o == 1)
 (.need (asT Int 0 ≤ 0 ∧ 0 < len o) <| .call (alG (m, gi o 0 0, ())) aWh fun y1 =>
 .call (abY (abZ y1.2.1, ())) Dd0 fun y2 =>
 .ok ((y1.1, y2.1, ())))
 (.need (inb (w64 (len o - 1)) (len o)) <| .need (aeU (gi o (w64 (len o - 1)) 0 + 1) ≠ 0) <| .call (acU (o, [aeU (Int.tdiv 1000000000 (aeU (gi o (w64 (len o - 1)) 0 + 1)))], ())) Dd0 fun y3 =>
 .need (0 ≤ w64 (len m + 1) ∧ w64 (len m + 1) ≤ w64 (len m + 1) ∧ w64 (len m + 1) * (↑4 : Int) ≤ 140737488355328) <| .call (acU (m, [aeU (Int.tdiv 1000000000 (aeU (gi o (w64 (len o - 1)) 0 + 1)))], ())) Dd0 fun y4 =>
 .need (0 ≤ w64 (w64 (len m - len y3.1) + 1) ∧ w64 (w64 (len m - len y3.1) + 1) ≤ w64 (w64 (len m - len y3.1) + 1) ∧ w64 (w64 (len m - len y3.1) + 1) * (↑4 : Int) ≤ 140737488355328) <| .loop 0 (.tt <| .lt (w64 (len m - len y3.1) : Int) fun z => .lt (List.replicate (Int.toNat (w64 (z + 1))) 0 : List Int) fun z1 => .lt (over (List.replicate (Int.toNat (w64 (len m + 1))) 0) 0 (List.take (Int.toNat (w64 (len m + 1))) y4.1) : List Int) fun z2 => .vW (vX z <| (ub 41 0 (Int.toNat (w64 (z + 1))) true) ∧ (vX (len y3.1) <| (ub 26 0 (Int.toNat (w64 (len m + 1))) true) ∧ (ud y3.1 (aeU (Int.tdiv 1000000000 (aeU (gi o (w64 (len o - 1)) 0 + 1))) : Int) <| True ∧ True))) <| .vW (vV (ua 189 z1) <| vV (ua 189 z2) True) <| .ok ((z, z1, z2, ()))) (ajL m o y y3 y4)))
def aH8 : LTab := [(247, 8186, 49153, ⟨0, (Int) × (List Int) × (List Int) × Unit, .dat (.s 12) uq <| .row 41 uy <| .row 26 uy <| .nil, [4, 11, 10, 9, 8, 5], [41, 26], 0⟩), (269, 63, 95232, ⟨1, (Int) × Unit, .dat (.s 8) uX <| .nil, [5, 4, 0, 1], [41, 26], 0⟩), (269, 252, 95232, ⟨2, (Int) × (Int) × Unit, .dat (.s 9) uX <| .dat (.s 8) uX <| .nil, [6, 5, 4, 0, 1], [41, 26], 0⟩), (269, 2042, 100352, ⟨3, (Int) × (Int) × (Int) × (List Int) × Unit, .dat (.s 77) uq <| .dat (.s 11) uq <| .dat (.s 10) uX <| .row 26 uy <| .nil, [76, 75, 8, 5, 4, 0, 1], [41, 26], 0⟩), (269, 65454, 118784, ⟨4, (Int) × (Int) × (List Int) × Unit, .dat (.s 125) uq <| .dat (.s 15) uy <| .row 26 uy <| .nil, [124, 123, 8, 5, 4, 0], [41, 26], 0⟩)]
end
theorem aQR {H v1 V P U Q : Int} (hP : 0 < P) (h1 : 0 < v1) (hV : v1 * P ≤ V) (hU : U < (H + 1) * P) (hQ : Q * V ≤ U) (hQ0 : 0 ≤ Q) : Q ≤ H / v1 := by
 rw [xw h1]
 have a1 : Q * (v1 * P) ≤ Q * V := zD hV hQ0
 have a2 : Q * v1 * P < (H + 1) * P := by rw [Int.mul_assoc]; omega
 have := yf a2 zc
 omega
theorem aTn {q r H v1 v2 V P U Q u2 B : Int} (hV0 : 0 ≤ V) (hP : 0 < P) (hinv : q * v1 + r = H) (hV : (v1 * B + v2) * P ≤ V) (hU : U < (H * B + u2 + 1) * P) (hQ : Q * V ≤ U) (hq : 0 ≤ q) (h : q * v2 > r * B + u2) : Q ≤ q - 1 := by
 have a1 : H * B + u2 + 1 ≤ q * (v1 * B + v2) := by
  have : q * (v1 * B + v2) = (q * v1 + r) * B - r * B + q * v2 := by grind
  rw [this, hinv]; omega
 have a2 : (H * B + u2 + 1) * P ≤ (q * (v1 * B + v2)) * P := zE a1 zc
 have a3 : q * ((v1 * B + v2) * P) ≤ q * V := zD hV hq
 rw [Int.mul_assoc] at a2
 have a4 : Q * V < q * V := zc
 have := yf a4 hV0
 omega
theorem aLd {q r H v1 v2 V V3 P U u2 B Q : Int} (hP : 0 < P) (hinv : q * v1 + r = H) (hVe : V = (v1 * B + v2) * P + V3) (hV3 : V3 < P) (hV30 : 0 ≤ V3) (hU : (H * B + u2) * P ≤ U) (hq : 0 ≤ q) (hqB : q < B) (hVB : B * P ≤ V) (hUQ : U < (Q + 1) * V) (h : q * v2 ≤ r * B + u2) : q ≤ Q + 1 := by
 have a1 : q * (v1 * B + v2) ≤ H * B + u2 := by
  have : q * (v1 * B + v2) = (q * v1 + r) * B - r * B + q * v2 := by grind
  rw [this, hinv]; omega
 have a2 : (q * (v1 * B + v2)) * P ≤ (H * B + u2) * P := zE a1 zc
 have a3 : q * V3 ≤ B * P := by
  have b1 : q * V3 ≤ q * P := zD zc hq
  have b2 : q * P ≤ B * P := zE zc zc
  omega
 have a4 : q * V = (q * (v1 * B + v2)) * P + q * V3 := by rw [hVe]; grind
 have a5 : q * V < (Q + 2) * V := by
  have : (Q + 2) * V = (Q + 1) * V + V := by grind
  omega
 have hVpos : 0 < V := by
  have : 0 < B * P := vC zc hP
  omega
 have := yf a5 zc
 omega
theorem aJB {u w : List Int} {j n : Nat} {Q Vv e U : Int} (hlen : w.length = u.length) (hjn : j + n < u.length) (hw : Dg 1000000000 w)
  (htk : w.take j = u.take j) (hdr : w.drop (j + n) = u.drop (j + n)) (hz : V 1000000000 (u.drop (j + n + 1)) = 0) (hU : U = V 1000000000 (u.drop j)) (hX0 : 0 ≤ U - Q * Vv) (hX1 : U - Q * Vv < 1000000000 ^ n)
  (hV : V 1000000000 w = V 1000000000 u - 1000000000 ^ j * (Q * Vv) + 1000000000 ^ (j + n) * e) :
  V 1000000000 (w.set (j + n) 0) = V 1000000000 u - 1000000000 ^ j * (Q * Vv) ∧ V 1000000000 ((w.set (j + n) 0).drop j) = U - Q * Vv ∧ e = u.getD (j + n) 0 := by
 have sw := acQ 1000000000 w j
 have su := acQ 1000000000 u j
 rw [htk] at sw
 have hPj : (0 : Int) < 1000000000 ^ j := yJ zc
 have hPn : (0 : Int) < 1000000000 ^ n := yJ zc
 have e1 : V 1000000000 (w.drop j) = U - Q * Vv + 1000000000 ^ n * e := by
  have : 1000000000 ^ j * V 1000000000 (w.drop j) = 1000000000 ^ j * (U - Q * Vv + 1000000000 ^ n * e) := by
   rw [wA] at hV
   rw [hU]
   have : (1000000000 : Int) ^ j * (V 1000000000 (u.drop j) - Q * Vv + 1000000000 ^ n * e) = 1000000000 ^ j * V 1000000000 (u.drop j) - 1000000000 ^ j * (Q * Vv) + 1000000000 ^ j * 1000000000 ^ n * e := by grind
   omega
  exact Int.eq_of_mul_eq_mul_left zc this
 have s2 := acQ 1000000000 (w.drop j) n
 rw [yc, hdr] at s2
 have s3 := aaU 1000000000 u (j + n)
 rw [hz, wD, vt] at s3
 rw [s3] at s2
 have l1 := adV zc (acP hw j) n
 have l2 := aaT zc (acO (acP hw j) n)
 have hget : w.getD (j + n) 0 = u.getD (j + n) 0 := by
  have h1 : (w.drop (j + n)).getD 0 0 = (u.drop (j + n)).getD 0 0 := by rw [hdr]
  simpa [yp, yZ] using h1
 have he : e = u.getD (j + n) 0 := by
  have h1 : 1000000000 ^ n * (u.getD (j + n) 0 - e) = (U - Q * Vv) - V 1000000000 ((w.drop j).take n) := by
   rw [Int.mul_sub]; omega
  have h2 : u.getD (j + n) 0 - e < 1 := by
   have : 1000000000 ^ n * (u.getD (j + n) 0 - e) < 1000000000 ^ n * 1 := zc
   exact yU this zc
  have h3 : -1 < u.getD (j + n) 0 - e := by
   have : 1000000000 ^ n * (-1) < 1000000000 ^ n * (u.getD (j + n) 0 - e) := zc
   exact yU this zc
  omega
 refine ⟨?_, ?_, he⟩
 ·rw [aA0 _ zc, hget, hV, he, Int.mul_sub]
  omega
 ·have s4 : (w.set (j + n) 0).drop j = (w.drop j).set n 0 := by
   rw [List.drop_set, if_neg zc]; congr 1; omega
  rw [s4, aA0 _ (by rw [yz]; omega)]
  have : (w.drop j).getD n 0 = u.getD (j + n) 0 := by
   rw [← hget]; simp [yp, yZ]
  rw [this, e1, he, Int.mul_sub]
  omega
theorem aUF {u w : List Int} {j n : Nat} {q Vv e U : Int} (hw : Dg 1000000000 w)
  (htk : w.take j = u.take j) (hdr : w.drop (j + n) = u.drop (j + n)) (hz : V 1000000000 (u.drop (j + n + 1)) = 0) (hU : U = V 1000000000 (u.drop j)) (hX0 : U - q * Vv < 0)
  (hV : V 1000000000 w = V 1000000000 u - 1000000000 ^ j * (q * Vv) + 1000000000 ^ (j + n) * e) : u.getD (j + n) 0 < e := by
 have sw := acQ 1000000000 w j
 have su := acQ 1000000000 u j
 rw [htk] at sw
 have hPj : (0 : Int) < 1000000000 ^ j := yJ zc
 have hPn : (0 : Int) < 1000000000 ^ n := yJ zc
 have e1 : V 1000000000 (w.drop j) = U - q * Vv + 1000000000 ^ n * e := by
  have : 1000000000 ^ j * V 1000000000 (w.drop j) = 1000000000 ^ j * (U - q * Vv + 1000000000 ^ n * e) := by
   rw [wA] at hV
   rw [hU]
   have : (1000000000 : Int) ^ j * (V 1000000000 (u.drop j) - q * Vv + 1000000000 ^ n * e) = 1000000000 ^ j * V 1000000000 (u.drop j) - 1000000000 ^ j * (q * Vv) + 1000000000 ^ j * 1000000000 ^ n * e := by grind
   omega
  exact Int.eq_of_mul_eq_mul_left zc this
 have s2 := acQ 1000000000 (w.drop j) n
 rw [yc, hdr] at s2
 have s3 := aaU 1000000000 u (j + n)
 rw [hz, wD, vt] at s3
 rw [s3] at s2
 have l2 := aaT zc (acO (acP hw j) n)
 have : 1000000000 ^ n * u.getD (j + n) 0 < 1000000000 ^ n * e := zc
 exact yU this zc
theorem aAp (l : List Int) {k j : Nat} (h : j ≤ k) (x : Int) : (l.set (k) x).take j = l.take j := by
 rw [List.take_set_of_le h]
theorem aQz (m o : List Int) (y : Int × Unit) (y4 : List Int × Unit) (v ql u w0 : List Int) (j n : Nat) (q : Int) (i2 : Int × Int × Int × List Int × Unit) (hv : Dg 1000000000 v) (hn : v.length = n) (hN : w0.length ≤ 1000000000000) (hjn : j + n < w0.length) (hw : Dg 1000000000 w0) (hq : 1 ≤ q ∧ q < 1000000000) (hK : inb (j : Int) (↑(Int.toNat (w64 (w64 (len m - len v) + 1))) : Int)) :
  ∃ w' e, adK (fun i3 => (ajK m o y (v, ()) y4 ((j : Int), ql, u, ()) (q, ()) i2 i3).toO) (0, 0, w0, ()) = some (.inr (.inl ((j : Int) - 1, ql.set j (q - 1), w'.set (j + n) 0, ()))) ∧ w'.length = w0.length ∧ Dg 1000000000 w' ∧ w'.take j = w0.take j ∧ w'.drop (j + n) = w0.drop (j + n) ∧ V 1000000000 w' = V 1000000000 w0 + 1000000000 ^ j * V 1000000000 v - 1000000000 ^ (j + n) * e := by
 have wa : w64 (w64 ((j : Int) + len v) + 1) = ((j + n + 1 : Nat) : Int) := by rw [aaB, hn, aaA (x := (j : Int) + n) zc, aaA zc]; omega
 have wb : ((((j + n + 1 : Nat) : Int).toNat - (j : Int).toNat : Nat) : Int) = ((n + 1 : Nat) : Int) := zc
 refine Exists.elim (ac8 (R := fun i3 => (ajK m o y (v, ()) y4 ((j : Int), ql, u, ()) (q, ()) i2 i3).toO) (fun i : Int × Int × List Int × Unit => ∃ k : Nat, k ≤ n ∧ i.1 = (k : Int) ∧ 0 ≤ i.2.1 ∧ i.2.1 ≤ 1 ∧ i.2.2.1.length = w0.length ∧ Dg 1000000000 i.2.2.1 ∧ i.2.2.1.take j = w0.take j ∧ i.2.2.1.drop (j + k) = w0.drop (j + k) ∧ V 1000000000 i.2.2.1 = V 1000000000 w0 + 1000000000 ^ j * V 1000000000 (v.take k) - 1000000000 ^ (j + k) * i.2.1) (fun i => ((n : Int) - i.1).toNat)
  (fun r => ∃ w' e, r = Sum.inr (Sum.inl ((j : Int) - 1, ql.set j (q - 1), w'.set (j + n) 0, ())) ∧ w'.length = w0.length ∧ Dg 1000000000 w' ∧ w'.take j = w0.take j ∧ w'.drop (j + n) = w0.drop (j + n) ∧ V 1000000000 w' = V 1000000000 w0 + 1000000000 ^ j * V 1000000000 v - 1000000000 ^ (j + n) * e) ?step (0, 0, w0, ()) ⟨0, by omega, rfl, by simp, by simp, rfl, hw, rfl, rfl, by simp [V]⟩) ?fin
 case fin =>
  rintro a ⟨h1, w', e, rfl, h3⟩
  exact ⟨w', e, h1, h3⟩
 rintro ⟨i, c, w, u5⟩ ⟨k, g1, g2, g3, g4, g5, g6, g7, g8, g9⟩
 dsimp only at g2 g3 g4 g5 g6 g7 g8 g9
 subst g2
 have dv := aa5 zc hv k
 have dw := aa5 zc g6 (j + k)
 have ev := aa7 1000000000 v k
 simp only [ajK, aaL, wa, wb, zp, zv]
 rcases zr k n with hk | hk
 ·left
  have w1 : aeU (aeU (w.getD (j + k) 0 + v.getD k 0) + c) = w.getD (j + k) 0 + v.getD k 0 + c := by rw [aa1 (x := w.getD (j + k) 0 + v.getD k 0) zc, aa1 zc]
  have w5 : w64 ((k : Int) + 1) = ((k + 1 : Nat) : Int) := by rw [aaA (x := (k : Int) + 1) zc]; omega
  simp only [w1, w5]
  have fin : ∀ x c' : Int, 0 ≤ x ∧ x < 1000000000 → 0 ≤ c' ∧ c' ≤ 1 → x + 1000000000 * c' = w.getD (j + k) 0 + v.getD k 0 + c → ∃ k_1 : Nat, k_1 ≤ n ∧ ((k + 1 : Nat) : Int) = (k_1 : Int) ∧ 0 ≤ c' ∧ c' ≤ 1 ∧ (w.set (j + k) x).length = w0.length ∧ Dg 1000000000 (w.set (j + k) x) ∧ (w.set (j + k) x).take j = w0.take j ∧ (w.set (j + k) x).drop (j + k_1) = w0.drop (j + k_1) ∧ V 1000000000 (w.set (j + k) x) = V 1000000000 w0 + 1000000000 ^ j * V 1000000000 (v.take k_1) - 1000000000 ^ (j + k_1) * c' := by
   intro x c' hx hc he
   refine ⟨k + 1, by omega, rfl, hc.1, hc.2, by simp; omega, aj4 g6 hx _, by rw [aAp _ zc, g7], ?_, ?_⟩
   ·rw [aiV _ zc, show j + (k + 1) = j + k + 1 by omega, ← yc (i := 1), g8, yc]
   ·rw [aA0 _ zc, g9, ev, show j + (k + 1) = j + k + 1 by omega, zX, wA]
    have : (1000000000 : Int) ^ j * 1000000000 ^ k * (x + 1000000000 * c') = 1000000000 ^ j * 1000000000 ^ k * (w.getD (j + k) 0 + v.getD k 0 + c) := by rw [he]
    grind
  by_cases cc : w.getD (j + k) 0 + v.getD k 0 + c ≥ 1000000000
  ·refine ⟨(((k + 1 : Nat) : Int), 1, w.set (j + k) (w.getD (j + k) 0 + v.getD k 0 + c - 1000000000), ()), ?_, fin _ 1 zc zc zc, by dsimp only; omega⟩
   refine uT sd (uN sd (uN ⟨by omega, by omega⟩ (uT (zo cc) (uN ⟨by omega, by omega⟩ ?_))))
   repeat refine za ?_
   rw [aa1 (x := w.getD (j + k) 0 + v.getD k 0 + c - 1000000000) zc]
   rfl
  ·refine ⟨(((k + 1 : Nat) : Int), 0, w.set (j + k) (w.getD (j + k) 0 + v.getD k 0 + c), ()), ?_, fin _ 0 zc zc zc, by dsimp only; omega⟩
   refine uT sd (uN sd (uN ⟨by omega, by omega⟩ (uF (zn cc) (uN ⟨by omega, by omega⟩ ?_))))
   repeat refine za ?_
   rfl
 ·right
  have hkn : k = n := zc
  subst hkn
  rw [abO _ zc] at g9
  refine ⟨_, ?_, w, c, rfl, g5, g6, g7, g8, g9⟩
  refine uF sd (uN ⟨by simp [len], by rw [aaB, hn]; omega⟩ (uN hK ?_))
  repeat refine za ?_
  have w6 : aeU (abZ (q - 1)) = q - 1 := by rw [aaP (x := q - 1) zc, aa1 zc]
  rw [aaI, w6, aaA (x := (j : Int) - 1) zc, aaB, hn, zp]
theorem au2 {a b B : Int} (ha : 0 ≤ a ∧ a < B) (hb : 0 ≤ b ∧ b < B) : 0 ≤ a * b ∧ a * b ≤ (B - 1) * (B - 1) := by
 refine ⟨yh ha.1 hb.1, ?_⟩
 have h1 : a * b ≤ a * (B - 1) := zD zc ha.1
 have h2 : a * (B - 1) ≤ (B - 1) * (B - 1) := zE zc zc
 omega
theorem aQA (m o : List Int) (y : Int × Unit) (y4 : List Int × Unit) (v ql u : List Int) (j n : Nat) (q Q : Int) (hv : Dg 1000000000 v) (hn : v.length = n) (hN : u.length ≤ 1000000000000) (hjn : j + n < u.length) (hu : Dg 1000000000 u) (hq : 0 ≤ q ∧ q < 1000000000) (hK : inb (j : Int) (↑(Int.toNat (w64 (w64 (len m - len v) + 1))) : Int))
  (hz : V 1000000000 (u.drop (j + n + 1)) = 0) (hQ : q = Q ∨ q = Q + 1) (hX0 : 0 ≤ V 1000000000 (u.drop j) - Q * V 1000000000 v) (hX1 : V 1000000000 (u.drop j) - Q * V 1000000000 v < V 1000000000 v) (hQ0 : 0 ≤ Q) :
  ∃ u', adK (fun i2 => (ahO m o y (v, ()) y4 ((j : Int), ql, u, ()) (q, ()) i2).toO) (0, 0, 0, u, ()) = some (.inl ((j : Int) - 1, ql.set j Q, u', ())) ∧ u'.length = u.length ∧ Dg 1000000000 u' ∧ V 1000000000 u' = V 1000000000 u - 1000000000 ^ j * (Q * V 1000000000 v) ∧ V 1000000000 (u'.drop j) = V 1000000000 (u.drop j) - Q * V 1000000000 v := by
 have wa : w64 (w64 ((j : Int) + len v) + 1) = ((j + n + 1 : Nat) : Int) := by rw [aaB, hn, aaA (x := (j : Int) + n) zc, aaA zc]; omega
 have wb : ((((j + n + 1 : Nat) : Int).toNat - (j : Int).toNat : Nat) : Int) = ((n + 1 : Nat) : Int) := zc
 have hVn : V 1000000000 v < 1000000000 ^ n := by have := aN1 zc hv; rwa [hn] at this
 refine Exists.elim (ac8 (R := fun i2 => (ahO m o y (v, ()) y4 ((j : Int), ql, u, ()) (q, ()) i2).toO) (fun i : Int × Int × Int × List Int × Unit => ∃ k : Nat, k ≤ n ∧ i.1 = (k : Int) ∧ 0 ≤ i.2.1 ∧ i.2.1 ≤ 1 ∧ 0 ≤ i.2.2.1 ∧ i.2.2.1 < 1000000000 ∧ i.2.2.2.1.length = u.length ∧ Dg 1000000000 i.2.2.2.1 ∧ i.2.2.2.1.take j = u.take j ∧ i.2.2.2.1.drop (j + k) = u.drop (j + k) ∧ V 1000000000 i.2.2.2.1 = V 1000000000 u - 1000000000 ^ j * (q * V 1000000000 (v.take k)) + 1000000000 ^ (j + k) * (i.2.1 + i.2.2.1)) (fun i => ((n : Int) - i.1).toNat)
  (fun r => ∃ u', r = Sum.inl ((j : Int) - 1, ql.set j Q, u', ()) ∧ u'.length = u.length ∧ Dg 1000000000 u' ∧ V 1000000000 u' = V 1000000000 u - 1000000000 ^ j * (Q * V 1000000000 v) ∧ V 1000000000 (u'.drop j) = V 1000000000 (u.drop j) - Q * V 1000000000 v) ?step (0, 0, 0, u, ()) ⟨0, by omega, rfl, by simp, by simp, by simp, by simp, rfl, hu, rfl, rfl, by simp [V]⟩) ?fin
 case fin =>
  rintro a ⟨h1, u', rfl, h3⟩
  exact ⟨u', h1, h3⟩
 rintro ⟨i, b, c, w, u5⟩ ⟨k, g1, g2, g3, g4, g5, g6, g7, g8, g9, g10, g11⟩
 dsimp only at g2 g3 g4 g5 g6 g7 g8 g9 g10 g11
 subst g2
 have dv := aa5 zc hv k
 have dw := aa5 zc g8 (j + k)
 have ev := aa7 1000000000 v k
 have hm := au2 hq dv
 have hs : 0 ≤ c + q * v.getD k 0 := zc
 simp only [ahO, aaL, wa, wb, zp, zv]
 rcases zr k n with hk | hk
 ·left
  have wv : abZ (v.getD k 0) = v.getD k 0 := aaP zc
  have wp : abZ (c + abZ (q * v.getD k 0)) = c + q * v.getD k 0 := by rw [aaP (x := q * v.getD k 0) zc, aaP zc]
  have em := yk (c + q * v.getD k 0) 1000000000
  have e2 : 0 ≤ (c + q * v.getD k 0) % 1000000000 ∧ (c + q * v.getD k 0) % 1000000000 < 1000000000 := zc
  have e3 : 0 ≤ (c + q * v.getD k 0) / 1000000000 ∧ (c + q * v.getD k 0) / 1000000000 < 1000000000 := zc
  have tm : Int.tmod (c + q * v.getD k 0) 1000000000 = (c + q * v.getD k 0) % 1000000000 := zF hs
  have td : Int.tdiv (c + q * v.getD k 0) 1000000000 = (c + q * v.getD k 0) / 1000000000 := zL hs
  have wr : w64 (w64 (w64 (w.getD (j + k) 0) - b) - w64 ((c + q * v.getD k 0) % 1000000000)) = w.getD (j + k) 0 - b - (c + q * v.getD k 0) % 1000000000 := by
   rw [aaA (x := w.getD (j + k) 0) zc, aaA (x := w.getD (j + k) 0 - b) zc, aaA (x := (c + q * v.getD k 0) % 1000000000) zc, aaA zc]
  have w5 : w64 ((k : Int) + 1) = ((k + 1 : Nat) : Int) := by rw [aaA (x := (k : Int) + 1) zc]; omega
  have wd : abZ ((c + q * v.getD k 0) / 1000000000) = (c + q * v.getD k 0) / 1000000000 := aaP zc
  simp only [wv, wp, tm, td, wr, w5, wd]
  generalize (c + q * v.getD k 0) % 1000000000 = D at *
  generalize (c + q * v.getD k 0) / 1000000000 = C at *
  have fin : ∀ x b' : Int, 0 ≤ x ∧ x < 1000000000 → 0 ≤ b' ∧ b' ≤ 1 → x = w.getD (j + k) 0 - b - D + 1000000000 * b' → ∃ k_1 : Nat, k_1 ≤ n ∧ ((k + 1 : Nat) : Int) = (k_1 : Int) ∧ 0 ≤ b' ∧ b' ≤ 1 ∧ 0 ≤ C ∧ C < 1000000000 ∧ (w.set (j + k) x).length = u.length ∧ Dg 1000000000 (w.set (j + k) x) ∧ (w.set (j + k) x).take j = u.take j ∧ (w.set (j + k) x).drop (j + k_1) = u.drop (j + k_1) ∧ V 1000000000 (w.set (j + k) x) = V 1000000000 u - 1000000000 ^ j * (q * V 1000000000 (v.take k_1)) + 1000000000 ^ (j + k_1) * (b' + C) := by
   intro x b' hx hb he
   refine ⟨k + 1, by omega, rfl, hb.1, hb.2, e3.1, e3.2, by simp; omega, aj4 g8 hx _, by rw [aAp _ zc, g9], ?_, ?_⟩
   ·rw [aiV _ zc, show j + (k + 1) = j + k + 1 by omega, ← yc (i := 1), g10, yc]
   ·rw [aA0 _ zc, g11, ev, show j + (k + 1) = j + k + 1 by omega, zX, wA, he]
    have : (1000000000 : Int) ^ j * 1000000000 ^ k * (D + 1000000000 * C) = 1000000000 ^ j * 1000000000 ^ k * (c + q * v.getD k 0) := by rw [em]
    grind
  by_cases cc : w.getD (j + k) 0 - b - D < 0
  ·refine ⟨(((k + 1 : Nat) : Int), 1, C, w.set (j + k) (w.getD (j + k) 0 - b - D + 1000000000), ()), ?_, fin _ 1 zc zc zc, by dsimp only; omega⟩
   refine uT sd (uN sd (uN ⟨by omega, by omega⟩ (uV (uV (uT (zo cc) (uN ⟨by omega, by omega⟩ ?_))))))
   repeat refine za ?_
   rw [aaA (x := w.getD (j + k) 0 - b - D + 1000000000) zc, aa1 zc]
   rfl
  ·refine ⟨(((k + 1 : Nat) : Int), 0, C, w.set (j + k) (w.getD (j + k) 0 - b - D), ()), ?_, fin _ 0 zc zc zc, by dsimp only; omega⟩
   refine uT sd (uN sd (uN ⟨by omega, by omega⟩ (uV (uV (uF (zn cc) (uN ⟨by omega, by omega⟩ ?_))))))
   repeat refine za ?_
   rw [aa1 (x := w.getD (j + k) 0 - b - D) zc]
   rfl
 ·right
  have hkn : k = n := zc
  subst hkn
  rw [abO _ zc] at g11
  have hun := aa5 zc hu (j + k)
  have hget : w.getD (j + k) 0 = u.getD (j + k) 0 := by
   have h1 : (w.drop (j + k)).getD 0 0 = (u.drop (j + k)).getD 0 0 := by rw [g10]
   simpa [yp, yZ] using h1
  have wl : len v = (k : Int) := by rw [aaB, hn]
  have wt : w64 (w64 (u.getD (j + k) 0) - b) = u.getD (j + k) 0 - b := by rw [aaA (x := u.getD (j + k) 0) zc, aaA zc]
  have wc : w64 c = c := aaA zc
  simp only [wl, zp, hget, wt, wc]
  by_cases cb : u.getD (j + k) 0 - b < c
  ·-- one too great
   have hq1 : q = Q + 1 := by
    rcases hQ with h | h
    ·subst h
     obtain ⟨-, -, he⟩ := aJB (Q := q) g7 hjn g8 g9 g10 hz rfl hX0 zc g11
     omega
    ·exact h
   obtain ⟨w', e, r1, r2, r3, r4, r5, r6⟩ := aQz m o y y4 v ql u w j k q ((k : Int), b, c, w, ()) hv hn zc zc g8 zc hK
   obtain ⟨f1, f2, -⟩ := aJB (u := u) (w := w') (Q := Q) (Vv := V 1000000000 v) (e := b + c - e) (by rw [r2, g7]) hjn r3 (by rw [r4, g9]) (by rw [r5, g10]) hz rfl hX0 zc (by
    rw [r6, g11, hq1]
    grind)
   refine ⟨_, ?_, w'.set (j + k) 0, rfl, by simp; omega, aj4 r3 zc _, f1, f2⟩
   refine uF sd (uN ⟨by omega, by omega⟩ (uT (zo cb) ?_))
   refine uO (0, 0, w, ()) (by repeat refine za ?_; rfl) ?_
   rw [r1, hq1, Int.add_sub_cancel]
  ·have hq1 : q = Q := by
    rcases hQ with h | h
    ·exact h
    ·exfalso
     have := aUF (q := q) g8 g9 g10 hz rfl (by rw [h, wY]; omega) g11
     omega
   subst hq1
   obtain ⟨f1, f2, -⟩ := aJB (Q := q) g7 hjn g8 g9 g10 hz rfl hX0 zc g11
   refine ⟨_, ?_, w.set (j + k) 0, rfl, by simp; omega, aj4 g8 zc _, f1, f2⟩
   refine uF sd (uN ⟨by omega, by omega⟩ (uF (zn cb) (uN ⟨by omega, by omega⟩ (uN (by rw [wl] at hK; exact hK) ?_))))
   repeat refine za ?_
   rw [aaI, aa1 (x := q) zc, aaA (x := (j : Int) - 1) zc]
theorem auX {N : Nat} {s : List Int} (h : s.length ≤ N) : over (List.replicate N 0) 0 s = s ++ List.replicate (N - s.length) 0 := by
 unfold over
 simp
theorem aVQ {N : Nat} {s : List Int} (h : s.length ≤ N) : V 1000000000 (over (List.replicate N 0) 0 s) = V 1000000000 s := by
 rw [auX h, aeY, avV]; omega
theorem aQB (m o : List Int) (y : Int × Unit) (y4 : List Int × Unit) (v ql u : List Int) (j n : Nat) (U Q : Int) (hv : Dg 1000000000 v) (hn : v.length = n + 2) (hN : u.length ≤ 1000000000000) (hjn : j + n + 2 < u.length) (hu : Dg 1000000000 u) (hz : V 1000000000 (u.drop (j + n + 2 + 1)) = 0) (hU : U = V 1000000000 (u.drop j)) (hUB : U < V 1000000000 v * 1000000000) (hQ1 : Q * V 1000000000 v ≤ U) (hQ2 : U < (Q + 1) * V 1000000000 v) (hQ0 : 0 ≤ Q) (htop : 1 ≤ v.getD (n + 1) 0) :
  ∃ q, (q = Q ∨ q = Q + 1) ∧ 0 ≤ q ∧ q < 1000000000 ∧ adK (fun i1 => (ahP m o y (v, ()) y4 ((j : Int), ql, u, ()) i1).toO) ((u.getD (j + n + 2) 0 * 1000000000 + u.getD (j + n + 1) 0) % v.getD (n + 1) 0, (u.getD (j + n + 2) 0 * 1000000000 + u.getD (j + n + 1) 0) / v.getD (n + 1) 0, ()) = some (.inl (q, ())) := by
 have wb1 : w64 (len v - 1) = ((n + 1 : Nat) : Int) := by rw [aaB, hn, aaA zc]; omega
 have wb2 : w64 (len v - 2) = ((n : Nat) : Int) := by rw [aaB, hn, aaA zc]; omega
 have wa : w64 (w64 ((j : Int) + len v) + 1) = ((j + n + 2 + 1 : Nat) : Int) := by rw [aaB, hn, aaA (x := (j : Int) + ((n + 2 : Nat) : Int)) zc, aaA zc]; omega
 have wb : ((((j + n + 2 + 1 : Nat) : Int).toNat - (j : Int).toNat : Nat) : Int) = ((n + 3 : Nat) : Int) := zc
 have dv1 := aa5 zc hv (n + 1)
 have dv2 := aa5 zc hv n
 have du0 := aa5 zc hu (j + n + 2)
 have du1 := aa5 zc hu (j + n + 1)
 have du2 := aa5 zc hu (j + n)
 -- the divisor
 have hP : (0 : Int) < 1000000000 ^ n := yJ zc
 have hP1 : (0 : Int) < 1000000000 ^ (n + 1) := yJ zc
 have s1 := acQ 1000000000 v n
 have s2 := aaU 1000000000 v n
 have s3 := aaU 1000000000 v (n + 1)
 rw [acY (k := n + 1 + 1) _ zc, wD, vt] at s3
 rw [s3] at s2
 have s4 := adV zc hv n
 have s5 := aaT zc (acO hv n)
 have s6 := acQ 1000000000 v (n + 1)
 rw [s3] at s6
 have s7 := aaT zc (acO hv (n + 1))
 -- the window
 have t1 := acQ 1000000000 (u.drop j) n
 have t2 : V 1000000000 ((u.drop j).drop n) = (u.getD (j + n + 2) 0 * 1000000000 + u.getD (j + n + 1) 0) * 1000000000 + u.getD (j + n) 0 := by
  rw [yc]
  have a1 := aaU 1000000000 u (j + n)
  have a2 := aaU 1000000000 u (j + n + 1)
  have a3 := aaU 1000000000 u (j + n + 1 + 1)
  rw [show j + n + 1 + 1 + 1 = j + n + 2 + 1 by omega, hz] at a3
  rw [a1, a2, a3]
  show _ + 1000000000 * (_ + 1000000000 * (u.getD (j + n + 2) 0 + 1000000000 * 0)) = _
  omega
 have t3 := adV zc (acP hu j) n
 have t4 := aaT zc (acO (acP hu j) n)
 rw [← hU, t2] at t1
 generalize hH : u.getD (j + n + 2) 0 * 1000000000 + u.getD (j + n + 1) 0 = H at *
 have hH0 : 0 ≤ H ∧ H < 1000000000000000000 := zc
 generalize hv1 : v.getD (n + 1) 0 = v1 at *
 generalize hv2 : v.getD n 0 = v2 at *
 generalize hu2 : u.getD (j + n) 0 = u2 at *
 generalize V 1000000000 (v.take n) = V3 at *
 generalize V 1000000000 ((u.drop j).take n) = U3 at *
 generalize V 1000000000 (v.take (n + 1)) = V4 at *
 have hVe : V 1000000000 v = (v1 * 1000000000 + v2) * 1000000000 ^ n + V3 := by rw [s1, s2]; grind
 have hVv : v1 * 1000000000 ^ (n + 1) ≤ V 1000000000 v := by
  have : (1000000000 : Int) ^ (n + 1) * v1 = v1 * 1000000000 ^ (n + 1) := yM _ _
  omega
 have hVB : 1000000000 * 1000000000 ^ n ≤ V 1000000000 v := by
  have a1 : 1 * 1000000000 ^ (n + 1) ≤ v1 * 1000000000 ^ (n + 1) := zE htop zc
  have a2 : (1000000000 : Int) ^ (n + 1) = 1000000000 * 1000000000 ^ n := by rw [zX, yM]
  omega
 have hUlo : (H * 1000000000 + u2) * 1000000000 ^ n ≤ U := by
  have : (1000000000 : Int) ^ n * (H * 1000000000 + u2) = (H * 1000000000 + u2) * 1000000000 ^ n := yM _ _
  omega
 have hUhi : U < (H * 1000000000 + u2 + 1) * 1000000000 ^ n := by
  have : (H * 1000000000 + u2 + 1) * 1000000000 ^ n = 1000000000 ^ n * (H * 1000000000 + u2) + 1000000000 ^ n := by grind
  omega
 have hUhi1 : U < (H + 1) * 1000000000 ^ (n + 1) := by
  have a1 : (H * 1000000000 + u2 + 1) * 1000000000 ^ n ≤ ((H + 1) * 1000000000) * 1000000000 ^ n := zE zc zc
  have a2 : ((H + 1) * 1000000000) * 1000000000 ^ n = (H + 1) * 1000000000 ^ (n + 1) := by rw [zX]; grind
  omega
 have hVpos : 0 < V 1000000000 v := by have := vC (show (0 : Int) < 1000000000 by omega) hP; omega
 have hQB : Q < 1000000000 := by
  have : Q * V 1000000000 v < 1000000000 * V 1000000000 v := zc
  exact yf this zc
 have hstart := aQR hP1 zc hVv hUhi1 hQ1 hQ0
 have hdm := yk H v1
 have hr0 := yQ H (show v1 ≠ 0 by omega)
 have hr1 := yB H (show 0 < v1 by omega)
 refine Exists.elim (ac8 (R := fun i1 => (ahP m o y (v, ()) y4 ((j : Int), ql, u, ()) i1).toO) (fun i : Int × Int × Unit => 0 ≤ i.1 ∧ i.1 < 1000000000 ∧ Q ≤ i.2.1 ∧ i.2.1 * v1 + i.1 = H) (fun i => i.2.1.toNat) (fun r => ∃ q, (q = Q ∨ q = Q + 1) ∧ 0 ≤ q ∧ q < 1000000000 ∧ r = Sum.inl (q, ())) ?step (H % v1, H / v1, ()) ⟨hr0, by dsimp only; omega, hstart, by dsimp only; rw [yM]; omega⟩) ?fin
 case fin =>
  rintro a ⟨h1, q, h2, h3, h4, rfl⟩
  exact ⟨q, h2, h3, h4, h1⟩
 rintro ⟨r, q, u5⟩ ⟨g1, g2, g3, g4⟩
 dsimp only at g1 g2 g3 g4
 have hqH : q ≤ H := by
  have : q * 1 ≤ q * v1 := zD htop zc
  omega
 have down : Q ≤ q - 1 → ((r + v1 ≥ 1000000000 → ∃ q', (q' = Q ∨ q' = Q + 1) ∧ 0 ≤ q' ∧ q' < 1000000000 ∧ q' = q - 1)) := by
  intro hdn hr
  have hqB : q - 1 < 1000000000 := by
   have a1 : (q - 1) * v1 = H - (r + v1) := by rw [Int.sub_mul]; omega
   have a2 : H < (v1 + 1) * 1000000000 := by
    have b1 : H * 1000000000 ^ (n + 1) ≤ U := by
     have a2 : (H * 1000000000) * 1000000000 ^ n = H * 1000000000 ^ (n + 1) := by rw [zX]; grind
     have a3 : (H * 1000000000) * 1000000000 ^ n ≤ (H * 1000000000 + u2) * 1000000000 ^ n := zE zc zc
     omega
    have b2 : V 1000000000 v < (v1 + 1) * 1000000000 ^ (n + 1) := by
     have a2 : (v1 + 1) * 1000000000 ^ (n + 1) = (v1 * 1000000000 + 1000000000) * 1000000000 ^ n := by rw [zX]; grind
     have a3 : (v1 * 1000000000 + v2 + 1) * 1000000000 ^ n ≤ (v1 * 1000000000 + 1000000000) * 1000000000 ^ n := zE zc zc
     have a4 : (v1 * 1000000000 + v2 + 1) * 1000000000 ^ n = (v1 * 1000000000 + v2) * 1000000000 ^ n + 1000000000 ^ n := by grind
     omega
    have b3 : H * 1000000000 ^ (n + 1) < ((v1 + 1) * 1000000000) * 1000000000 ^ (n + 1) := by
     have : ((v1 + 1) * 1000000000) * 1000000000 ^ (n + 1) = ((v1 + 1) * 1000000000 ^ (n + 1)) * 1000000000 := by grind
     omega
    exact yf b3 zc
   have a3 : (q - 1) * v1 < 1000000000 * v1 := by
    have : (v1 + 1) * 1000000000 = 1000000000 * v1 + 1000000000 := by grind
    omega
   exact yf a3 zc
  have hm := au2 (a := q - 1) (b := v2) (B := 1000000000) ⟨by omega, hqB⟩ dv2
  have hmB : 1000000000 * 1000000000 ≤ (r + v1) * 1000000000 := zc
  have := aLd (q := q - 1) (r := r + v1) hP (by rw [Int.sub_mul]; omega) hVe s4 s5 hUlo zc hqB hVB hQ2 zc
  exact ⟨q - 1, by omega, by omega, hqB, rfl⟩
 have wv1 : abZ v1 = v1 := aaP zc
 have wr : abZ (r + v1) = r + v1 := aaP zc
 have hgi1 : gi v ((n + 1 : Nat) : Int) 0 = v1 := by rw [aaL, hv1]
 have hgi2 : gi v ((n : Nat) : Int) 0 = v2 := by rw [aaL, hv2]
 simp only [ahP, aiT, wb1, wb2, hgi1, hgi2, wv1, wr, wa, wb, zp, zv, hu2]
 have stepdn : Q ≤ q - 1 → 1 ≤ q → ((r + v1 ≥ 1000000000 → ∃ q', ((q' = Q ∨ q' = Q + 1) ∧ 0 ≤ q' ∧ q' < 1000000000) ∧ abZ (q - 1) = q') ∧ (¬ r + v1 ≥ 1000000000 → (0 ≤ r + v1 ∧ r + v1 < 1000000000 ∧ Q ≤ q - 1 ∧ (q - 1) * v1 + (r + v1) = H) ∧ abZ (q - 1) = q - 1)) := by
  intro h1 h2
  have wq : abZ (q - 1) = q - 1 := aaP zc
  refine ⟨fun h => ?_, fun h => ⟨⟨by omega, by omega, h1, by rw [Int.sub_mul]; omega⟩, wq⟩⟩
  obtain ⟨q', e1, e2, e3, e4⟩ := down h1 h
  exact ⟨q', ⟨e1, e2, e3⟩, by rw [wq, e4]⟩
 by_cases c1 : q ≥ 1000000000
 ·obtain ⟨d1, d2⟩ := stepdn zc zc
  by_cases c2 : r + v1 ≥ 1000000000
  ·right
   obtain ⟨q', e1, e2⟩ := d1 c2
   refine ⟨.inl (q', ()), ?_, q', e1.1, e1.2.1, e1.2.2, rfl⟩
   refine uT (zo c1) (uT (zo c2) ?_)
   repeat refine za ?_
   rw [aaI, e2]
  ·left
   obtain ⟨e1, e2⟩ := d2 c2
   refine ⟨(r + v1, q - 1, ()), ?_, e1, by dsimp only; omega⟩
   refine uT (zo c1) (uF (zn c2) ?_)
   repeat refine za ?_
   rw [aaI, e2]
 ·have hm := au2 (a := q) (b := v2) (B := 1000000000) ⟨by omega, by omega⟩ dv2
  have wm : abZ (q * abZ v2) = q * v2 := by rw [aaP (x := v2) zc, aaP zc]
  have wn : abZ (abZ (r * 1000000000) + abZ u2) = r * 1000000000 + u2 := by rw [aaP (x := r * 1000000000) zc, aaP (x := u2) zc, aaP zc]
  simp only [wm, wn]
  by_cases c3 : q * v2 > r * 1000000000 + u2
  ·have hdn := aTn (q := q) (r := r) (xu hVpos) hP g4 zc hUhi hQ1 zc c3
   obtain ⟨d1, d2⟩ := stepdn hdn zc
   by_cases c2 : r + v1 ≥ 1000000000
   ·right
    obtain ⟨q', e1, e2⟩ := d1 c2
    refine ⟨.inl (q', ()), ?_, q', e1.1, e1.2.1, e1.2.2, rfl⟩
    refine uF (zn c1) (uN ⟨by omega, by rw [aaB, hn]; omega⟩ (uN ⟨by omega, by omega⟩ (uT (zo c3) (uT (zo c2) ?_))))
    repeat refine za ?_
    rw [aaI, e2]
   ·left
    obtain ⟨e1, e2⟩ := d2 c2
    refine ⟨(r + v1, q - 1, ()), ?_, e1, by dsimp only; omega⟩
    refine uF (zn c1) (uN ⟨by omega, by rw [aaB, hn]; omega⟩ (uN ⟨by omega, by omega⟩ (uT (zo c3) (uF (zn c2) ?_))))
    repeat refine za ?_
    rw [aaI, e2]
  ·right
   have hdone := aLd (q := q) (r := r) hP g4 hVe s4 s5 hUlo zc zc hVB hQ2 zc
   refine ⟨.inl (q, ()), ?_, q, by omega, by omega, by omega, rfl⟩
   refine uF (zn c1) (uN ⟨by omega, by rw [aaB, hn]; omega⟩ (uN ⟨by omega, by omega⟩ (uF (zn c3) ?_)))
   repeat refine za ?_
   rfl
theorem aOI {b s t L : Nat} (hs : s * (t + 1) ≤ 1000000000) (hs1 : 1 ≤ s) (h1 : 1000000000 ^ L * t ≤ b) (h2 : b < 1000000000 ^ L * (t + 1)) (ht : 1 ≤ t) : (mag (b * s)).length = L + 1 := by
 have a1 : b * s < 1000000000 ^ (L + 1) := by
  have c1 : b * s < (1000000000 ^ L * (t + 1)) * s := Nat.mul_lt_mul_of_pos_right h2 zc
  have c2 : (1000000000 ^ L * (t + 1)) * s = 1000000000 ^ L * (s * (t + 1)) := by rw [wF, yN (t + 1)]
  have c3 : 1000000000 ^ L * (s * (t + 1)) ≤ 1000000000 ^ L * 1000000000 := yx _ hs
  rw [yC]; omega
 have a2 := mag_length_le_iff.2 a1
 have a3 : 1000000000 ^ L ≤ b * s := by
  have c1 : 1000000000 ^ L * 1 ≤ 1000000000 ^ L * t := yx _ ht
  have c2 : b * 1 ≤ b * s := yx _ hs1
  omega
 rcases zr L (mag (b * s)).length with h | h
 ·omega
 ·have := mag_length_le_iff.1 h; omega
theorem aQC (m o : List Int) (y : Int × Unit) (y4 : List Int × Unit) (v q u : List Int) (j n : Nat) (qq : Int) (X : (Int × List Int × List Int × Unit) ⊕ (List Int × List Int × Unit)) (hvd : Dg 1000000000 v) (g7 : Dg 1000000000 u) (lv : v.length = n + 2) (g6 : u.length = m.length + 1) (hN : m.length ≤ 1000000000000) (hj : j + n + 2 < u.length) (hvtop : 1 ≤ v.getD (n + 1) 0)
  (p4 : adK (fun i1 => (ahP m o y (v, ()) y4 ((j : Int), q, u, ()) i1).toO) ((u.getD (j + n + 2) 0 * 1000000000 + u.getD (j + n + 1) 0) % v.getD (n + 1) 0, (u.getD (j + n + 2) 0 * 1000000000 + u.getD (j + n + 1) 0) / v.getD (n + 1) 0, ()) = some (.inl (qq, ())))
  (r1 : adK (fun i1 => (ahO m o y (v, ()) y4 ((j : Int), q, u, ()) (qq, ()) i1).toO) (0, 0, 0, u, ()) = some X) : (ajL m o y (v, ()) y4 ((j : Int), q, u, ())).toO = some X := by
 have wlv : len v = ((n + 2 : Nat) : Int) := by rw [aaB, lv]
 have wa : w64 (w64 ((j : Int) + len v) + 1) = ((j + n + 2 + 1 : Nat) : Int) := by rw [wlv, aaA (x := (j : Int) + ((n + 2 : Nat) : Int)) zc, aaA zc]; omega
 have wb : ((((j + n + 2 + 1 : Nat) : Int).toNat - (j : Int).toNat : Nat) : Int) = ((n + 3 : Nat) : Int) := zc
 have wb1 : w64 (len v - 1) = ((n + 1 : Nat) : Int) := by rw [wlv, aaA zc]; omega
 have w2 : w64 (len m + 1) = ((m.length + 1 : Nat) : Int) := by rw [aaB, aaA zc]; omega
 have dv1 := aa5 zc hvd (n + 1)
 have du0 := aa5 zc g7 (j + n + 2)
 have du1 := aa5 zc g7 (j + n + 1)
 have hgi1 : abZ (gi v ((n + 1 : Nat) : Int) 0) = v.getD (n + 1) 0 := by rw [aaL, aaP zc]
 have wH : abZ (abZ (abZ (u.getD (j + (n + 2)) 0) * 1000000000) + abZ (u.getD (j + (n + 1)) 0)) = u.getD (j + n + 2) 0 * 1000000000 + u.getD (j + n + 1) 0 := by
  rw [show j + (n + 2) = j + n + 2 by omega, show j + (n + 1) = j + n + 1 by omega, aaP (x := u.getD (j + n + 2) 0) zc, aaP (x := u.getD (j + n + 2) 0 * 1000000000) zc, aaP (x := u.getD (j + n + 1) 0) zc, aaP zc]
 have hH0 : 0 ≤ u.getD (j + n + 2) 0 * 1000000000 + u.getD (j + n + 1) 0 := zc
 have tm := zF (b := v.getD (n + 1) 0) hH0
 have td := zL (b := v.getD (n + 1) 0) hH0
 have hdle : (u.getD (j + n + 2) 0 * 1000000000 + u.getD (j + n + 1) 0) / v.getD (n + 1) 0 ≤ u.getD (j + n + 2) 0 * 1000000000 + u.getD (j + n + 1) 0 := Int.ediv_le_self _ hH0
 have hdge : 0 ≤ (u.getD (j + n + 2) 0 * 1000000000 + u.getD (j + n + 1) 0) / v.getD (n + 1) 0 := xJ hH0 zc
 have wq : abZ ((u.getD (j + n + 2) 0 * 1000000000 + u.getD (j + n + 1) 0) / v.getD (n + 1) 0) = (u.getD (j + n + 2) 0 * 1000000000 + u.getD (j + n + 1) 0) / v.getD (n + 1) 0 := aaP zc
 simp only [ajL, wa, wb, wb1, hgi1, w2, zp, zv]
 have wlt : (len v).toNat = n + 2 := by rw [wlv]; omega
 simp only [wlt, wH, tm, td, wq]
 refine uT sd (uN ⟨by omega, by omega⟩ (uN ⟨by omega, by omega⟩ (uN ⟨by omega, by omega⟩ (uN ⟨by omega, by omega⟩ (uN ⟨by omega, by omega⟩ (uN zc (uN zc ?_)))))))
 refine uL (qq, ()) ?_ ?_
 ·refine uO ((u.getD (j + n + 2) 0 * 1000000000 + u.getD (j + n + 1) 0) % v.getD (n + 1) 0, (u.getD (j + n + 2) 0 * 1000000000 + u.getD (j + n + 1) 0) / v.getD (n + 1) 0, ()) ?_ p4
  repeat refine za ?_
  rfl
 ·unfold awX
  refine uO (0, 0, 0, u, ()) (by repeat refine za ?_; rfl) ?_
  exact r1
set_option maxHeartbeats 1000000 in
theorem asL (m o : List Int) (y) (h : abI (m, o, ()) = some y) : (amC m o).toO = some y := by
 obtain ⟨⟨a, b⟩, hp, hx, rfl⟩ := aaC h
 obtain ⟨rfl, hx2⟩ := Prod.mk.inj hx; obtain ⟨rfl, -⟩ := Prod.mk.inj hx2; dsimp only
 obtain ⟨la, lb, hb0⟩ := hp
 simp only at la lb hb0
 clear h hx hx2
 unfold amC
 have hcmp : aeM (mag a, mag b, ()) = some (aw3 a b, ()) := aaE (enc := fun p : Nat × Nat => (mag p.1, mag p.2, ())) (a, b) ⟨by dsimp only; omega, by dsimp only; omega⟩ (fun b hb => ad9 hb)
 refine uC _ hcmp ?_
 by_cases hab : a < b
 ·refine uT (zo (by unfold aw3; rw [if_pos zc]; show (-1 : Int) < 0; omega)) ?_
  rw [xd hab, yG hab, mag_zero]; rfl
 refine uF (zn (by unfold aw3; rw [if_neg zc]; split <;> decide)) ?_
 have hbl : 1 ≤ (mag b).length := by
  rcases zC (mag b).length with h5 | h5
  ·exact absurd (mag_nil_iff.1 (zV.1 h5)) hb0
  ·exact h5
 have hshort : ∀ x d : Nat, (mag x).length ≤ 1000000000000 → 0 < d → d < 4294967296 → alG (mag x, (d : Int), ()) = some (mag (x / d), ((x % d : Nat) : Int), ()) := by
  intro x d h1 h2 h3
  refine aaE (enc := fun p : Nat × Nat => (mag p.1, (p.2 : Int), ())) (x, d) ⟨h1, h2, h3⟩ (fun b hb => ?_)
  obtain ⟨e1, e2⟩ := Prod.mk.inj hb
  obtain ⟨e2, -⟩ := Prod.mk.inj e2
  exact Prod.ext (aeI e1) (Int.ofNat.inj e2)
 by_cases h1 : (mag b).length = 1
 ·refine uT sd (uN ⟨by simp [asT], by exact sn⟩ ?_)
  have hb1 : b < 1000000000 := by have := mag_length_le_iff.1 (vM h1); simpa using this
  have hg : gi (mag b) 0 0 = (b : Int) := by rw [asF hb0 hb1]; rfl
  rw [hg]
  refine uC _ (hshort a b zc zc zc) ?_
  have hm := yW a (show 0 < b by omega)
  generalize a % b = r at hm ⊢
  refine uC (mag r, ()) ?_ rfl
  dsimp only
  rw [aaP (x := (r : Int)) zc]
  unfold abY
  rw [if_pos zk]
  simp
 refine uF sd ?_
 obtain ⟨n, hnl⟩ : ∃ n, (mag b).length = n + 2 := ⟨(mag b).length - 2, by omega⟩
 have hml : n + 2 ≤ (mag a).length := by rw [← hnl]; exact ab1 zc
 obtain ⟨t, ht, t1, t2, t3, t4⟩ := aJk hb0
 have w1 : w64 (len (mag b) - 1) = ((n + 1 : Nat) : Int) := by rw [aaB, hnl, aaA zc]; omega
 rw [hnl, show n + 2 - 1 = n + 1 by omega] at ht t3 t4
 have hg : gi (mag b) ((n + 1 : Nat) : Int) 0 = (t : Int) := by rw [aaL, ht]
 have wt : aeU ((t : Int) + 1) = ((t + 1 : Nat) : Int) := by rw [aa1 zc]; omega
 obtain ⟨s, hs⟩ : ∃ s, s = 1000000000 / (t + 1) := ⟨_, rfl⟩
 have hs1 : 1 ≤ s := by rw [hs]; exact (wg zc).2 zc
 have hs2 : s * (t + 1) ≤ 1000000000 := by rw [hs]; exact Nat.div_mul_le_self _ _
 have hs3 : s < 1000000000 := by
  have : s * 2 ≤ s * (t + 1) := yx _ zc
  omega
 have ws : aeU (Int.tdiv 1000000000 ((t + 1 : Nat) : Int)) = (s : Int) := by
  have : Int.tdiv 1000000000 ((t + 1 : Nat) : Int) = (s : Int) := by
   rw [zL zc, hs]; rfl
  rw [this, aa1 zc]
 simp only [w1, hg, wt, ws]
 refine uN sd (uN zc ?_)
 have hms : mag s = [(s : Int)] := asF zc hs3
 have lv : (mag (b * s)).length = n + 2 := aOI hs2 hs1 t3 t4 t1
 have htimes : ∀ x : Nat, (mag x).length ≤ 1000000000000 → acU (mag x, [(s : Int)], ()) = some (mag (x * s), ()) := by
  intro x hx
  rw [← hms]
  exact aaE (enc := fun p : Nat × Nat => (mag p.1, mag p.2, ())) (x, s) ⟨hx, by rw [hms]; simp⟩ (fun b hb => ad9 hb)
 refine uC _ (htimes b zc) ?_
 have w2 : w64 (len (mag a) + 1) = (((mag a).length + 1 : Nat) : Int) := by rw [aaB, aaA zc]; omega
 obtain ⟨K, hK⟩ : ∃ K, (mag a).length = K + n + 2 := ⟨(mag a).length - (n + 2), by omega⟩
 have w3 : w64 (len (mag a) - len (mag (b * s))) = (K : Int) := by rw [aaB, aaB, lv, hK, aaA zc]; omega
 have w4 : w64 ((K : Int) + 1) = ((K + 1 : Nat) : Int) := by rw [aaA zc]; omega
 simp only [w2, w3, w4]
 refine uN zc ?_
 refine uC _ (htimes a zc) ?_
 refine uN zc ?_
 have las : (mag (a * s)).length ≤ (mag a).length + 1 := by
  have := ahA a s
  rw [hms] at this; simpa using this
 have htk : List.take (mag a).length.succ (mag (a * s)) = mag (a * s) := zy las
 -- the start
 have hu0d : Dg 1000000000 (over (List.replicate ((mag a).length + 1) 0) 0 (mag (a * s))) := by
  rw [auX las]; exact afH (ahY _) (ahF zc _)
 have hu0V : V 1000000000 (over (List.replicate ((mag a).length + 1) 0) 0 (mag (a * s))) = ((a * s : Nat) : Int) := by rw [aVQ las, aoK]
 have hu0l : (over (List.replicate ((mag a).length + 1) 0) 0 (mag (a * s))).length = (mag a).length + 1 := by rw [auX las]; simp; omega
 refine uO ((K : Int), List.replicate (K + 1) 0, over (List.replicate ((mag a).length + 1) 0) 0 (mag (a * s)), ()) ?_ ?_
 ·repeat refine za ?_
  simp only [zp, w4]
  rw [show List.take ((mag a).length + 1) (mag (a * s)) = mag (a * s) from htk]
  rfl
 generalize hu0 : over (List.replicate ((mag a).length + 1) 0) 0 (mag (a * s)) = u0 at *
 have hvd := ahY (b * s)
 have hvV := aoK (b * s)
 have hvpos : 0 < b * s := Nat.mul_pos zc zc
 have hvtop : 1 ≤ (mag (b * s)).getD (n + 1) 0 := by
  obtain ⟨t', e1, e2, -⟩ := aJk (n := b * s) zc
  rw [lv, show n + 2 - 1 = n + 1 by omega] at e1
  omega
 generalize hv : mag (b * s) = v at *
 have hdrop0 : V 1000000000 (u0.drop (K + 1)) < V 1000000000 v := by
  have e1 := acQ 1000000000 u0 (K + 1)
  have e2 := aaT zc (acO hu0d (K + 1))
  have e3 := aaT zc (acP hu0d (K + 1))
  rw [hu0V] at e1
  have a1 : a < 1000000000 ^ (K + 1) * b := by
   have c1 := mag_length_le_iff.1 (vM hK)
   have c2 : 1000000000 ^ (n + 1) ≤ b := by
    have : 1000000000 ^ (n + 1) * 1 ≤ 1000000000 ^ (n + 1) * t := yx _ t1
    omega
   have c3 : 1000000000 ^ (K + 1) * 1000000000 ^ (n + 1) ≤ 1000000000 ^ (K + 1) * b := yx _ c2
   rw [← xF, show K + 1 + (n + 1) = K + n + 2 by omega] at c3
   omega
  have a2 : a * s < (1000000000 ^ (K + 1) * b) * s := Nat.mul_lt_mul_of_pos_right a1 zc
  have a3 : ((a * s : Nat) : Int) < (((1000000000 ^ (K + 1) * b) * s : Nat) : Int) := Int.ofNat_lt.2 a2
  have a4 : ((((1000000000 ^ (K + 1) * b) * s : Nat)) : Int) = 1000000000 ^ (K + 1) * V 1000000000 v := by
   rw [hvV, wF, yg, wh]; rfl
  rw [a4] at a3
  have a5 : 1000000000 ^ (K + 1) * V 1000000000 (u0.drop (K + 1)) < 1000000000 ^ (K + 1) * V 1000000000 v := zc
  exact yU a5 (xu (yJ zc))
 refine aaK (fun i : Int × List Int × List Int × Unit => ∃ k : Nat, k ≤ K + 1 ∧ i.1 = (k : Int) - 1 ∧ i.2.1.length = K + 1 ∧ Dg 1000000000 i.2.1 ∧ (∀ p, p < k → i.2.1.getD p 0 = 0) ∧ i.2.2.1.length = (mag a).length + 1 ∧ Dg 1000000000 i.2.2.1 ∧ V 1000000000 (i.2.2.1.drop k) < V 1000000000 v ∧ ((a * s : Nat) : Int) = V 1000000000 i.2.1 * V 1000000000 v + V 1000000000 i.2.2.1) (fun i => (i.1 + 1).toNat) (fun _ => (mag (a / b), mag (a % b), ())) ?_ _ ⟨K + 1, zq _, by dsimp only; omega, by simp, ahF zc _, fun p _ => by simp [yp, List.getElem?_replicate]; split <;> rfl, hu0l, hu0d, hdrop0, by rw [avV, hu0V]; omega⟩
 rintro ⟨i, q, u, u6⟩ ⟨k, g1, g2, g3, g4, g5, g6, g7, g8, g9⟩
 dsimp only at g2 g3 g4 g5 g6 g7 g8 g9
 subst g2
 cases k with
 | zero =>
  right
  rw [yK] at g8
  obtain ⟨x, hx⟩ := zu (aaT zc g4)
  obtain ⟨r, hr⟩ := zu (aaT zc g7)
  rw [hx, hr, hvV] at g9
  rw [hr, hvV] at g8
  have h8 : a * s = x * (b * s) + r := by
   have : ((a * s : Nat) : Int) = ((x * (b * s) + r : Nat) : Int) := by rw [g9]; simp
   exact Int.ofNat.inj this
  have h9 : x = a / b := by
   have : a * s / (b * s) = x := by rw [h8, xe, wQ _ _ hvpos, xd zc, zv]
   rw [← this, Nat.mul_div_mul_right _ _ zc]
  have h10 : r = (a % b) * s := by
   have : a * s % (b * s) = r := by rw [h8, xe, wi, yG zc]
   rw [← this, Nat.mul_mod_mul_right]
  have hrl : (mag r).length ≤ n + 2 := by rw [← lv, ← hv]; exact ab1 zc
  have hVtake : V 1000000000 (u.take (n + 2)) = r := by
   have e1 := acQ 1000000000 u (n + 2)
   have e2 := aaT zc (acO g7 (n + 2))
   have e3 := aaT zc (acP g7 (n + 2))
   have e4 : V 1000000000 u < 1000000000 ^ (n + 2) := by
    have := aN1 zc hvd
    rw [lv] at this
    omega
   have e5 : V 1000000000 (u.drop (n + 2)) < 1 := by
    have : 1000000000 ^ (n + 2) * V 1000000000 (u.drop (n + 2)) < 1000000000 ^ (n + 2) * 1 := zc
    exact yU this (xu (yJ zc))
   have e6 : V 1000000000 (u.drop (n + 2)) = 0 := zc
   rw [e6, wD] at e1
   omega
  have wlv : len v = ((n + 2 : Nat) : Int) := by rw [aaB, lv]
  simp only [ajL, w1, hg, wt, ws, w2, w3, w4, wlv, zp]
  have wkk : w64 (w64 (len (mag a) - ((n + 2 : Nat) : Int)) + 1) = ((K + 1 : Nat) : Int) := by rw [← wlv, w3, w4]
  simp only [wkk, zp]
  refine uF sd (uN ⟨by omega, by omega⟩ ?_)
  have htr : ∀ (l : List Int) (z : Nat), Dg 1000000000 l → l.length ≤ 2000000000000 → V 1000000000 l = z → acZ (l, ()) = some (mag z, ()) := by
   intro l z h1 h2 h3
   unfold acZ
   rw [if_pos ⟨h1, h2⟩]
   simp only [h3, zp]
  refine uC _ (htr _ r (acO g7 _) (by rw [zO]; omega) hVtake) ?_
  refine uC _ (hshort r s zc zc zc) ?_
  have htq : List.take (K + 1) q = q := zy zc
  rw [htq]
  refine uC _ (htr q x g4 zc hx) ?_
  rw [aaI, h9, h10, wJ _ zc]
 | succ j =>
  left
  have e6 : ((j + 1 : Nat) : Int) - 1 = (j : Int) := zc
  rw [e6]
  have wlv : len v = ((n + 2 : Nat) : Int) := by rw [aaB, lv]
  have wa : w64 (w64 ((j : Int) + len v) + 1) = ((j + n + 2 + 1 : Nat) : Int) := by rw [wlv, aaA (x := (j : Int) + ((n + 2 : Nat) : Int)) zc, aaA zc]; omega
  have wb : ((((j + n + 2 + 1 : Nat) : Int).toNat - (j : Int).toNat : Nat) : Int) = ((n + 3 : Nat) : Int) := zc
  have wb1 : w64 (len v - 1) = ((n + 1 : Nat) : Int) := by rw [wlv, aaA zc]; omega
  have hvpos' : 0 < V 1000000000 v := by rw [hvV]; omega
  have du := aa5 zc g7 j
  have eU := aaU 1000000000 u j
  have hU0 := aaT zc (acP g7 j)
  have hUB : V 1000000000 (u.drop j) < V 1000000000 v * 1000000000 := zc
  have hvlt : V 1000000000 v < 1000000000 ^ (n + 2) := by have := aN1 zc hvd; rwa [lv] at this
  have hz : V 1000000000 (u.drop (j + n + 2 + 1)) = 0 := by
   have e1 := acQ 1000000000 (u.drop (j + 1)) (n + 2)
   rw [yc, show j + 1 + (n + 2) = j + n + 2 + 1 by omega] at e1
   have e2 := aaT zc (acO (acP g7 (j + 1)) (n + 2))
   have e3 := aaT zc (acP g7 (j + n + 2 + 1))
   have e5 : V 1000000000 (u.drop (j + n + 2 + 1)) < 1 := by
    have : 1000000000 ^ (n + 2) * V 1000000000 (u.drop (j + n + 2 + 1)) < 1000000000 ^ (n + 2) * 1 := zc
    exact yU this (xu (yJ zc))
   omega
  obtain ⟨Q, hQ⟩ : ∃ Q, Q = V 1000000000 (u.drop j) / V 1000000000 v := ⟨_, rfl⟩
  have hdm := yk (V 1000000000 (u.drop j)) (V 1000000000 v)
  have hr0 := yQ (V 1000000000 (u.drop j)) (show V 1000000000 v ≠ 0 by omega)
  have hr1 := yB (V 1000000000 (u.drop j)) hvpos'
  have hQ0 : 0 ≤ Q := by rw [hQ]; exact xJ hU0 zc
  rw [← hQ, yM] at hdm
  have hQB : Q < 1000000000 := by
   have : Q * V 1000000000 v < 1000000000 * V 1000000000 v := zc
   exact yf this zc
  obtain ⟨qq, p1, p2, p3, p4⟩ := aQB (mag a) (mag b) (aw3 a b, ()) (mag (a * s), ()) v q u j n (V 1000000000 (u.drop j)) Q hvd lv zc zc g7 hz rfl hUB zc (by rw [wY]; omega) hQ0 hvtop
  obtain ⟨u', r1, r2, r3, r4, r5⟩ := aQA (mag a) (mag b) (aw3 a b, ()) (mag (a * s), ()) v q u j (n + 2) qq Q hvd lv zc zc g7 ⟨p2, p3⟩ (by rw [w3, w4]; exact ⟨by omega, by omega⟩) hz p1 zc zc hQ0
  have k1 : j ≤ K + 1 := Nat.le_of_succ_le g1
  have k3 : (q.set j Q).length = K + 1 := by rw [yY]; exact g3
  have k4 := aj4 g4 ⟨hQ0, hQB⟩ j
  have k6 : u'.length = (mag a).length + 1 := by rw [r2]; exact g6
  have k8 : V 1000000000 (u'.drop j) < V 1000000000 v := by rw [r5]; omega
  have k9 : ((j : Int) - 1 + 1).toNat < ((j : Int) + 1).toNat := zc
  refine ⟨((j : Int) - 1, q.set j Q, u', ()), ?_, ⟨j, k1, rfl, k3, k4, ?_, k6, r3, k8, ?_⟩, k9, ze⟩
  ·exact aQC (mag a) (mag b) (aw3 a b, ()) (mag (a * s), ()) v q u j n qq _ hvd g7 lv g6 zc zc hvtop p4 r1
  ·intro p hp
   dsimp only
   rw [aq3 _ zc]
   exact g5 p zc
  ·dsimp only
   rw [aA0 _ zc, g5 j zc, r4, g9]
   grind
theorem aLE (n o : SgT) (y) (h : aA1 (n, o, ()) = some y) : (anC n o).toO = some y := by
 obtain ⟨⟨a, b⟩, hp, hx, rfl⟩ := aaC h
 obtain ⟨rfl, hx2⟩ := Prod.mk.inj hx; obtain ⟨rfl, -⟩ := Prod.mk.inj hx2; dsimp only
 obtain ⟨l1, l2⟩ := hp
 simp only at l1 l2
 unfold anC
 dsimp only
 refine uC _ (aE8 (aaF l2 zc)) ?_
 refine uC (sg (a + -b), ()) (aTF l1 (by rw [xA]; exact l2)) ?_
 rw [← Int.sub_eq_add_neg]; rfl
theorem aUf {a b : Int} : a * b = 0 ∨ (!(decide (a < 0) == decide (b < 0))) = decide (a * b < 0) := by
 rcases xn a 0 with ha | ha | ha
 ·rcases xn b 0 with hb | hb | hb
  ·right
   have := wu ha hb
   rw [zo ha, zo hb, zn zc]; rfl
  ·left; rw [hb, wD]
  ·right
   have := wj ha hb
   rw [zo ha, zn zc, zo this]; rfl
 ·left; rw [ha, Int.zero_mul]
 ·rcases xn b 0 with hb | hb | hb
  ·right
   have := wo ha hb
   rw [zn zc, zo hb, zo this]; rfl
  ·left; rw [hb, wD]
  ·right
   have := vC ha hb
   rw [zn zc, zn zc, zn zc]; rfl
theorem aBo (n o : SgT) (y) (h : ajT (n, o, ()) = some y) : (anB n o).toO = some y := by
 obtain ⟨⟨a, b⟩, hp, hx, rfl⟩ := aaC h
 obtain ⟨rfl, hx2⟩ := Prod.mk.inj hx; obtain ⟨rfl, -⟩ := Prod.mk.inj hx2; dsimp only
 obtain ⟨l1, l2⟩ := hp
 simp only at l1 l2
 unfold anB
 dsimp only
 refine uC _ (av5 (aaF l1 zc) (aaF l2 zc)) ?_
 exact uC (sg (a * b), ()) (aDh (by rw [yF]) aUf) rfl
def aAk (l : List Int) (j : Nat) : Bool := (List.range j).any (fun i => decide (l.getD (i + 1) 0 < l.getD i 0))
def auF (l : List Int) (j : Nat) : Bool := (List.range j).any (fun i => decide (l.getD (i + 1) 0 > l.getD i 0))
theorem aHa (l : List Int) (j : Nat) : aAk l (j + 1) = (aAk l j || decide (l.getD (j + 1) 0 < l.getD j 0)) := by
 unfold aAk; rw [vU, List.any_append]; simp
theorem aFA (l : List Int) (j : Nat) : auF l (j + 1) = (auF l j || decide (l.getD (j + 1) 0 > l.getD j 0)) := by
 unfold auF; rw [vU, List.any_append]; simp
theorem aL0 {c : CvT} (h : abJ c) : c.2.1.length ≤ 17 ∧ (c.1 = 3 → 1 ≤ c.2.2.1.length ∧ c.2.2.1.length ≤ 4) := by
 rcases h with ⟨h1, h2, h3⟩ | ⟨h1, h2, h3⟩ | ⟨h1, h2, h3⟩
 ·rw [h2]; exact ⟨by simp, fun h => by omega⟩
 ·exact ⟨h2.2.1, fun h => by omega⟩
 ·rw [h2]; exact ⟨by simp, fun _ => ⟨h3.1, h3.2.1⟩⟩
theorem aJ4 (c : CvT) (y) (h : aoT (c, ()) = some y) : (aAK c).toO = some y := by
 injection h with h
 subst h
 obtain ⟨kind, tab, l, u0⟩ := c
 unfold aAK
 dsimp only
 refine uC _ (aBk (kind, tab, l, ())) ?_
 by_cases hr : abJ (kind, tab, l, ())
 case neg =>
  have hr' : ¬ abJ (kind, tab, l, u0) := hr
  rw [if_neg hr']
  rw [if_neg hr]
  exact uT rfl rfl
 have hr' : abJ (kind, tab, l, u0) := hr
 rw [if_pos hr']
 rw [if_pos hr]
 obtain ⟨hl1, hl2⟩ := aL0 hr
 dsimp only at hl1 hl2
 refine uF rfl (uO (1, false, false, ()) rfl ?_)
 refine aaK (fun i : Int × Bool × Bool × Unit => ∃ j : Nat, j ≤ tab.length - 1 ∧ i.1 = (j : Int) + 1 ∧ i.2.1 = aAk tab j ∧ i.2.2.1 = auF tab j) (fun i => ((tab.length : Int) - i.1).toNat) (fun _ => (aOv (kind, tab, l, u0), 0, ())) ?_ _ ⟨0, by omega, rfl, rfl, rfl⟩
 rintro ⟨i, dn, up, u⟩ ⟨j, h1, h2, h3, h4⟩
 dsimp only at h2 h3 h4
 subst h2
 simp only [aC8]
 have hw1 : w64 ((j : Int) + 1 + 1) = (((j + 1 : Nat) : Int)) + 1 := by rw [aaA zc]; omega
 have hw2 : w64 ((j : Int) + 1 - 1) = (j : Int) := by rw [aaA zc]; omega
 have hj1 : (j : Int) + 1 = ((j + 1 : Nat) : Int) := rfl
 rcases zr (j + 1) tab.length with hk | hk
 ·left
  refine ⟨((((j + 1 : Nat) : Int)) + 1, aAk tab (j + 1), auF tab (j + 1), ()), ?_, ⟨j + 1, by omega, rfl, rfl, rfl⟩, by dsimp only; omega, ze⟩
  refine uT sd ?_
  rw [hw1, hw2, hj1, aHa, aFA, ← h3, ← h4]
  simp only [aaL]
  cases up
  ·refine uF rfl (uN ⟨by exact sn, by exact sn⟩ (uN ⟨by exact sn, by exact sn⟩ ?_))
   cases dn
   ·exact uF rfl (uN ⟨by exact sn, by exact sn⟩ (uN ⟨by exact sn, by exact sn⟩ rfl))
   ·exact uT rfl rfl
  ·refine uT rfl ?_
   cases dn
   ·exact uF rfl (uN ⟨by exact sn, by exact sn⟩ (uN ⟨by exact sn, by exact sn⟩ rfl))
   ·exact uT rfl rfl
 ·right
  refine uF sd ?_
  have hj : j = tab.length - 1 := zc
  subst hj
  have h3' : dn = aUQ tab := h3
  have h4' : up = auF tab (tab.length - 1) := h4
  unfold aOv
  dsimp only
  by_cases k3 : kind = 3
  ·obtain ⟨g1, g2⟩ := hl2 k3
   rw [if_pos k3]
   subst k3
   refine uT rfl (uN ⟨by exact sn, by exact sn⟩ ?_)
   have hg : gi l 0 zs = l.getD 0 zs := aaL l 0 zs
   rw [hg]
   by_cases g3 : l.length > 1
   ·have e1 : (!decide (len l > 1)) = false := by rw [zo (by rw [aaB]; omega)]; rfl
    rw [if_pos g3, e1]
    by_cases g4 : (l.getD 0 zs).2.1 < 0
    ·exact uT (zo g4) (uF rfl rfl)
    ·exact uF (zn g4) (uF rfl (uF rfl rfl))
   ·have e1 : (!decide (len l > 1)) = true := by rw [zn (by rw [aaB]; omega)]; rfl
    rw [if_neg g3, e1]
    by_cases g4 : (l.getD 0 zs).2.1 < 0
    ·rw [if_pos g4]; exact uT (zo g4) (uT rfl rfl)
    ·rw [if_neg g4]; exact uF (zn g4) (uT rfl rfl)
  ·rw [if_neg k3]
   have h5 : up = aUh tab := h4'
   refine uF (beq_eq_false_iff_ne.2 k3) ?_
   rw [h3', h5]
   cases aUQ tab
   ·exact uT rfl rfl
   ·refine uF rfl ?_
    cases aUh tab
    ·exact uT rfl rfl
    ·exact uF rfl rfl
set_option maxRecDepth 100000
open Go Go.Vg Go.Proofs
noncomputable section
def aIs : LTab := []
def aqO (n : Int) (low : Int) (high : Int) : TT uP :=
 .ite (decide (n ≥ low))
 (.ok ((decide (n ≤ high), ())))
 (.ok ((false, ())))
def aIA : LTab := [(126, 26, 2048, ⟨0, (Int) × Unit, .dat (.s 5) uq <| .nil, [0, 1], [], 0⟩)]
def awG (a : Int) (b : Int) (i : (Int) × Unit) : TT tX :=
 .ite (decide (i.1 ≤ a))
 (.ite (decide (i.1 ≤ b))
 (.need (i.1 ≠ 0) <| .ite (Int.tmod a i.1 == 0)
 (.need (i.1 ≠ 0) <| .ite (Int.tmod b i.1 == 0)
 (.ok (.inr ((true, ()))))
 (.tt <| .lt (w64 (i.1 + 1) : Int) fun z => .vW (vZ z a b) <| .tr <| .ok (.inl ((z, ())))))
 (.tt <| .lt (w64 (i.1 + 1) : Int) fun z1 => .vW (vZ z1 a b) <| .tr <| .ok (.inl ((z1, ())))))
 (.ok (.inr ((false, ())))))
 (.ok (.inr ((false, ()))))
def aqP (a : Int) (b : Int) : TT uP :=
 .loop 0 (.tt <| .vW (vZ (2 : Int) a b) <| .tr <| .ok ((2, ()))) (awG a b)
def aFG : LTab := []
def anM (s : Int × Int × Int × Int × Int × Int × Unit) : TT uP :=
 .call (acL (s.2.1, -100000000, 100000000, ())) Dd1 fun y =>
 .ite (y.1)
 (.call (acL (s.2.2.1, -100000000, 100000000, ())) Dd1 fun y1 =>
 .ite (y1.1)
 (.call (acL (s.2.2.2.2.2.1, -100000000, 100000000, ())) Dd1 fun y2 =>
 .ite (y2.1)
 (.call (acL (s.2.2.2.1, 1, 36, ())) Dd1 fun y3 =>
 .ite (y3.1)
 (.call (acL (s.2.2.2.2.1, 1, 12, ())) Dd1 fun y4 =>
 .ite (y4.1)
 (.call (abH (s.2.2.2.1, s.2.2.2.2.1, ())) Dd1 fun y5 =>
 .ok ((!y5.1, ())))
 (.ok ((false, ()))))
 (.ok ((false, ()))))
 (.ok ((false, ()))))
 (.ok ((false, ()))))
 (.ok ((false, ())))
def aL2 : LTab := [(49, 3442, 9216, ⟨0, (Int) × Unit, .dat (.s 3) uq <| .nil, [8, 1], [0], 0⟩), (49, 27626, 12288, ⟨1, (Int) × (Int) × Unit, .dat (.s 5) uq <| .dat (.s 4) uq <| .nil, [1], [0], 0⟩)]
def ayY (c : Int × List Int × List uo × Unit) (i : (Int) × Unit) : TT tX :=
 .ite (decide (i.1 < len c.2.1))
 (.need (inb i.1 (len c.2.1)) <| .call (acL (gi c.2.1 i.1 0, 0, 65535, ())) Dd1 fun y =>
 .ite (!y.1)
 (.ok (.inr ((false, ()))))
 (.tt <| .lt (w64 (i.1 + 1) : Int) fun z => .vW (ud z c.1 <| ux ∧ True) <| .vW (vV (vY 42 c.1 c.2.1 c.2.2.1) True) <| .ok (.inl ((z, ())))))
 (.call (acL (len c.2.1, 2, 17, ())) Dd1 fun y1 =>
 .ite (y1.1)
 (.ok (.inr ((len c.2.2.1 == 0, ()))))
 (.ok (.inr ((false, ())))))
def ayX (c : Int × List Int × List uo × Unit) (i1 : (Int) × (Int) × Unit) : TT (uQ ⊕ uP) :=
 .ite (decide (i1.1 < len c.2.2.1))
 (.need (inb i1.1 (len c.2.2.1)) <| .call (ajV (((gi c.2.2.1 i1.1 (0, 0, 0, 0, 0, 0, ())).1, (gi c.2.2.1 i1.1 (0, 0, 0, 0, 0, 0, ())).2.1, (gi c.2.2.1 i1.1 (0, 0, 0, 0, 0, 0, ())).2.2.1, (gi c.2.2.1 i1.1 (0, 0, 0, 0, 0, 0, ())).2.2.2.1, (gi c.2.2.1 i1.1 (0, 0, 0, 0, 0, 0, ())).2.2.2.2.1, (gi c.2.2.1 i1.1 (0, 0, 0, 0, 0, 0, ())).2.2.2.2.2.1, ()), ())) Dd1 fun y2 =>
 .ite (!y2.1)
 (.ok (.inr ((false, ()))))
 (.ite (decide ((gi c.2.2.1 i1.1 (0, 0, 0, 0, 0, 0, ())).1 ≤ i1.2.1))
 (.ok (.inr ((false, ()))))
 (.tt <| .lt (w64 (i1.1 + 1) : Int) fun z1 => .lt ((gi c.2.2.1 i1.1 (0, 0, 0, 0, 0, 0, ())).1 : Int) fun z2 => .vW (ud z2 z1 <| ux ∧ True) <| .vW (vV (vY 42 c.1 c.2.1 c.2.2.1) True) <| .ok (.inl ((z1, z2, ()))))))
 (.call (acL (len c.2.2.1, 1, 4, ())) Dd1 fun y3 =>
 .ite (y3.1)
 (.ite (i1.2.1 == 1000000)
 (.ok (.inr ((len c.2.1 == 0, ()))))
 (.ok (.inr ((false, ())))))
 (.ok (.inr ((false, ())))))
def auI (c : Int × List Int × List uo × Unit) : TT uP :=
 .ite (c.1 == 1)
 (.ite (len c.2.1 == 0)
 (.ok ((len c.2.2.1 == 0, ())))
 (.ok ((false, ()))))
 (.ite (c.1 == 2)
 (.loop 0 (.tt <| .vW (ud (0 : Int) c.1 <| ux ∧ True) <| .vW (vV (vY 42 c.1 c.2.1 c.2.2.1) True) <| .ok ((0, ()))) (ayY c))
 (.ite (c.1 == 3)
 (.loop 1 (.tt <| .vW (ud (0 : Int) (0 : Int) <| ux ∧ True) <| .vW (vV (vY 42 c.1 c.2.1 c.2.2.1) True) <| .ok ((0, 0, ()))) (ayX c))
 (.ok ((false, ())))))
def aUj : LTab := []
def aO0 (n : Int) (d : Int) : TT sA :=
 .call (arJ (n, d, ())) adZ fun y =>
 .ok (((y.1.1, y.1.2.1, ()), ()))
def aFK : LTab := []
def anR (x : List UInt8 × List UInt8 × Unit) : TT sA :=
 .call (abT (0, 1, ())) ac5 fun y =>
 .call (abT (1, 1, ())) ac5 fun y1 =>
 .call (apV ((x.1, x.2.1, ()), y.1, y1.1, ())) adZ fun y2 =>
 .ok (((y2.1.1, y2.1.2.1, ()), ()))
def aO2 : LTab := []
def ayT (a : List UInt8 × List UInt8 × Unit) (b : List UInt8 × List UInt8 × Unit) : TT uP :=
 .call (atF ((a.1, a.2.1, ()), (b.1, b.2.1, ()), ())) aDr fun y =>
 .ok ((decide (y.1 < 0), ()))
def aOW : LTab := []
def ayO (b : Int × Int × Unit) : TT sC :=
 .ok (((if 1000000000000 < if 0 > b.1 then 0 else b.1 then 1000000000000 else if 0 > b.1 then 0 else b.1, if 1000000000000 < if 0 > b.2.1 then 0 else b.2.1 then 1000000000000 else if 0 > b.2.1 then 0 else b.2.1, ()), ()))
def aIC : LTab := []
def aqQ (x : List UInt8 × List UInt8 × Unit) : TT sC :=
 .call (ai1 ((x.1, x.2.1, ()), ())) am9 fun y =>
 .ok (((y.1.1, y.1.2.1, ()), ()))
def aO3 : LTab := []
def ayU (a : Int × Int × Unit) (b : Int × Int × Unit) : TT sC :=
 .ok (((if b.1 < a.1 then b.1 else a.1, if b.2.1 > a.2.1 then b.2.1 else a.2.1, ()), ()))
end
end Go.Vs
