/-
  Trees of what the functions compute, and their laws. Own work; no condition.
-/
import Derived.Test.YtakjojajnblpoaaGreatDoorClL4
import Derived.Test.YtakjojajnblpoaaGreatDoorProg
set_option linter.unusedVariables false
set_option linter.unusedSimpArgs false
namespace Go.Vs
open Go Go.Vg
theorem ao1 {k n : Nat} (h : Bd k n) (hk : k ≤ 8) : (dig n).length ≤ 1000000000000 := zC (ax9 h hk) zc
theorem ayZ {z : Int} (h : Bd 8 z.natAbs) : ajV (pl z, ()) = some (pl (-z), ()) := aaI (enc := fun x : Int => (pl x, ())) z h (fun b hb => awB (Prod.mk.inj hb).1)
theorem aFR (x : PlT) (y) (h : ajV (x, ()) = some y) : (aDB x).toO = some y := by
 obtain ⟨z, hp, hx, rfl⟩ := aaD h
 obtain ⟨rfl, -⟩ := Prod.mk.inj hx
 refine uC (pl (-z), ()) (agB (ao1 hp zc) zc ?_) rfl
 by_cases h0 : z = 0
 ·left; omega
 ·right
  show (!decide (z < 0)) = decide (-z < 0)
  by_cases h1 : z < 0
  ·rw [zo h1, zn zc]; rfl
  ·rw [zn h1, zo zc]; rfl
theorem aP1 {a b : Nat} (h1 : (dig a).length ≤ 1000000000000) (h2 : (dig b).length ≤ 1000000000000) : avB (dig a, dig b, ()) = some (dig (a + b), ()) := aaI (enc := fun p : Nat × Nat => (dig p.1, dig p.2, ())) (a, b) ⟨h1, h2⟩ (fun b hb => aAP hb)
theorem aBd {a b : Nat} (h1 : (dig a).length ≤ 1000000000000) (h : b ≤ a) : abA (dig a, dig b, ()) = some (dig (a - b), ()) := amM (adG a) (adG b) h1 (ab5 h) (by rw [ahX, ahX]; omega) (by rw [ahX, ahX]; omega)
theorem aKD {a b : Nat} (h1 : (dig a).length ≤ 400000000000) (h2 : (dig b).length ≤ 400000000000) : abT (dig a, dig b, ()) = some (dig (a * b), ()) := amL (adG a) (Or.inl (adG b)) h1 h2 (by rw [ahX, ahX]; simp)
theorem arD {a b : Int} (h1 : Bd 7 a.natAbs) (h2 : Bd 7 b.natAbs) : agS (pl a, pl b, ()) = some (pl (a + b), ()) := aaI (enc := fun p : Int × Int => (pl p.1, pl p.2, ())) (a, b) ⟨h1, h2⟩ (fun b hb => akE hb)
theorem aFU (x x' : PlT) (y) (h : agS (x, x', ()) = some y) : (av9 x x').toO = some y := by
 obtain ⟨⟨a, b⟩, hp, hx, rfl⟩ := aaD h
 obtain ⟨rfl, hx2⟩ := Prod.mk.inj hx; obtain ⟨rfl, -⟩ := Prod.mk.inj hx2; dsimp only
 obtain ⟨l1, l2⟩ := hp
 simp only at l1 l2
 have d1 := ao1 l1 zc
 have d2 := ao1 l2 zc
 have d3 := ao1 (aaZ l1 l2) zc
 unfold av9
 dsimp only
 by_cases hs : (decide (a < 0) == decide (b < 0)) = true
 ·refine uT hs ?_
  have hs' : (a < 0 ↔ b < 0) := by simpa using hs
  refine uC _ (aP1 d1 d2) ?_
  refine uC (pl (a + b), ()) (agB d3 zc (Or.inr (decide_eq_decide.2 zc))) rfl
 ·have hs' : ¬ (a < 0 ↔ b < 0) := by simpa using hs
  refine uF (by simpa using hs) ?_
  refine uC _ (atC _ _ (adG _) (adG _) d1 d2) ?_
  obtain ⟨o1, o2⟩ := aHN a.natAbs b.natAbs
  by_cases hc : a.natAbs < b.natAbs
  ·refine uF (zn (by have := o1.2 hc; dsimp only; omega)) ?_
   refine uC _ (aBd d2 zc) ?_
   have d4 : (dig (b.natAbs - a.natAbs)).length ≤ 1000000000000 := zC (ab5 (Nat.sub_le _ _)) d2
   refine uC (pl (a + b), ()) (agB d4 zc (Or.inr (decide_eq_decide.2 zc))) rfl
  ·refine uT (zo (by
    rcases zO (aQe (dig a.natAbs) (dig b.natAbs)) 0 with h | h
    ·exact absurd (o1.1 h) hc
    ·exact h)) ?_
   refine uC _ (aBd d1 zc) ?_
   have d4 : (dig (a.natAbs - b.natAbs)).length ≤ 1000000000000 := zC (ab5 (Nat.sub_le _ _)) d1
   refine uC (pl (a + b), ()) (agB d4 zc ?_) rfl
   by_cases h0 : a + b = 0
   ·exact Or.inl h0
   ·exact Or.inr (decide_eq_decide.2 zc)
theorem aBf {a b : Int} (h1 : Bd 7 a.natAbs) (h2 : Bd 7 b.natAbs) : ajW (pl a, pl b, ()) = some (pl (a - b), ()) := aaI (enc := fun p : Int × Int => (pl p.1, pl p.2, ())) (a, b) ⟨h1, h2⟩ (fun b hb => akE hb)
theorem aDH (x x' : PlT) (y) (h : ajW (x, x', ()) = some y) : (aAg x x').toO = some y := by
 obtain ⟨⟨a, b⟩, hp, hx, rfl⟩ := aaD h
 obtain ⟨rfl, hx2⟩ := Prod.mk.inj hx; obtain ⟨rfl, -⟩ := Prod.mk.inj hx2; dsimp only
 obtain ⟨l1, l2⟩ := hp
 refine uC _ (ayZ (aaH l2 zc)) (uC _ (arD l1 (aaV l2)) ?_)
 rw [Int.sub_eq_add_neg]; rfl
theorem aPj {a b : Int} : a * b = 0 ∨ (!(decide (a < 0) == decide (b < 0))) = decide (a * b < 0) := by
 by_cases hz : a * b = 0
 ·exact Or.inl hz
 ·right
  have z1 : a ≠ 0 := fun h => hz (by rw [h]; simp)
  have z2 : b ≠ 0 := fun h => hz (by rw [h]; simp)
  rcases zO a 0 with c1 | c1 <;> rcases zO b 0 with c2 | c2
  ·have := wo c1 c2
   rw [zo c1, zo c2, zn zc]; rfl
  ·have := wi c1 (show 0 < b by omega)
   rw [zo c1, zn zc, zo zc]; rfl
  ·have := wj (show 0 < a by omega) c2
   rw [zn zc, zo c2, zo zc]; rfl
  ·have := vB (show 0 < a by omega) (show 0 < b by omega)
   rw [zn zc, zn zc, zn zc]; rfl
theorem aj6 {a b : Int} (h1 : Bd 7 a.natAbs) (h2 : Bd 7 b.natAbs) : aeX (pl a, pl b, ()) = some (pl (a * b), ()) := aaI (enc := fun p : Int × Int => (pl p.1, pl p.2, ())) (a, b) ⟨h1, h2⟩ (fun b hb => akE hb)
theorem aDC (x x' : PlT) (y) (h : aeX (x, x', ()) = some y) : (aAd x x').toO = some y := by
 obtain ⟨⟨a, b⟩, hp, hx, rfl⟩ := aaD h
 obtain ⟨rfl, hx2⟩ := Prod.mk.inj hx; obtain ⟨rfl, -⟩ := Prod.mk.inj hx2; dsimp only
 obtain ⟨l1, l2⟩ := hp
 simp only at l1 l2
 have d1 := ax9 l1 zc
 have d2 := ax9 l2 zc
 refine uC _ (aKD (zC d1 zc) (zC d2 zc)) ?_
 refine uC (pl (a * b), ()) (agB (ao1 (aaW l1 l2) zc) (by rw [yy]) aPj) rfl
theorem aKE {a b : Int} (h1 : Bd 7 a.natAbs) (h2 : Bd 7 b.natAbs) : anH (pl a, pl b, ()) = some ((a - b).sign, ()) := aaI (enc := fun p : Int × Int => (pl p.1, pl p.2, ())) (a, b) ⟨h1, h2⟩ (fun b hb => akE hb)
theorem aDG (x x' : PlT) (y) (h : anH (x, x', ()) = some y) : (aAf x x').toO = some y := by
 obtain ⟨⟨a, b⟩, hp, hx, rfl⟩ := aaD h
 obtain ⟨rfl, hx2⟩ := Prod.mk.inj hx; obtain ⟨rfl, -⟩ := Prod.mk.inj hx2; dsimp only
 obtain ⟨l1, l2⟩ := hp
 refine uC _ (aBf l1 l2) ?_
 dsimp only
 rcases xm (a - b) 0 with c | c | c
 ·rw [xg c]
  exact uT (zo c) rfl
 ·rw [c]
  exact uF rfl (uF (zn (by show ¬ (len (dig (Int.natAbs 0)) > 0); rw [vN, dig_zero]; decide)) rfl)
 ·rw [xw c]
  refine uF sd (uT (zo ?_) rfl)
  rw [aaC]
  rcases zE (dig (a - b).natAbs).length with h | h
  ·have := dig_nil_iff.1 (zV.1 h); omega
  ·omega
theorem aBc {a b : Nat} (h1 : (dig a).length ≤ 200000000000) (h2 : (dig b).length ≤ 200000000000) (h3 : b ≠ 0) : ajU (dig a, dig b, ()) = some (dig (a / b), dig (a % b), ()) := aaI (enc := fun p : Nat × Nat => (dig p.1, dig p.2, ())) (a, b) ⟨h1, h2, h3⟩ (fun b hb => aAP hb)
theorem amN {a b : Int} (h1 : Bd 8 a.natAbs) (h2 : Bd 8 b.natAbs) : aeY (pl a, pl b, ()) = some (pl (Nat.gcd a.natAbs b.natAbs), ()) := aaI (enc := fun p : Int × Int => (pl p.1, pl p.2, ())) (a, b) ⟨h1, h2⟩ (fun b hb => akE hb)
theorem azH (x x' : PlT) (y) (h : aeY (x, x', ()) = some y) : (atM x x').toO = some y := by
 obtain ⟨⟨a, b⟩, hp, hx, rfl⟩ := aaD h
 obtain ⟨rfl, hx2⟩ := Prod.mk.inj hx; obtain ⟨rfl, -⟩ := Prod.mk.inj hx2; dsimp only
 obtain ⟨l1, l2⟩ := hp
 dsimp only at l1 l2
 have d1 := ax9 l1 zc
 have d2 := ax9 l2 zc
 refine uO (dig b.natAbs, dig a.natAbs, ()) rfl ?_
 have hres : (pl ((Nat.gcd a.natAbs b.natAbs : Nat) : Int), ()) = ((false, dig (Nat.gcd a.natAbs b.natAbs), ()), ()) := by
  unfold pl
  rw [zn zc, zM]
 rw [hres]
 refine aaO (fun i : List Int × List Int × Unit => ∃ p q : Nat, i = (dig q, dig p, ()) ∧ (dig p).length ≤ 200000000000 ∧ (dig q).length ≤ 200000000000 ∧ Nat.gcd p q = Nat.gcd a.natAbs b.natAbs) (fun i => (V 10000 i.1).toNat) (fun _ => ((false, dig (Nat.gcd a.natAbs b.natAbs), ()), ())) ?_ _ ⟨a.natAbs, b.natAbs, rfl, d1, d2, rfl⟩
 rintro i ⟨p, q, rfl, lp, lq, hg⟩
 unfold apI
 dsimp only
 by_cases hq : q = 0
 ·right
  subst hq
  refine uF (by rw [dig_zero]; rfl) ?_
  rw [← hg, Nat.gcd_zero_right]; rfl
 ·left
  have hql : 1 ≤ (dig q).length := by
   rcases zE (dig q).length with h5 | h5
   ·exact absurd (dig_nil_iff.1 (zV.1 h5)) hq
   ·exact h5
  refine ⟨(dig (p % q), dig q, ()), ?_, ⟨q, p % q, rfl, lq, ?_, ?_⟩, ?_, ze⟩
  ·refine uT sd (uC _ (aBc lp lq hq) ?_)
   repeat refine za ?_
   rfl
  ·exact zC (ab5 (vt (yX p (show 0 < q by omega)))) lq
  ·rw [← hg, xI p q, Nat.gcd_rec q p, xI]
  ·simp only [ahX, zp]
   exact yX p zc
theorem anM {a b : Int} (h1 : Bd 6 a.natAbs) (h2 : Bd 6 b.natAbs) (h3 : b ≠ 0) : af3 (pl a, pl b, ()) = some (pl (a / b), pl (a % b), ()) := aaI (enc := fun p : Int × Int => (pl p.1, pl p.2, ())) (a, b) ⟨h1, h2, h3⟩ (fun b hb => akE hb)
theorem aSm {a b : Int} (hb : b ≠ 0) : ∃ q r : Int, q.natAbs = a.natAbs / b.natAbs ∧ r.natAbs = a.natAbs % b.natAbs ∧ (q = 0 ∨ (!(decide (a < 0) == decide (b < 0))) = decide (q < 0)) ∧ (r = 0 ∨ decide (a < 0) = decide (r < 0)) ∧ (r < 0 → a / b = (if b < 0 then q + 1 else q - 1) ∧ a % b = r + b.natAbs) ∧ (¬ r < 0 → a / b = q ∧ a % b = r) := by
 refine ⟨Int.tdiv a b, Int.tmod a b, Int.natAbs_tdiv a b, vR a b, ?_, ?_, ?_, ?_⟩
 ·by_cases hz : Int.tdiv a b = 0
  ·exact Or.inl hz
  ·right
   rcases zO a 0 with c1 | c1 <;> rcases zO b 0 with c2 | c2
   ·have : 0 ≤ Int.tdiv a b := by
     rw [← Int.neg_tdiv_neg]; exact xT zc zc
    rw [zo c1, zo c2, zn zc]; rfl
   ·have : Int.tdiv a b ≤ 0 := by
     have := xT (a := -a) (b := b) zc c2
     rw [Int.neg_tdiv] at this; omega
    rw [zo c1, zn zc, zo zc]; rfl
   ·have : Int.tdiv a b ≤ 0 := by
     have := xT (a := a) (b := -b) c1 zc
     rw [Int.tdiv_neg] at this; omega
    rw [zn zc, zo c2, zo zc]; rfl
   ·have := xT c1 c2
    rw [zn zc, zn zc, zn zc]; rfl
 ·by_cases hz : Int.tmod a b = 0
  ·exact Or.inl hz
  ·right
   refine decide_eq_decide.2 ?_
   rcases zO a 0 with c1 | c1
   ·have : Int.tmod a b ≤ 0 := by
     have := wF (a := -a) b zc
     rw [Int.neg_tmod] at this; omega
    omega
   ·have := wF (a := a) b c1
    omega
 ·intro hr
  have ha : a < 0 := by
   rcases zO a 0 with c | c
   ·exact c
   ·have := wF (a := a) b c; omega
  have h1 := wK a b
  have h2 : (Int.tmod a b).natAbs < b.natAbs := by rw [vR]; exact yX _ zc
  generalize Int.tdiv a b = q at *
  generalize Int.tmod a b = r at *
  have key : ∀ q' r' : Int, r' + b * q' = a → 0 ≤ r' → r' < b.natAbs → a / b = q' ∧ a % b = r' := by
   intro q' r' e e1 e2
   have hr' : r' / b = 0 := by
    rcases zO b 0 with c | c
    ·have : r' / (-(-b)) = -(r' / -b) := Int.ediv_neg _ _
     rw [Int.neg_neg] at this
     rw [this, xx e1 zc]; rfl
    ·exact xx e1 zc
   have d1 : a / b = q' := by rw [← e, vJ _ _ hb, hr', vu]
   refine ⟨d1, ?_⟩
   have := ym a b
   rw [d1] at this
   omega
  rcases zO b 0 with c | c
  ·rw [if_pos c]
   exact key _ _ (by rw [wx]; omega) zc zc
  ·rw [if_neg zc]
   exact key _ _ (by rw [Int.mul_sub]; omega) zc zc
 ·intro hr
  have h1 := wK a b
  have h2 : (Int.tmod a b).natAbs < b.natAbs := by rw [vR]; exact yX _ zc
  generalize Int.tdiv a b = q at *
  generalize Int.tmod a b = r at *
  have hr' : r / b = 0 := by
   rcases zO b 0 with c | c
   ·have : r / (-(-b)) = -(r / -b) := Int.ediv_neg _ _
    rw [Int.neg_neg] at this
    rw [this, xx zc zc]; rfl
   ·exact xx zc zc
  have d1 : a / b = q := by rw [← h1, vJ _ _ hb, hr', vu]
  refine ⟨d1, ?_⟩
  have := ym a b
  rw [d1] at this
  omega
theorem aDF (x x' : PlT) (y) (h : af3 (x, x', ()) = some y) : (ar0 x x').toO = some y := by
 obtain ⟨⟨a, b⟩, hp, hx, rfl⟩ := aaD h
 obtain ⟨rfl, hx2⟩ := Prod.mk.inj hx; obtain ⟨rfl, -⟩ := Prod.mk.inj hx2; dsimp only
 obtain ⟨l1, l2, l3⟩ := hp
 dsimp only at l1 l2 l3
 have d1 := ax9 l1 zc
 have d2 := ax9 l2 zc
 obtain ⟨q, r, hq, hr, sq, sr, hneg, hpos⟩ := aSm (a := a) l3
 have bq : Bd 6 q.natAbs := by rw [hq]; exact aaS _ l1
 have br : Bd 6 r.natAbs := by rw [hr]; exact aa1 _ l1
 have i1 : aa8 1 := ⟨by omega, by omega⟩
 have b1 : Bd 7 (1 : Int).natAbs := aaH (aaG zf) zc
 unfold ar0
 dsimp only
 refine uC _ (aBc d1 d2 zc) ?_
 refine uC (pl q, ()) (agB (by rw [← hq]; exact ao1 bq zc) hq.symm sq) ?_
 refine uC (pl r, ()) (agB (by rw [← hr]; exact ao1 br zc) hr.symm sr) ?_
 dsimp only
 by_cases c : r < 0
 ·obtain ⟨e1, e2⟩ := hneg c
  refine uT (zo c) ?_
  have hpb : agS (pl r, (false, dig b.natAbs, ()), ()) = some (pl (r + b.natAbs), ()) := by
   have := arD (a := r) (b := (b.natAbs : Int)) (aaH br zc) (aaH l2 zc)
   unfold pl at this ⊢
   rwa [zn (show ¬ ((b.natAbs : Int) < 0) by omega), zM] at this
  refine uC _ hpb ?_
  rw [e1, e2]
  by_cases c2 : b < 0
  ·rw [if_pos c2]
   exact uT (zo c2) (uC _ (aiS i1) (uC _ (arD (aaH bq zc) b1) rfl))
  ·rw [if_neg c2]
   exact uF (zn c2) (uC _ (aiS i1) (uC _ (aBf (aaH bq zc) b1) rfl))
 ·obtain ⟨e1, e2⟩ := hpos c
  rw [e1, e2]
  exact uF (zn c) rfl
theorem aBe {s : List UInt8} (h : s.length ≤ 1000000000000) : af2 (s, ()) = some ((rdW s).isSome, ()) := by unfold af2; rw [if_pos h]
theorem aDE (a : List UInt8) (y) (h : af2 (a, ()) = some y) : (arZ a).toO = some y := by
 unfold af2 at h
 split at h
 case isFalse => cases h
 case isTrue hl =>
 injection h with h
 subst h
 dsimp only at hl ⊢
 obtain ⟨j, t, b, hj, hat, hc⟩ : ∃ (j : Nat) (t : List UInt8) (b : Bool), j ≤ a.length ∧ (a.drop j = t ∧ (b = true ↔ j = 1) ∧ j ≤ 1 ∧ (∃ d : TT (uK ⊕ uI), True) ∧ ((TT.ite (decide (len a > 0)) (TT.need (asT Int 0 ≤ 0 ∧ 0 < len a) (TT.ite ((((gi a 0 0).toNat : Int)) == 45) (TT.ok (.inl (1, ()))) (TT.ok (.inl (0, ()))))) (TT.ok (.inl (0, ()))) : TT (uK ⊕ uI)).toO = some (.inl ((j : Int), ())))) ∧ abY (a, #[45].toList, ()) = some (t, b, ()) := by
  cases a with
  | nil => exact ⟨0, [], false, by simp, ⟨rfl, by simp, by omega, ⟨TT.bad, trivial⟩, uF rfl rfl⟩, rfl⟩
  | cons c a =>
   by_cases hcc : c = 45
   ·subst hcc
    refine ⟨1, a, true, by simp, ⟨rfl, by simp, by omega, ⟨TT.bad, trivial⟩, uT (by (try simp only [yn, yk, yJ, yW, beq_eq_false_iff_ne, bne_eq_false_iff_eq, zS, yE]) <;> (try simp only [aaC, inb, inc, ge_iff_le, gt_iff_lt, zp, asT, ne_eq]) <;> simp) (uN ⟨by simp [asT], by (try simp only [aaC, inb, inc, ge_iff_le, gt_iff_lt, zp, asT, ne_eq]); simp⟩ (uT rfl rfl))⟩, ?_⟩
    simp [abY, List.isPrefixOf]
   ·refine ⟨0, c :: a, false, by simp, ⟨rfl, by simp, by omega, ⟨TT.bad, trivial⟩, uT (by (try simp only [yn, yk, yJ, yW, beq_eq_false_iff_ne, bne_eq_false_iff_eq, zS, yE]) <;> (try simp only [aaC, inb, inc, ge_iff_le, gt_iff_lt, zp, asT, ne_eq]) <;> simp) (uN ⟨by simp [asT], by (try simp only [aaC, inb, inc, ge_iff_le, gt_iff_lt, zp, asT, ne_eq]); simp⟩ (uF ?_ rfl))⟩, ?_⟩
    ·rw [beq_eq_false_iff_ne]
     intro h
     exact hcc (UInt8.toNat_inj.1 (Int.ofNat.inj h))
    ·have : ¬ (45 = c) := fun h => hcc h.symm
     simp [abY, List.isPrefixOf, this]
 obtain ⟨ht, hb, hj1, -, hjoin⟩ := hat
 have htl : t.length = a.length - j := by rw [← ht]; simp
 have hget : ∀ k, a.getD (j + k) 0 = t.getD k 0 := by
  intro k; rw [← ht]; simp [yd, yZ]
 have hnot : ¬ (isD t ∧ t ≠ [] ∧ t.length ≤ 600 ∧ (t.head? = some 48 → b = false ∧ t.length = 1)) → (rdW a).isSome = false := fun h => by rw [aLr hc h]; rfl
 have hyes : isD t → t ≠ [] → t.length ≤ 600 → (t.head? = some 48 → b = false ∧ t.length = 1) → (rdW a).isSome = true := fun h1 h2 h3 h4 => by
  obtain ⟨z, e1, -, -⟩ := aLq hc h1 h2 h3 h4
  rw [e1]; rfl
 unfold arZ
 refine uL ((j : Int), ()) hjoin ?_
 unfold av8
 have hw : w64 (len a - (j : Int)) = (t.length : Int) := by rw [aaC, aaA zc]; omega
 simp only [hw]
 by_cases c1 : t = []
 ·rw [hnot (fun h => h.2.1 c1)]
  exact uR _ (uT (by rw [c1]; rfl) rfl)
 have hlen : 1 ≤ t.length := ya.2 c1
 by_cases c2 : t.length ≤ 600
 case neg =>
  rw [hnot (fun h => c2 h.2.2.1)]
  exact uR _ (uF sd (uT sd rfl))
 refine uL (false, ()) (uF sd (uF sd rfl)) ?_
 refine uO ((j : Int), ()) rfl ?_
 refine aaO (fun i : Int × Unit => ∃ k : Nat, i.1 = ((j + k : Nat) : Int) ∧ k ≤ t.length ∧ isD (t.take k)) (fun i => ((a.length : Int) - i.1).toNat) (fun _ => ((rdW a).isSome, ())) ?_ _ ⟨0, rfl, by omega, by simp [isD]⟩
 rintro ⟨i, u⟩ ⟨k, h3, h4, h5⟩
 simp only at h3
 subst h3
 simp only [av7, aaM, hget]
 rcases zr k t.length with hk | hk
 ·have e1 : t.getD k 0 = t[k] := by simp [hk]
  simp only [e1]
  by_cases d1 : t[k].toNat < 48
  ·right
   rw [hnot (fun h => by have := h.1 t[k] (yg hk); omega)]
   repeat refine za ?_
   rfl
  by_cases d2 : t[k].toNat > 57
  ·right
   rw [hnot (fun h => by have := h.1 t[k] (yg hk); omega)]
   repeat refine za ?_
   rfl
  ·left
   refine ⟨(((j + (k + 1) : Nat) : Int), ()), ?_, ⟨k + 1, rfl, by omega, ?_⟩, by simp only; omega, ze⟩
   ·repeat refine za ?_
    rw [aaK, aaA (x := ((j + k : Nat) : Int) + 1) zc]; rfl
   ·rw [zW hk, isD_append]
    refine ⟨h5, fun c hc => ?_⟩
    have := zZ.1 hc
    subst this
    omega
 ·right
  have hd : isD t := by rwa [zz hk] at h5
  have hg0 : a.getD j 0 = t.getD 0 0 := hget 0
  simp only [hg0]
  refine uF sd (uN ⟨by omega, by exact sn⟩ ?_)
  cases hct : t with
  | nil => exact absurd hct c1
  | cons c r =>
   rw [← hct]
   have hg : t.getD 0 0 = c := by rw [hct]; rfl
   simp only [hg]
   have hh : t.head? = some c := by rw [hct]; rfl
   by_cases c0 : c = 48
   ·subst c0
    refine uF rfl ?_
    show some (Sum.inr (len a == 1, ())) = _
    by_cases hl1 : a.length = 1
    ·rw [hyes hd c1 c2 (fun _ => ⟨by
      cases b with
      | false => rfl
      | true => have := hb.1 rfl; omega, by omega⟩)]
     rw [show (len a == 1) = true by rw [yJ, aaC]; omega]
    ·rw [hnot (fun h => by
      obtain ⟨q1, q2⟩ := h.2.2.2 hh
      have : ¬ j = 1 := fun h => by rw [hb.2 h] at q1; cases q1
      omega)]
     rw [show (len a == 1) = false by rw [beq_eq_false_iff_ne, aaC]; omega]
   ·rw [hyes hd c1 c2 (fun h => by rw [hh] at h; injection h with h; exact absurd h c0)]
    refine uT ?_ rfl
    rw [yW]
    intro h
    exact c0 (UInt8.toNat_inj.1 (Int.ofNat.inj h))
theorem aDi {a t : List UInt8} {j : Nat} (hd : isD t) (hget : ∀ k, a.getD (j + k) 0 = t.getD k 0) {s i e : Nat} (h1 : s ≤ i) (h2 : i < e) (h3 : e ≤ t.length) (h4 : e - s ≤ 4) : w64 (w64 ((num ((t.take i).drop s) : Int) * 10) + w64 (wu8 (((a.getD (j + i) 0).toNat : Int) - 48))) = (num ((t.take (i + 1)).drop s) : Int) := by
 have hi : i < t.length := zc
 have e1 : t.getD i 0 = t[i] := by simp [hi]
 have e2 := hd t[i] (yg hi)
 have e3 := aD6 (apZ (au6 hd i) s)
 rw [avS h1 zc] at e3
 have e4 : (10 : Nat) ^ (i - s) ≤ 10 ^ 3 := zU zc zc
 have e5 : dv t[i] = t[i].toNat - 48 := rfl
 rw [aHz h1 hi, amY, hget, e1, e5]
 rw [abP (x := (t[i].toNat : Int) - 48) zc, aaA (x := (t[i].toNat : Int) - 48) zc, aaA (x := (num ((t.take i).drop s) : Int) * 10) zc, aaA zc]
 omega
theorem aCR {z : Int} (h : Fit z) : ao4 (dec z, ()) = some (pl z, ()) := aaI (enc := fun x : Int => (dec x, ())) z h (fun b hb => akP (Prod.mk.inj hb).1)
theorem aLG (a : List UInt8) (y) (h : ao4 (a, ()) = some y) : (aFV a).toO = some y := by
 obtain ⟨z, hp, hx, rfl⟩ := aaD h
 obtain ⟨rfl, -⟩ := Prod.mk.inj hx
 clear h hx
 have hfit : (aa3 z.natAbs).length ≤ 600 := hp
 have hd := akQ z.natAbs
 have hn := amZ z.natAbs
 have hne := ahU z.natAbs
 obtain ⟨j, hj, hget, hlen, hjoin⟩ : ∃ j : Nat, (j = if z < 0 then 1 else 0) ∧ (∀ k, (dec z).getD (j + k) 0 = (aa3 z.natAbs).getD k 0) ∧ (dec z).length = j + (aa3 z.natAbs).length ∧ ((TT.need (asT Int 0 ≤ 0 ∧ 0 < len (dec z)) (TT.ite ((((gi (dec z) 0 0).toNat : Int)) == 45) (TT.ok (.inl (1, ()))) (TT.ok (.inl (0, ())))) : TT (uK ⊕ (PlT × Unit))).toO = some (.inl ((j : Int), ()))) := by
  by_cases c : z < 0
  ·rw [ahT c]
   refine ⟨1, by rw [if_pos c], fun k => by rw [xe]; simp, by simp; omega, uN ⟨by simp [asT], by (try simp only [aaC, inb, inc, ge_iff_le, gt_iff_lt, zp, asT, ne_eq]); simp⟩ (uT rfl rfl)⟩
  ·rw [acC zc]
   refine ⟨0, by rw [if_neg c], fun k => by rw [zw], by omega, uN ⟨by simp [asT], by exact sn⟩ (uF ?_ rfl)⟩
   have := adH z.natAbs
   cases hdn : aa3 z.natAbs with
   | nil => exact absurd hdn (aeR _)
   | cons c l =>
    rw [hdn] at this
    show ((c.toNat : Int) == 45) = false
    rw [beq_eq_false_iff_ne]
    intro h
    have hc : c = 45 := UInt8.toNat_inj.1 (Int.ofNat.inj h)
    rw [hc] at this
    exact this rfl
 have hj1 : j ≤ 1 := by rw [hj]; split <;> omega
 have hjb : ((j : Int) == 1) = decide (z < 0) := by
  by_cases c : z < 0
  ·rw [zo c, hj, if_pos c]; rfl
  ·rw [zn c, hj, if_neg c]; rfl
 generalize aa3 z.natAbs = t at *
 generalize dec z = a at *
 unfold aFV
 refine uL ((j : Int), ()) hjoin ?_
 refine uO ((a.length : Int), true, [], ()) rfl ?_
 refine aaO (fun i : Int × Bool × List Int × Unit => ∃ e : Nat, (i.1 = ((j + e : Nat) : Int) ∨ (e = 0 ∧ i.1 ≤ j ∧ -10 ≤ i.1)) ∧ e ≤ t.length ∧ Dg 10000 i.2.2.1 ∧ V 10000 i.2.2.1 + 10000 ^ i.2.2.1.length * num (t.take e) = z.natAbs ∧ i.2.2.1.length + e ≤ t.length ∧ (i.2.1 = true → i.2.2.1 = [])) (fun i => (i.1 + 20).toNat) (fun _ => (pl z, ())) ?_ _ ⟨t.length, Or.inl (show (a.length : Int) = _ by omega), zq _, auI _, by simp [V]; omega, by simp, fun _ => rfl⟩
 rintro ⟨e', f, l, u⟩ ⟨e, g1, g3, g4, g5, g6, g7⟩
 simp only at g1 g4 g5 g6 g7
 rcases zE e with he | he
 ·right
  subst he
  have hle : e' ≤ j := zc
  have hv : V 10000 l = z.natAbs := by simpa [aGh] using g5
  have hm : abH ((j : Int) == 1, l, ()) = some (pl z, ()) := ayY g4 zc hv (Or.inr hjb)
  cases f with
  | true =>
   obtain rfl := g7 rfl
   unfold apH
   exact uT rfl (uF (zn (show ¬ (e' > (j : Int)) by omega)) (uC _ hm rfl))
  | false =>
   unfold apH
   dsimp only
   rw [zt]
   exact uF rfl (uF (zn (show ¬ (e' > (j : Int)) by omega)) (uC _ hm rfl))
 ·left
  have he' : e' = ((j + e : Nat) : Int) := zc
  subst he'
  obtain ⟨s, hs, hs1, hs2, hs3, hs4⟩ : ∃ s : Nat, (if (j : Int) > w64 (((j + e : Nat) : Int) - 4) then (j : Int) else w64 (((j + e : Nat) : Int) - 4)) = ((j + s : Nat) : Int) ∧ s ≤ e ∧ e - s ≤ 4 ∧ (s = 0 ∨ s + 4 = e) ∧ s < e := by
   rw [aaA (x := ((j + e : Nat) : Int) - 4) zc]
   rcases zr e 4 with h9 | h9
   ·exact ⟨0, by rw [if_pos zc]; rfl, by omega, by omega, Or.inl rfl, by omega⟩
   ·exact ⟨e - 4, by rw [if_neg zc]; omega, by omega, by omega, Or.inr zc, by omega⟩
  have hseg := aMd (s := t) hs1 g3
  have hv := aD6 (apZ (au6 hd e) s)
  rw [avS hs1 g3] at hv
  have hv4 : (10 : Nat) ^ (e - s) ≤ 10 ^ 4 := zU zc hs2
  have hw4 : w64 (((j + e : Nat) : Int) - 4) = ((j + e : Nat) : Int) - 4 := aaA zc
  generalize hX : num ((t.take e).drop s) = X at hseg hv
  have hD : Dg 10000 (l ++ [(X : Int)]) := aeK g4 (amP zc zc)
  have hV1 : V 10000 (l ++ [(X : Int)]) + 10000 ^ (l ++ [(X : Int)]).length * (num (t.take s) : Int) = z.natAbs := by
   rw [ad3, azV, ← g5, hseg, zR, yu, zY]
   rcases hs3 with h0 | h0
   ·subst h0; simp [aGh]
   ·rw [show e - s = 4 by omega]
    have : (((num (t.take s) * 10 ^ 4 + X : Nat)) : Int) = (num (t.take s) : Int) * 10000 + X := zi
    rw [this]
    grind
  have inv : (((j + e : Nat) : Int) - 4 = ((j + s : Nat) : Int) ∨ (s = 0 ∧ ((j + e : Nat) : Int) - 4 ≤ j ∧ -10 ≤ ((j + e : Nat) : Int) - 4)) := zc
  refine ⟨(((j + e : Nat) : Int) - 4, false, l ++ [(X : Int)], ()), ?_, ⟨s, inv, by omega, hD, hV1, by simp; omega, by simp⟩, by simp only; omega, ze⟩
  cases f with
  | false =>
   simp only [apH]
   refine uF rfl (uT sd (uO (((j + s : Nat) : Int), 0, ()) (by repeat refine za ?_; rw [hs]; rfl) ?_))
   refine aaO (fun i : Int × Int × Unit => ∃ q : Nat, s ≤ q ∧ q ≤ e ∧ i = (((j + q : Nat) : Int), (num ((t.take q).drop s) : Int), ())) (fun i => (((j + e : Nat) : Int) - i.1).toNat) (fun _ => (Sum.inl (((j + e : Nat) : Int) - 4, false, l ++ [(X : Int)], ()) : (Int × Bool × List Int × Unit) ⊕ (PlT × Unit))) ?_ _ ⟨s, zq _, hs1, by rw [yx zh]; rfl⟩
   rintro i ⟨q, h1, h2, rfl⟩
   rcases zr q e with hq | hq
   ·left
    refine ⟨(((j + (q + 1) : Nat) : Int), (num ((t.take (q + 1)).drop s) : Int), ()), ?_, ⟨q + 1, by omega, by omega, rfl⟩, by simp only; omega, ze⟩
    simp only [aBK, aaM, aDi hd hget h1 hq g3 hs2]
    refine uT sd (uN ⟨by omega, by exact sn⟩ ?_)
    repeat refine za ?_
    rw [aaK, aaA (x := ((j + q : Nat) : Int) + 1) zc]; rfl
   ·right
    have hqe : q = e := zc
    subst hqe
    simp only [aBK, hX, zt, hw4]
    refine uF sd (uN zc ?_)
    repeat refine za ?_
    rfl
  | true =>
   obtain rfl := g7 rfl
   simp only [apH]
   refine uT rfl (uT sd (uO (((j + s : Nat) : Int), 0, ()) (by repeat refine za ?_; rw [hs]; rfl) ?_))
   refine aaO (fun i : Int × Int × Unit => ∃ q : Nat, s ≤ q ∧ q ≤ e ∧ i = (((j + q : Nat) : Int), (num ((t.take q).drop s) : Int), ())) (fun i => (((j + e : Nat) : Int) - i.1).toNat) (fun _ => (Sum.inl (((j + e : Nat) : Int) - 4, false, [(X : Int)], ()) : (Int × Bool × List Int × Unit) ⊕ (PlT × Unit))) ?_ _ ⟨s, zq _, hs1, by rw [yx zh]; rfl⟩
   rintro i ⟨q, h1, h2, rfl⟩
   rcases zr q e with hq | hq
   ·left
    refine ⟨(((j + (q + 1) : Nat) : Int), (num ((t.take (q + 1)).drop s) : Int), ()), ?_, ⟨q + 1, by omega, by omega, rfl⟩, by simp only; omega, ze⟩
    simp only [aBL, aaM, aDi hd hget h1 hq g3 hs2]
    refine uT sd (uN ⟨by omega, by exact sn⟩ ?_)
    repeat refine za ?_
    rw [aaK, aaA (x := ((j + q : Nat) : Int) + 1) zc]; rfl
   ·right
    have hqe : q = e := zc
    subst hqe
    simp only [aBL, hX, hw4]
    refine uF sd (uN zc ?_)
    repeat refine za ?_
    rfl
theorem aA5 {l : List Int} (h : Dg 10000 l) (k : Nat) : V 10000 (l.drop k) = V 10000 l / 10000 ^ k := by
 have h1 := ab9 10000 l k
 have h2 := ac8 zc h k
 have h3 := aaT zc (ab8 h k)
 rw [h1, vJ _ _ (by have := aBN (show (1 : Int) ≤ 10000 by omega) k; omega), xx h3 h2, vu]
theorem aFW {R b top first P : Int} (hP : 0 < P) (hb0 : 0 < b) (htop : 10000 ≤ top) (hb1 : top * P ≤ b) (hb2 : b < (top + 1) * P) (hf1 : first * P ≤ R) (hf2 : R < (first + 1) * P) (hR0 : 0 ≤ R) (hR : R < b * 10000) (hf0 : 0 ≤ first) :
  (first / (top + 1)) * b ≤ R ∧ R < (first / top + 1) * b ∧ first / top + 1 ≤ 10001 ∧ 0 ≤ first / (top + 1) ∧ first ≤ 100000000000000 * top := by
 have g1 := ym first (top + 1)
 have g2 := yR first (show top + 1 ≠ 0 by omega)
 have g3 := ym first top
 have g4 := yC first (show 0 < top by omega)
 have g7 := yR first (show top ≠ 0 by omega)
 have g5 := xJ hf0 (show 0 ≤ top + 1 by omega)
 have g6 := xJ hf0 (show 0 ≤ top by omega)
 generalize first / (top + 1) = L at *
 generalize first / top = H at *
 generalize first % (top + 1) = m1 at *
 generalize first % top = m2 at *
 refine ⟨?_, ?_, ?_, g5, ?_⟩
 ·have a1 : L * b ≤ L * ((top + 1) * P) := zD zc g5
  have a2 : L * ((top + 1) * P) = ((top + 1) * L) * P := by grind
  have a3 : ((top + 1) * L) * P ≤ first * P := zu zc zc
  omega
 ·have a1 : (H + 1) * (top * P) ≤ (H + 1) * b := zD hb1 zc
  have a2 : (H + 1) * (top * P) = (top * H + top) * P := by grind
  have a3 : (first + 1) * P ≤ (top * H + top) * P := zu zc zc
  omega
 ·have a1 : first * P < ((top + 1) * 10000) * P := by
   have : b * 10000 < ((top + 1) * P) * 10000 := zc
   have e : ((top + 1) * P) * 10000 = ((top + 1) * 10000) * P := by grind
   omega
  have a2 : first < (top + 1) * 10000 := yi a1 zc
  have a3 : top * H < top * 10001 := zc
  have := yU a3 zc
  omega
 ·have a1 : first * P < ((top + 1) * 10000) * P := by
   have : b * 10000 < ((top + 1) * P) * 10000 := zc
   have e : ((top + 1) * P) * 10000 = ((top + 1) * 10000) * P := by grind
   omega
  have a2 : first < (top + 1) * 10000 := yi a1 zc
  omega
theorem aDx (m o : List Int) (y) (h : ajU (m, o, ()) = some y) : (arU m o).toO = some y := by
 obtain ⟨⟨a, b⟩, hn, hx, rfl⟩ := aaD h
 obtain ⟨rfl, hx2⟩ := Prod.mk.inj hx; obtain ⟨rfl, -⟩ := Prod.mk.inj hx2; dsimp only
 obtain ⟨la, lb, hb0⟩ := hn
 simp only at la lb hb0
 clear h hx hx2
 have hda := adG a
 have hdb := adG b
 have hVa := ahX a
 have hVb := ahX b
 have hbl : 1 ≤ (dig b).length := by
  rcases zE (dig b).length with h5 | h5
  ·exact absurd (dig_nil_iff.1 (zV.1 h5)) hb0
  ·exact h5
 unfold arU
 by_cases h1 : (dig b).length = 1
 ·-- one digit
  refine uT sd (uN ⟨by simp [asT], by exact sn⟩ ?_)
  have hb1 : b < 10000 := by have := dig_length_le_iff.1 (vo h1); simpa using this
  have hdb1 : dig b = [(b : Int)] := aNe hb0 hb1
  have hg : gi (dig b) 0 0 = (b : Int) := by rw [hdb1]; rfl
  rw [hg]
  refine uC _ (aN7 zc zc hb1) ?_
  have hm := yX a (show 0 < b by omega)
  generalize a % b = r at hm ⊢
  refine uC (dig r, ()) (agG (amP (show (0 : Int) ≤ (r : Int) by omega) (show (r : Int) < 10000 by omega)) zi (by simp [V])) rfl
 obtain ⟨n, hnl⟩ : ∃ n, (dig b).length = n + 2 := ⟨(dig b).length - 2, by omega⟩
 have w1 : w64 (len (dig b) - 1) = ((n + 1 : Nat) : Int) := by rw [aaC, hnl, aaA zc]; omega
 have w2 : w64 (((n + 1 : Nat) : Int) - 1) = ((n : Nat) : Int) := by rw [aaA zc]; omega
 have bge : 10000 ^ (n + 1) ≤ b := by have := awA (B := 10000) zc hb0; rw [show (auQ 10000 b).length = n + 2 from hnl] at this; exact this
 refine uF sd ?_
 simp only [w1]
 by_cases h2 : (dig a).length ≤ n + 1
 ·-- the dividend is shorter
  refine uT sd (uN zc ?_)
  have hab : a < b := yf (dig_length_le_iff.1 h2) bge
  rw [aaK, xd hab, yG hab, dig_zero]
  simp
 have hq : ∃ M, (dig a).length = M + (n + 1) ∧ 0 < M := ⟨(dig a).length - (n + 1), by omega, by omega⟩
 obtain ⟨M, hM, hM0⟩ := hq
 have w3 : w64 (len (dig a) - ((n + 1 : Nat) : Int)) = (M : Int) := by rw [aaC, hM, aaA zc]; omega
 refine uF sd ?_
 simp only [w2, w3]
 refine uN sd (uN sd (uN zc (uN sd ?_)))
 simp only [zp]
 have htk : List.take ((dig a).length - M) ((dig a).drop M) = (dig a).drop M := zz zi
 simp only [htk]
 have htk2 : List.take (0 + ((dig a).drop M).length) (List.take 0 ([] : List Int) ++ (dig a).drop M) = (dig a).drop M := by rw [zw, List.take_zero, xj, zt]
 simp only [htk2]
 refine uN zh ?_
 have w4 : w64 ((M : Int) - 1) = (M : Int) - 1 := aaA zc
 refine uO ((M : Int) - 1, (dig a).drop M, List.replicate M 0, ()) ?_ ?_
 ·repeat refine za ?_
  rw [aaK, w4]
 -- the first two digits of the divisor
 have dB1 := aa4 zc hdb (n + 1)
 have dB0 := aa4 zc hdb n
 have hBtop : 1 ≤ (dig b).getD (n + 1) 0 := by
  have hc := aIb b
  unfold Cn at hc
  rw [yT, hnl, show n + 2 - 1 = n + 1 by omega, zP zc] at hc
  rw [aiZ zc] at *
  rcases zO 0 (dig b)[n + 1] with h | h
  ·exact h
  ·exact absurd (by congr 1; omega) hc
 have htopV : V 10000 ((dig b).drop n) = (dig b).getD (n + 1) 0 * 10000 + (dig b).getD n 0 := by
  have e1 := aaU 10000 (dig b) n
  have e2 := aaU 10000 (dig b) (n + 1)
  have e3 := acW 10000 (l := dig b) (k := n + 1 + 1) zc
  omega
 have htop2 := aA5 hdb n
 rw [hVb] at htop2
 have hwtop : w64 (w64 (gi (dig b) ((n + 1 : Nat) : Int) 0 * 10000) + gi (dig b) (n : Int) 0) = (dig b).getD (n + 1) 0 * 10000 + (dig b).getD n 0 := by
  rw [aaM, aaM, aaA (x := (dig b).getD (n + 1) 0 * 10000) zc, aaA zc]
 have hwtop1 : w64 ((dig b).getD (n + 1) 0 * 10000 + (dig b).getD n 0 + 1) = (dig b).getD (n + 1) 0 * 10000 + (dig b).getD n 0 + 1 := aaA zc
 have htop3 : 10000 ≤ (dig b).getD (n + 1) 0 * 10000 + (dig b).getD n 0 ∧ (dig b).getD (n + 1) 0 * 10000 + (dig b).getD n 0 < 100000000 := zc
 rw [← htopV] at htop3
 have hP : (0 : Int) < 10000 ^ n := yK zc
 have hbt1 : V 10000 ((dig b).drop n) * 10000 ^ n ≤ (b : Int) := by
  rw [htop2]; exact Int.ediv_mul_le _ zc
 have hbt2 : (b : Int) < (V 10000 ((dig b).drop n) + 1) * 10000 ^ n := by
  rw [htop2]; exact Int.lt_ediv_add_one_mul_self _ hP
 rw [← htopV] at hwtop hwtop1
 generalize htv : V 10000 ((dig b).drop n) = top at *
 clear htopV htop2 dB1 dB0 hBtop htv
 have hR0 : V 10000 ((dig a).drop M) < (b : Int) := by
  have := aKz zc (acM hda M)
  rw [yB, show (dig a).length - M = n + 1 by omega] at this
  have hb2 : ((10000 ^ (n + 1) : Nat) : Int) ≤ (b : Int) := wN.2 bge
  rw [we] at hb2
  exact Int.lt_of_lt_of_le this hb2
 have hcR0 : Cn ((dig a).drop M) := by
  have hc := aIb a
  unfold Cn at hc ⊢
  rw [List.getLast?_drop, if_neg zc]
  exact hc
 refine aaO (fun i : Int × List Int × List Int × Unit => ∃ (k : Nat) (R : Nat), k ≤ M ∧ i.1 = (k : Int) - 1 ∧ i.2.1 = dig R ∧ R < b ∧ i.2.2.1.length = M ∧ Dg 10000 i.2.2.1 ∧ V 10000 ((dig a).drop k) = V 10000 (i.2.2.1.drop k) * b + R) (fun i => (i.1 + 1).toNat) (fun _ => (dig (a / b), dig (a % b), ())) ?_ _ ?_
 case refine_2 =>
  obtain ⟨R, hR⟩ := zv (aaT zc (acM hda M))
  refine ⟨M, R, zq _, rfl, aCt (acM hda M) hcR0 hR, by omega, by simp, agH zc _, ?_⟩
  rw [hR, acW _ zi]; simp
 rintro ⟨i, r, q, u⟩ ⟨k, R, g1, g2, g3, g4, g5, g6, g7⟩
 dsimp only at g2 g3 g5 g6 g7
 subst g2 g3
 cases k with
 | zero =>
  right
  simp only [yQ, hVa] at g7
  obtain ⟨v, hv⟩ := zv (aaT zc g6)
  rw [hv] at g7
  have h8 : a = v * b + R := by
   have : (a : Int) = ((v * b + R : Nat) : Int) := by simpa using g7
   exact Int.ofNat.inj this
  have h9 : a / b = v := by rw [h8, xe, wP _ _ zc, xd zc, zw]
  have h10 : a % b = R := by rw [h8, xe, wh, yG zc]
  simp only [aoE, w1, w3, zp]
  refine uF sd (uC (dig v, ()) ?_ ?_)
  ·rw [zz zc]
   exact agG g6 zc hv
  ·rw [aaK, h9, h10]
 | succ j =>
  left
  have e6 : ((j + 1 : Nat) : Int) - 1 = (j : Int) := zc
  rw [e6]
  have da := aa4 zc hda j
  obtain ⟨d, hd⟩ := zv da.1
  have lR : (dig R).length ≤ n + 2 := by rw [← hnl]; exact ab5 zc
  -- the next rest
  obtain ⟨R', hR'⟩ : ∃ R', R' = d + 10000 * R := ⟨_, rfl⟩
  have hR'b : R' < b * 10000 := zc
  have hcut : acO ((dig a).getD j 0 :: dig R, ()) = some (dig R', ()) := by
   rw [hd]
   refine agG (aCX ⟨by omega, by omega⟩ (adG R)) zh ?_
   simp only [V, ahX, hR']; simp
  have lR' : (dig R').length ≤ n + 3 := by
   rw [dig_length_le_iff]
   have := dig_length_le_iff.1 (vo hnl)
   rw [show n + 3 = (n + 2) + 1 by omega, yD]
   exact yf hR'b (zJ _ (vt this))
  have hdR := adG R'
  have hVR := ahX R'
  -- its first three digits
  have hf := aA5 hdR n
  rw [hVR] at hf
  have hf1 : V 10000 ((dig R').drop n) * 10000 ^ n ≤ (R' : Int) := by rw [hf]; exact Int.ediv_mul_le _ zc
  have hf2 : (R' : Int) < (V 10000 ((dig R').drop n) + 1) * 10000 ^ n := by rw [hf]; exact Int.lt_ediv_add_one_mul_self _ hP
  have hf0 := aaT zc (acM hdR n)
  obtain ⟨k1, k2, k3, k4, k5⟩ := aFW hP zc htop3.1 hbt1 hbt2 hf1 hf2 zc zc hf0
  have hfirst : ac6 (fun i1 => (aeN (dig a) (dig b) ((j : Int), dig R, q, ()) (dig R', ()) i1).toO) (((n + 2 : Nat) : Int), 0, ()) = ac6 (fun i1 => (aeN (dig a) (dig b) ((j : Int), dig R, q, ()) (dig R', ()) i1).toO) ((n : Int) - 1, V 10000 ((dig R').drop n), ()) := by
   have st : ∀ (t : Nat) (v : Int), n ≤ t → t ≤ n + 2 → v = V 10000 ((dig R').drop (t + 1)) → (aeN (dig a) (dig b) ((j : Int), dig R, q, ()) (dig R', ()) ((t : Int), v, ())).toO = some (.inl ((t : Int) - 1, V 10000 ((dig R').drop t), ())) := by
    intro t v ht1 ht2 hv
    have e1 := aaU 10000 (dig R') t
    have e2 := aa4 zc hdR t
    have e3 := aaT zc (acM hdR (t + 1))
    have e4 : V 10000 ((dig R').drop (t + 1)) < 10000 ^ 2 := by
     have := aKz zc (acM hdR (t + 1))
     have h7 : (10000 : Int) ^ ((dig R').drop (t + 1)).length ≤ 10000 ^ 2 := aFY zc (by rw [yB]; omega)
     omega
    subst hv
    simp only [aeN, w1, w2, aaM]
    refine uT sd ?_
    by_cases ct : t < (dig R').length
    ·refine uT sd (uN sd ?_)
     repeat refine za ?_
     rw [aaK, aaA (x := (t : Int) - 1) zc, aaA (x := V 10000 ((dig R').drop (t + 1)) * 10000) zc, aaA zc, e1, Int.add_comm, yN]
    ·refine uF sd ?_
     repeat refine za ?_
     rw [ahP zc] at e1
     rw [aaK, aaA (x := (t : Int) - 1) zc, aaA zc, e1, vu, yN]
   have s1 := st (n + 2) 0 zc zc (by rw [acW _ zc])
   rw [show (((n + 2 : Nat) : Int)) - 1 = ((n + 1 : Nat) : Int) by omega] at s1
   rw [acR s1]
   have s2 := st (n + 1) _ zc zc rfl
   rw [show (((n + 1 : Nat) : Int)) - 1 = ((n : Nat) : Int) by omega] at s2
   rw [acR s2]
   rw [acR (st n _ zc zc rfl)]
  -- the search
  obtain ⟨Q, hQ⟩ : ∃ Q : Nat, Q = R' / b := ⟨_, rfl⟩
  have hQm := xY R' b
  have hQl := yX R' (show 0 < b by omega)
  rw [← hQ] at hQm
  have hQ4 : Q < 10000 := by
   rw [hQ, yF zc, yH]; exact hR'b
  have hRQ : (R' : Int) = (Q : Int) * b + ((R' % b : Nat) : Int) := by
   have : (R' : Int) = ((R' % b + b * Q : Nat) : Int) := by rw [hQm]
   rw [this]; simp; rw [yN]; omega
  have res : ac6 (fun i1 => (aeN (dig a) (dig b) ((j : Int), dig R, q, ()) (dig R', ()) i1).toO) (((n + 2 : Nat) : Int), 0, ()) = some (Sum.inl ((j : Int) - 1, dig (R' % b), q.set j (Q : Int), ())) := by
   rw [hfirst]
   refine acB ?_
   simp only [aeN, w1, w2, hwtop, hwtop1]
   refine uF sd (uN zc (uN zc ?_))
   have hd1 : Int.tdiv (V 10000 ((dig R').drop n)) top = V 10000 ((dig R').drop n) / top := zN hf0
   have hd2 : Int.tdiv (V 10000 ((dig R').drop n)) (top + 1) = V 10000 ((dig R').drop n) / (top + 1) := zN hf0
   simp only [hd1, hd2]
   have hn1 := xJ hf0 (show 0 ≤ top by omega)
   have hlow : V 10000 ((dig R').drop n) / (top + 1) ≤ Q := by
    have : V 10000 ((dig R').drop n) / (top + 1) * b < ((Q : Int) + 1) * b := by
     rw [wX]; omega
    have := yi this zc
    omega
   have hhigh : (Q : Int) < V 10000 ((dig R').drop n) / top + 1 := by
    have : (Q : Int) * b < (V 10000 ((dig R').drop n) / top + 1) * b := zc
    exact yi this zc
   have wH : w64 (w64 (V 10000 ((dig R').drop n) / top) + 1) = V 10000 ((dig R').drop n) / top + 1 := by
    rw [aaA (x := V 10000 ((dig R').drop n) / top) zc, aaA zc]
   have wL : w64 (V 10000 ((dig R').drop n) / (top + 1)) = V 10000 ((dig R').drop n) / (top + 1) := aaA zc
   simp only [wH, wL]
   generalize V 10000 ((dig R').drop n) / top + 1 = H at *
   generalize V 10000 ((dig R').drop n) / (top + 1) = L at *
   refine uO (H, L, ()) (by repeat refine za ?_; rfl) ?_
   refine aaO (fun i2 : Int × Int × Unit => 0 ≤ i2.2.1 ∧ i2.2.1 ≤ Q ∧ (Q : Int) < i2.1 ∧ i2.1 ≤ 10001) (fun i2 => (i2.1 - i2.2.1).toNat) (fun _ => (.inr (.inl ((j : Int) - 1, dig (R' % b), q.set j (Q : Int), ())) : (Int × Int × Unit) ⊕ ((Int × List Int × List Int × Unit) ⊕ (List Int × List Int × Unit)))) ?_ _ ⟨k4, hlow, hhigh, k3⟩
   rintro ⟨hi, lo, u3⟩ ⟨c1, c2, c3, c4⟩
   dsimp only at c1 c2 c3 c4
   have wd : w64 (hi - lo) = hi - lo := aaA zc
   simp only [av1, wd]
   by_cases hgap : hi - lo > 1
   ·left
    have wm : w64 (Int.tdiv (w64 (lo + hi)) 2) = (lo + hi) / 2 := by
     rw [aaA (x := lo + hi) zc, zN zc, aaA zc]
    simp only [wm]
    obtain ⟨mm, hmm⟩ := zv (show 0 ≤ (lo + hi) / 2 by omega)
    rw [hmm]
    have hmB : mm ≤ 10000 ∧ 1 ≤ mm := zc
    have hprod : abT (dig b, [(mm : Int)], ()) = some (dig (b * mm), ()) := by
     refine amL hdb ?_ zc zi (by rw [hVb]; simp [V])
     by_cases cm : mm = 10000
     ·right; rw [cm]; rfl
     ·left; exact amP zc zc
    have lbm : (dig (b * mm)).length ≤ 1000000000000 := by
     have : (dig (b * mm)).length ≤ (dig b).length + 2 := by
      rw [dig_length_le_iff, xv]
      have q1 := dig_length_le_iff.1 (zq (dig b).length)
      exact Nat.mul_lt_mul'' q1 zc
     omega
    have hcutp : acO (dig (b * mm), ()) = some (dig (b * mm), ()) := agG (adG _) lbm (ahX _)
    obtain ⟨o1, o2⟩ := aHN (b * mm) R'
    have hle : aQe (dig (b * mm)) (dig R') ≤ 0 ↔ b * mm ≤ R' := zc
    have hmQ : b * mm ≤ R' ↔ mm ≤ Q := by
     rw [hQ, xZ zc, yH]
    by_cases cm : mm ≤ Q
    ·refine ⟨(hi, (mm : Int), ()), ?_, ⟨by dsimp only; omega, by dsimp only; omega, c3, c4⟩, by dsimp only; omega, ze⟩
     refine uT (zo hgap) (uV ?_)
     refine uC _ hprod (uC _ hcutp (uC _ (atC _ _ (adG _) (adG _) lbm zc) (uT (zo (hle.2 (hmQ.2 cm))) ?_)))
     repeat refine za ?_
     rfl
    ·refine ⟨((mm : Int), lo, ()), ?_, ⟨c1, c2, by dsimp only; omega, by dsimp only; omega⟩, by dsimp only; omega, ze⟩
     refine uT (zo hgap) (uV ?_)
     refine uC _ hprod (uC _ hcutp (uC _ (atC _ _ (adG _) (adG _) lbm zc) (uF (zn (fun h => cm (hmQ.1 (hle.1 h)))) ?_)))
     repeat refine za ?_
     rfl
   ·right
    have hlQ : lo = Q := zc
    subst hlQ
    refine uF (zn hgap) ?_
    simp only [w1, w3, zp]
    refine uN ⟨by omega, by omega⟩ ?_
    have hprod : abT (dig b, [(Q : Int)], ()) = some (dig (b * Q), ()) := amL hdb (Or.inl (amP zc zc)) zc zi (by rw [hVb]; simp [V])
    have hdiff : abA (dig R', dig (b * Q), ()) = some (dig (R' % b), ()) := by
     have := amM (a := dig R') (b := dig (b * Q)) (n := R' % b) (adG _) (adG _) zc (ab5 zc) (by rw [ahX, ahX]; omega) (by rw [ahX, ahX]; omega)
     exact this
    refine uC _ hprod (uC _ hdiff ?_)
    repeat refine za ?_
    rw [aaK, aaA (x := (j : Int) - 1) zc, zw]
  refine ⟨((j : Int) - 1, dig (R' % b), q.set j (Q : Int), ()), ?_, ⟨j, R' % b, by omega, rfl, rfl, hQl, by simp; omega, aiT g6 ⟨by omega, by omega⟩ _, ?_⟩, by dsimp only; omega, ze⟩
  ·simp only [aoE, aaM, w1]
   have htk3 : List.take (1 + (dig R).length) ([(dig a).getD j 0] ++ dig R) = (dig a).getD j 0 :: dig R := by
    rw [zz zh]; rfl
   simp only [htk3]
   have w5 : w64 (((n + 1 : Nat) : Int) + 1) = ((n + 2 : Nat) : Int) := by rw [aaA zc]; omega
   simp only [w5]
   refine uT sd (uN sd (uN zc (uC _ hcut ?_)))
   refine uO (((n + 2 : Nat) : Int), 0, ()) (by repeat refine za ?_; rfl) ?_
   exact res
  ·dsimp only
   rw [aaU 10000 (dig a) j, hd, g7, aaU 10000 (q.set j _) j, aoO zc, ahS _ zc]
   have : (d : Int) + 10000 * (V 10000 (q.drop (j + 1)) * b + R) = 10000 * (V 10000 (q.drop (j + 1)) * b) + R' := by rw [hR']; simp; grind
   rw [this, hRQ]
   grind
set_option maxRecDepth 100000
open Go Go.Vg Go.Proofs
noncomputable section
def aFN : LTab := []
def aoD (n : Bool × List Int × Unit) (d : Bool × List Int × Unit) : TT tq :=
 .ite (d.1)
 (.call (ajV ((n.1, n.2.1, ()), ())) alG fun y =>
 .call (ajV ((d.1, d.2.1, ()), ())) alG fun y1 =>
 .call (aeY ((y.1.1, y.1.2.1, ()), (y1.1.1, y1.1.2.1, ()), ())) alG fun y2 =>
 .call (af3 ((y.1.1, y.1.2.1, ()), (y2.1.1, y2.1.2.1, ()), ())) aSj fun y3 =>
 .call (af3 ((y1.1.1, y1.1.2.1, ()), (y2.1.1, y2.1.2.1, ()), ())) aSj fun y4 =>
 .ok ((((y3.1.1, y3.1.2.1, ()), (y4.1.1, y4.1.2.1, ()), ()), ())))
 (.call (aeY ((n.1, n.2.1, ()), (d.1, d.2.1, ()), ())) alG fun y5 =>
 .call (af3 ((n.1, n.2.1, ()), (y5.1.1, y5.1.2.1, ()), ())) aSj fun y6 =>
 .call (af3 ((d.1, d.2.1, ()), (y5.1.1, y5.1.2.1, ()), ())) aSj fun y7 =>
 .ok ((((y6.1.1, y6.1.2.1, ()), (y7.1.1, y7.1.2.1, ()), ()), ())))
def aIX : LTab := []
def aAb (n : Int) (d : Int) : TT tq :=
 .call (acF (n, ())) alG fun y =>
 .call (acF (d, ())) alG fun y1 =>
 .call (ah0 (y.1, y1.1, ())) aOh fun y2 =>
 .ok ((((y2.1.1.1, y2.1.1.2.1, ()), (y2.1.2.1.1, y2.1.2.1.2.1, ()), ()), ()))
def aIW : LTab := []
def arT (a : List UInt8 × List UInt8 × Unit) : TT uI :=
 .call (af2 (a.1, ())) Dd1 fun y =>
 .ite (!y.1)
 (.ok ((false, ())))
 (.call (af2 (a.2.1, ())) Dd1 fun y1 =>
 .ite (!y1.1)
 (.ok ((false, ())))
 (.call (ao4 (a.1, ())) alG fun y2 =>
 .call (ao4 (a.2.1, ())) alG fun y3 =>
 .ite (y3.1.1)
 (.ok ((false, ())))
 (.ite (len y3.1.2.1 == 0)
 (.ok ((false, ())))
 (.call (aeY ((y2.1.1, y2.1.2.1, ()), (y3.1.1, y3.1.2.1, ()), ())) alG fun y4 =>
 .call (amG (y4.1, ())) Dd2 fun y5 =>
 .ok ((y5.1 == #[49].toList, ()))))))
def aQC : LTab := []
def aLy (a : List UInt8 × List UInt8 × Unit) : TT tq :=
 .call (ao4 (a.1, ())) alG fun y =>
 .call (ao4 (a.2.1, ())) alG fun y1 =>
 .ok ((((y.1.1, y.1.2.1, ()), (y1.1.1, y1.1.2.1, ()), ()), ()))
def aOJ : LTab := []
def aHF (r : ut × ut × Unit) : TT uH :=
 .call (aqZ ((r.1.1, r.1.2.1, ()), ())) aHn fun y =>
 .call (aqZ ((r.2.1.1, r.2.1.2.1, ()), ())) aHn fun y1 =>
 .ite (y.2.1 != 0)
 (.ok (((#[].toList, #[].toList, ()), 6, ())))
 (.ite (y1.2.1 != 0)
 (.ok (((#[].toList, #[].toList, ()), 6, ())))
 (.ok (((y.1, y1.1, ()), 0, ()))))
def aLw (a : ut × ut × Unit) (b : ut × ut × Unit) : TT tq :=
 .call (aeX ((a.1.1, a.1.2.1, ()), (b.2.1.1, b.2.1.2.1, ()), ())) alG fun y =>
 .call (aeX ((b.1.1, b.1.2.1, ()), (a.2.1.1, a.2.1.2.1, ()), ())) alG fun y1 =>
 .call (agS (y.1, y1.1, ())) alG fun y2 =>
 .call (aeX ((a.2.1.1, a.2.1.2.1, ()), (b.2.1.1, b.2.1.2.1, ()), ())) alG fun y3 =>
 .call (ah0 ((y2.1.1, y2.1.2.1, ()), y3.1, ())) aOh fun y4 =>
 .ok ((((y4.1.1.1, y4.1.1.2.1, ()), (y4.1.2.1.1, y4.1.2.1.2.1, ()), ()), ()))
def aIZ : LTab := []
def aAc (a : ut × ut × Unit) (b : ut × ut × Unit) : TT uK :=
 .call (aeX ((a.1.1, a.1.2.1, ()), (b.2.1.1, b.2.1.2.1, ()), ())) alG fun y =>
 .call (aeX ((b.1.1, b.1.2.1, ()), (a.2.1.1, a.2.1.2.1, ()), ())) alG fun y1 =>
 .call (anH (y.1, y1.1, ())) Dd6 fun y2 =>
 .ok ((y2.1, ()))
def aQB : LTab := []
def aFM (n : Int) (d : Int) : TT uH :=
 .ite (d == 0)
 (.ok (((#[].toList, #[].toList, ()), 7, ())))
 (.call (ajS (n, d, ())) aOh fun y =>
 .call (aqW (y.1, ())) afR fun y1 =>
 .ok (((y1.1.1, y1.1.2.1, ()), y1.2.1, ())))
def aOK (a : List UInt8 × List UInt8 × Unit) (b : List UInt8 × List UInt8 × Unit) : TT uH :=
 .call (aeW ((a.1, a.2.1, ()), ())) Dd1 fun y =>
 .ite (!y.1)
 (.ok (((#[].toList, #[].toList, ()), 20, ())))
 (.call (aeW ((b.1, b.2.1, ()), ())) Dd1 fun y1 =>
 .ite (!y1.1)
 (.ok (((#[].toList, #[].toList, ()), 20, ())))
 (.call (as7 ((a.1, a.2.1, ()), ())) aOh fun y2 =>
 .call (as7 ((b.1, b.2.1, ()), ())) aOh fun y3 =>
 .call (ayO (y2.1, y3.1, ())) aOh fun y4 =>
 .call (aqW (y4.1, ())) afR fun y5 =>
 .ok (((y5.1.1, y5.1.2.1, ()), y5.2.1, ()))))
def aIU : LTab := []
def arS (b : Int × Int × Unit) : TT uI :=
 .ite (decide (b.1 ≥ -1000000000000000000))
 (.ite (decide (b.1 ≤ b.2.1))
 (.ok ((decide (b.2.1 ≤ 1000000000000000000), ())))
 (.ok ((false, ()))))
 (.ok ((false, ())))
def aIT : LTab := []
def aAa (n : Int) : TT tq :=
 .call (ajS (n, 1000000000000, ())) aOh fun y =>
 .ok ((((y.1.1.1, y.1.1.2.1, ()), (y.1.2.1.1, y.1.2.1.2.1, ()), ()), ()))
def aOI : LTab := []
def aHE (b : Int × Int × Unit) (a : List UInt8 × List UInt8 × Unit) : TT (Bool × Int × Unit) :=
 .call (anF ((b.1, b.2.1, ()), ())) Dd1 fun y =>
 .ite (!y.1)
 (.ok ((false, 30, ())))
 (.call (aeW ((a.1, a.2.1, ()), ())) Dd1 fun y1 =>
 .ite (!y1.1)
 (.ok ((false, 20, ())))
 (.call (as7 ((a.1, a.2.1, ()), ())) aOh fun y2 =>
 .call (af0 (b.1, ())) aOh fun y3 =>
 .call (ajT (y3.1, ((y2.1.1.1, y2.1.1.2.1, ()), (y2.1.2.1.1, y2.1.2.1.2.1, ()), ()), ())) Dd6 fun y4 =>
 .ite (decide (y4.1 ≤ 0))
 (.call (af0 (b.2.1, ())) aOh fun y5 =>
 .call (ajT (((y2.1.1.1, y2.1.1.2.1, ()), (y2.1.2.1.1, y2.1.2.1.2.1, ()), ()), y5.1, ())) Dd6 fun y6 =>
 .ok ((decide (y6.1 ≤ 0), 0, ())))
 (.ok ((false, 0, ())))))
end
theorem aHC {p q : Rat × Rat} (h : (ra p.1, ra p.2, ()) = (ra q.1, ra q.2, ())) : p = q := by
 obtain ⟨h1, h2⟩ := Prod.mk.inj h
 obtain ⟨h2, -⟩ := Prod.mk.inj h2
 exact Prod.ext (aLv h1) (aLv h2)
theorem auA (n d : Int) (hd : d ≠ 0) : ∃ s : Int, s.natAbs = n.natAbs ∧ Rat.divInt n d = mkRat s d.natAbs ∧ s = (if d < 0 then -n else n) := by
 rcases zO d 0 with c | c
 ·refine ⟨-n, by omega, ?_, by rw [if_pos c]⟩
  rw [← Rat.neg_divInt_neg, ← xP]
  congr 1; omega
 ·refine ⟨n, rfl, ?_, by rw [if_neg zc]⟩
  rw [← xP]
  congr 1; omega
theorem aKm {k : Nat} {n d : Int} (hd : d ≠ 0) (h1 : Bd k n.natAbs) (h2 : Bd k d.natAbs) : BdQ k (Rat.divInt n d) := by
 obtain ⟨s, e1, e2, -⟩ := auA n d hd
 obtain ⟨g, t, hg, g0, e0, f1, f2⟩ := aeO s (d := d.natAbs) zc
 rw [e2]
 refine ⟨?_, ?_⟩
 ·rw [f1, ← acV e0 g0, e1]; exact aaS _ h1
 ·rw [f2]; exact aaS _ h2
theorem ayX {n d : Int} (h1 : Bd 6 n.natAbs) (h2 : Bd 6 d.natAbs) (h3 : d ≠ 0) : ah0 (pl n, pl d, ()) = some (ra (Rat.divInt n d), ()) := aaI (enc := fun x : Int × Int => (pl x.1, pl x.2, ())) (n, d) ⟨h1, h2, h3⟩ (fun b hb => akE hb)
theorem aGm {s : Int} {d : Nat} (hd : d ≠ 0) (h1 : Bd 6 s.natAbs) (h2 : Bd 6 d) : ∃ g : Nat, g = Nat.gcd s.natAbs d ∧ g ≠ 0 ∧ Bd 6 g ∧ s / (g : Int) = (mkRat s d).num ∧ (d : Int) / (g : Int) = ((mkRat s d).den : Int) := by
 obtain ⟨g, t, hg, g0, e0, f1, f2⟩ := aeO s hd
 refine ⟨g, hg, g0, by rw [hg]; exact aaY h1 h2, ?_, ?_⟩
 ·rw [f1, e0, Int.mul_ediv_cancel_left _ zc]
 ·rw [f2]; simp
theorem aBI (x x' : PlT) (y) (h : ah0 (x, x', ()) = some y) : (aoD x x').toO = some y := by
 obtain ⟨⟨n, d⟩, hp, hx, rfl⟩ := aaD h
 obtain ⟨rfl, hx2⟩ := Prod.mk.inj hx; obtain ⟨rfl, -⟩ := Prod.mk.inj hx2; dsimp only
 obtain ⟨l1, l2, l3⟩ := hp
 dsimp only at l1 l2 l3
 obtain ⟨s, e1, e2, e3⟩ := auA n d l3
 obtain ⟨g, hg, g0, bg, q1, q2⟩ := aGm (s := s) (d := d.natAbs) zc (by rw [e1]; exact l1) l2
 rw [e2]
 unfold aoD
 dsimp only
 have hgcd : Nat.gcd s.natAbs d.natAbs = g := hg.symm
 have g0' : (g : Int) ≠ 0 := zc
 by_cases c : d < 0
 ·rw [if_pos c] at e3
  subst e3
  refine uT (zo c) ?_
  refine uC _ (ayZ (aaH l1 zc)) (uC _ (ayZ (aaH l2 zc)) ?_)
  have hdv := amN (a := -n) (b := -d) (aaV (aaH l1 zc)) (aaV (aaH l2 zc))
  rw [xN d, hgcd] at hdv
  refine uC _ hdv ?_
  refine uC _ (anM (b := (g : Int)) (aaV l1) bg g0') ?_
  refine uC _ (anM (b := (g : Int)) (aaV l2) bg g0') ?_
  rw [q1, show -d = (d.natAbs : Int) by omega, q2]; rfl
 ·rw [if_neg c] at e3
  subst e3
  refine uF (zn c) ?_
  have hdv := amN (a := s) (b := d) (aaH l1 zc) (aaH l2 zc)
  rw [hgcd] at hdv
  refine uC _ hdv ?_
  refine uC _ (anM (b := (g : Int)) l1 bg g0') ?_
  refine uC _ (anM (b := (g : Int)) l2 bg g0') ?_
  rw [q1, show d = (d.natAbs : Int) by omega, zM, q2]; rfl
theorem aEk {n : Int} (h : aa8 n) : Bd 0 n.natAbs := aaG (by have := h.1; have := h.2; omega)
theorem aBa {n d : Int} (h1 : aa8 n) (h2 : aa8 d) (h3 : d ≠ 0) : ajS (n, d, ()) = some (ra (Rat.divInt n d), ()) := aaI (enc := fun x : Int × Int => (x.1, x.2, ())) (n, d) ⟨h1, h2, h3⟩ (fun b hb => by
 obtain ⟨e1, e2⟩ := Prod.mk.inj hb
 obtain ⟨e2, -⟩ := Prod.mk.inj e2
 exact Prod.ext e1 e2)
theorem aDu (n d : Int) (y) (h : ajS (n, d, ()) = some y) : (aAb n d).toO = some y := by
 obtain ⟨⟨n', d'⟩, hp, hx, rfl⟩ := aaD h
 obtain ⟨rfl, hx2⟩ := Prod.mk.inj hx; obtain ⟨rfl, -⟩ := Prod.mk.inj hx2; dsimp only
 obtain ⟨l1, l2, l3⟩ := hp
 exact uC _ (aiS l1) (uC _ (aiS l2) (uC _ (ayX (aaH (aEk l1) zc) (aaH (aEk l2) zc) l3) rfl))
theorem atB {s : FxT} (h : shF s) : aeW (s, ()) = some ((rdF s).isSome, ()) := by unfold aeW; rw [if_pos h]
theorem aDt (a : FxT) (y) (h : aeW (a, ()) = some y) : (arT a).toO = some y := by
 unfold aeW at h
 split at h
 case isFalse => cases h
 case isTrue hl =>
 injection h with h
 subst h
 obtain ⟨s, t, u⟩ := a
 obtain ⟨l1, l2⟩ := hl
 dsimp only at l1 l2 ⊢
 have hs := aQc s t
 unfold arT
 refine uC _ (aBe l1) ?_
 cases hn : rdW s with
 | none =>
  rw [hn] at hs
  rw [show rdF (s, t, u) = none from hs]
  exact uT rfl rfl
 | some n =>
  refine uF rfl (uC _ (aBe l2) ?_)
  cases hd : rdW t with
  | none =>
   rw [hn, hd] at hs
   rw [show rdF (s, t, u) = none from hs]
   exact uT rfl rfl
  | some d =>
   rw [hn, hd] at hs
   dsimp only at hs
   obtain ⟨f1, rfl⟩ := aeL hn
   obtain ⟨f2, rfl⟩ := aeL hd
   have b1 := al9 f1
   have b2 := al9 f2
   refine uF rfl (uC _ (aCR f1) (uC _ (aCR f2) ?_))
   dsimp only
   by_cases hp : 0 < d
   case neg =>
    rw [dif_neg (fun h => hp h.1)] at hs
    rw [show rdF (dec n, dec d, u) = none from hs]
    by_cases c : d < 0
    ·exact uT (zo c) rfl
    ·have : d = 0 := zc
     subst this
     exact uF rfl (uT (by rw [vN, dig_zero]; rfl) rfl)
   refine uF sd (uF ?_ ?_)
   ·rw [beq_eq_false_iff_ne, aaC]
    intro h
    have := dig_nil_iff.1 (zV.1 (show (dig d.natAbs).length = 0 by omega))
    omega
   have hdv := amN (a := n) (b := d) (aaH b1 zc) (aaH b2 zc)
   refine uC _ hdv (uC _ (aFc (aaH (aaY b1 b2) zc)) ?_)
   have h1 : aa3 1 = #[49].toList := by rw [abI zc]; rfl
   rw [aaK, aeA]
   by_cases hcop : n.natAbs.Coprime d.natAbs
   ·rw [dif_pos ⟨hp, hcop⟩] at hs
    rw [show rdF (dec n, dec d, u) = some _ from hs]
    have : Nat.gcd n.natAbs d.natAbs = 1 := hcop
    rw [this, h1]; rfl
   ·rw [dif_neg (fun h => hcop h.2)] at hs
    rw [show rdF (dec n, dec d, u) = none from hs]
    have : (aa3 (Nat.gcd n.natAbs d.natAbs) == #[49].toList) = false := by
     rw [beq_eq_false_iff_ne]
     exact fun h => hcop (aiJ (h.trans h1.symm))
    rw [this]; rfl
theorem aHk {q : Rat} (h : adK q) : as7 (fx q, ()) = some (ra q, ()) := aaI (enc := fun x : Rat => (fx x, ())) q h (fun b hb => anX (Prod.mk.inj hb).1)
theorem aLz (a : FxT) (y) (h : as7 (a, ()) = some y) : (aLy a).toO = some y := by
 obtain ⟨q, hp, hx, rfl⟩ := aaD h
 obtain ⟨rfl, -⟩ := Prod.mk.inj hx
 refine uC _ (aCR hp.1) (uC (pl q.den, ()) ?_ rfl)
 have := aCR hp.2
 rwa [aeA] at this
theorem aIo {q : Rat} (h : BdQ 6 q) : aqW (ra q, ()) = some (wrF q) := aaI (enc := fun x : Rat => (ra x, ())) q h (fun b hb => aLv (Prod.mk.inj hb).1)
theorem aIY (x : RaT) (y) (h : aqW (x, ()) = some y) : (aHF x).toO = some y := by
 obtain ⟨q, hp, hx, rfl⟩ := aaD h
 obtain ⟨rfl, -⟩ := Prod.mk.inj hx
 refine uC _ (aIp hp.1) (uC _ (aIp (z := (q.den : Int)) hp.2) ?_)
 by_cases c1 : Fit q.num
 ·rw [aiU c1]
  by_cases c2 : Fit q.den
  ·rw [aFn ⟨c1, c2⟩, aiU c2]
   refine uF rfl (uF rfl ?_)
   rw [aaK, aeA]
  ·rw [aBj (fun h => c2 h.2), arI c2]
   exact uF rfl (uT rfl rfl)
 ·rw [arI c1, aBj (fun h => c1 h.1)]
  exact uT rfl rfl
theorem aN6 {p q : Rat} (h1 : BdQ 3 p) (h2 : BdQ 3 q) : ayO (ra p, ra q, ()) = some (ra (p + q), ()) := aaI (enc := fun x : Rat × Rat => (ra x.1, ra x.2, ())) (p, q) ⟨h1, h2⟩ (fun b hb => aHC hb)
theorem aQA (x x' : RaT) (y) (h : ayO (x, x', ()) = some y) : (aLw x x').toO = some y := by
 obtain ⟨⟨p, q⟩, hp, hx, rfl⟩ := aaD h
 obtain ⟨rfl, hx2⟩ := Prod.mk.inj hx; obtain ⟨rfl, -⟩ := Prod.mk.inj hx2; dsimp only
 obtain ⟨⟨p1, p2⟩, q1, q2⟩ := hp
 dsimp only at p1 p2 q1 q2
 have t1 := aaB p1 (aaP q2)
 have t2 := aaB q1 (aaP p2)
 have t3 := aaB (aaP p2) (aaP q2)
 refine uC _ (aj6 (aaH p1 zc) (aaP (aaH q2 zc))) ?_
 refine uC _ (aj6 (aaH q1 zc) (aaP (aaH p2 zc))) ?_
 refine uC _ (arD (aaH t1 zc) (aaH t2 zc)) ?_
 refine uC _ (aj6 (a := (p.den : Int)) (b := (q.den : Int)) (aaP (aaH p2 zc)) (aaP (aaH q2 zc))) ?_
 have hd : (p.den : Int) * (q.den : Int) ≠ 0 := by
  have := xp p.den_nz q.den_nz
  rw [← yq]; omega
 refine uC _ (ayX (aaH (aaE t1 t2) zc) (aaH t3 zc) hd) ?_
 have : Rat.divInt (p.num * q.den + q.num * p.den) ((p.den : Int) * q.den) = p + q := by
  rw [← yq, xP, Rat.add_def']
 rw [this]; rfl
theorem aBb {p q : Rat} (h1 : BdQ 3 p) (h2 : BdQ 3 q) : ajT (ra p, ra q, ()) = some (auZ p q, ()) := aaI (enc := fun x : Rat × Rat => (ra x.1, ra x.2, ())) (p, q) ⟨h1, h2⟩ (fun b hb => aHC hb)
theorem aDv (x x' : RaT) (y) (h : ajT (x, x', ()) = some y) : (aAc x x').toO = some y := by
 obtain ⟨⟨p, q⟩, hp, hx, rfl⟩ := aaD h
 obtain ⟨rfl, hx2⟩ := Prod.mk.inj hx; obtain ⟨rfl, -⟩ := Prod.mk.inj hx2; dsimp only
 obtain ⟨⟨p1, p2⟩, q1, q2⟩ := hp
 dsimp only at p1 p2 q1 q2
 refine uC _ (aj6 (aaH p1 zc) (aaP (aaH q2 zc))) ?_
 refine uC _ (aj6 (aaH q1 zc) (aaP (aaH p2 zc))) ?_
 refine uC _ (aKE (aaH (aaB p1 (aaP q2)) zc) (aaH (aaB q1 (aaP p2)) zc)) ?_
 rw [aLP, Int.sub_eq_add_neg]; rfl
theorem aLx (n d : Int) (y) (h : ayP (n, d, ()) = some y) : (aFM n d).toO = some y := by
 unfold ayP amI at h
 split at h
 case isFalse => cases h
 case isTrue hp =>
 obtain ⟨i1, i2⟩ := hp
 dsimp only at i1 i2 h
 unfold ofQ at h
 unfold aFM
 by_cases c : d = 0
 ·rw [if_pos c] at h
  exact uT (by rw [c]; rfl) h
 ·rw [if_neg c] at h
  refine uF (by simpa using c) (uC _ (aBa i1 i2 c) (uC _ (aIo (aKm c (aaH (aEk i1) zc) (aaH (aEk i2) zc))) h))
theorem aRw (a b : FxT) (y) (h : aIm (a, b, ()) = some y) : (aOK a b).toO = some y := by
 unfold aIm at h
 split at h
 case isFalse => cases h
 case isTrue hp =>
 obtain ⟨s1, s2⟩ := hp
 unfold adU aOf at h
 dsimp only at h s1 s2
 refine uC _ (atB s1) ?_
 cases ha : rdF a with
 | none => simp only [ha] at h; exact uT rfl h
 | some p =>
  refine uF rfl (uC _ (atB s2) ?_)
  cases hb : rdF b with
  | none => simp only [ha, hb] at h; exact uT rfl h
  | some q =>
   simp only [ha, hb] at h
   refine uF rfl ?_
   have b1 := ahF ha
   have b2 := ahF hb
   obtain ⟨f1, rfl⟩ := ah7 ha
   obtain ⟨f2, rfl⟩ := ah7 hb
   refine uC _ (aHk f1) (uC _ (aHk f2) ?_)
   exact uC _ (aN6 (aeI b1 zc) (aeI b2 zc)) (uC _ (aIo (aeI (aG9 b1 b2) zc)) h)
theorem aNJ {q : Rat} (h : adK q) : BdQ 3 q := ⟨aaH (al9 h.1) zc, aaH (al9 h.2) zc⟩
theorem aDs (b : BdT) (y) (h : anF (b, ()) = some y) : (arS b).toO = some y := by
 injection h with h
 subst h
 obtain ⟨lo, hi, u⟩ := b
 unfold arS
 dsimp only
 by_cases h1 : lo ≥ -1000000000000000000
 ·refine uT (zo h1) ?_
  by_cases h2 : lo ≤ hi
  ·refine uT (zo h2) ?_
   rw [aaK]
   congr 2
   exact decide_eq_decide.2 ⟨fun h => ⟨h1, h2, h⟩, fun h => h.2.2⟩
  ·refine uF (zn h2) ?_
   rw [aaK, zn (fun h : okB lo hi => h2 h.2.1)]
 ·refine uF (zn h1) ?_
  rw [aaK, zn (fun h : okB lo hi => h1 h.1)]
theorem aKC (b : BdT) : anF (b, ()) = some (decide (okB b.1 b.2.1), ()) := rfl
theorem aA9 {n : Int} (h : aa8 n) : af0 (n, ()) = some (ra (mkRat n 1000000000000), ()) := by unfold af0; rw [if_pos h]
theorem aDr (n : Int) (y) (h : af0 (n, ()) = some y) : (aAa n).toO = some y := by
 unfold af0 at h
 split at h
 case isFalse => cases h
 case isTrue hp =>
 injection h with h
 subst h
 refine uC _ (aBa hp ⟨by omega, by omega⟩ zc) ?_
 have : Rat.divInt n 1000000000000 = mkRat n 1000000000000 := xP n 1000000000000
 rw [this]; rfl
theorem aNH {k : Nat} {n : Int} {d : Nat} (hd : d ≠ 0) (h1 : Bd k n.natAbs) (h2 : Bd k d) : BdQ k (mkRat n d) := by
 obtain ⟨g, t, hg, g0, e0, f1, f2⟩ := aeO n hd
 refine ⟨?_, ?_⟩
 ·rw [f1, ← acV e0 g0]; exact aaS _ h1
 ·rw [f2]; exact aaS _ h2
theorem aIh {n : Int} (h : aa8 n) : BdQ 0 (mkRat n 1000000000000) := aNH zc (aEk h) (aaG zc)
theorem aGk (n : Int) : mkRat n 1000000000000 * acE = (n : Rat) := apV n zc
theorem ajC : (0 : Rat) < acE := by unfold acE; decide
theorem ar4 (p q : Rat) : auZ p q ≤ 0 ↔ p ≤ q := by
 have := aBV p q
 constructor
 ·intro h; exact wT.1 (fun h2 => by have := this.2 h2; omega)
 ·intro h
  rcases zO 0 (auZ p q) with h2 | h2
  ·exact absurd h (vO.2 (this.1 h2))
  ·exact h2
theorem afS (n : Int) (q : Rat) : mkRat n 1000000000000 ≤ q ↔ (n : Rat) ≤ q * acE := by
 rw [← aGk n]
 constructor
 ·intro h; exact xK h (Rat.le_of_lt ajC)
 ·intro h; exact wW h ajC
theorem ahM (n : Int) (q : Rat) : q ≤ mkRat n 1000000000000 ↔ q * acE ≤ (n : Rat) := by
 rw [← aGk n]
 constructor
 ·intro h; exact xK h (Rat.le_of_lt ajC)
 ·intro h; exact wW h ajC
theorem aIV (b : BdT) (a : FxT) (y) (h : anG (b, a, ()) = some y) : (aHE b a).toO = some y := by
 unfold anG at h
 split at h
 case isFalse => cases h
 case isTrue hs =>
 injection h with h
 subst h
 unfold aSx
 dsimp only at hs ⊢
 refine uC _ (aKC _) ?_
 by_cases c : okB b.1 b.2.1
 case neg => rw [if_neg c]; exact uT (by rw [zn c]; rfl) rfl
 rw [if_pos c]
 refine uF (by rw [zo c]; rfl) (uC _ (atB hs) ?_)
 cases ha : rdF a with
 | none => exact uT rfl rfl
 | some q =>
  obtain ⟨f1, rfl⟩ := ah7 ha
  obtain ⟨c1, c2, c3⟩ := c
  have i1 : aa8 b.1 := ⟨by omega, by omega⟩
  have i2 : aa8 b.2.1 := ⟨by omega, by omega⟩
  refine uF rfl (uC _ (aHk f1) (uC _ (aA9 i1) (uC _ (aBb (aeI (aIh i1) zc) (aNJ f1)) ?_)))
  dsimp only
  by_cases d1 : (b.1 : Rat) ≤ q * acE
  ·refine uT (zo ((ar4 _ _).2 ((afS _ _).2 d1))) ?_
   refine uC _ (aA9 i2) (uC _ (aBb (aNJ f1) (aeI (aIh i2) zc)) ?_)
   rw [aaK]
   congr 2
   exact decide_eq_decide.2 ⟨fun h => ⟨d1, (ahM _ _).1 ((ar4 _ _).1 h)⟩, fun h => (ar4 _ _).2 ((ahM _ _).2 h.2)⟩
  ·refine uF (zn (fun h => d1 ((afS _ _).1 ((ar4 _ _).1 h)))) ?_
   rw [aaK, zn (fun h => d1 h.1)]
set_option maxRecDepth 100000
open Go Go.Vg Go.Proofs
noncomputable section
def aGz : LTab := [(177, 8186, 49153, ⟨0, (Int) × (List Int) × (List Int) × Unit, .dat (.s 12) uk <| .row 41 un <| .row 26 un <| .nil, [4, 11, 10, 9, 8, 5], [41, 26], 0⟩), (209, 63, 95232, ⟨1, (Int) × Unit, .dat (.s 8) uJ <| .nil, [5, 4, 0, 1], [41, 26], 0⟩), (209, 252, 95232, ⟨2, (Int) × (Int) × Unit, .dat (.s 9) uJ <| .dat (.s 8) uJ <| .nil, [6, 5, 4, 0, 1], [41, 26], 0⟩), (209, 2042, 100352, ⟨3, (Int) × (Int) × (Int) × (List Int) × Unit, .dat (.s 77) uk <| .dat (.s 11) uk <| .dat (.s 10) uJ <| .row 26 un <| .nil, [76, 75, 8, 5, 4, 0, 1], [41, 26], 0⟩), (209, 65454, 118784, ⟨4, (Int) × (Int) × (List Int) × Unit, .dat (.s 125) uk <| .dat (.s 15) un <| .row 26 un <| .nil, [124, 123, 8, 5, 4, 0], [41, 26], 0⟩)]
def ahQ (i1 : (Int) × (Int) × Unit) (y3 : List Int × Unit) (i : Int × List Int × List Int × Unit) : TT (uG ⊕ (uW ⊕ uw)) :=
 .ite (decide (abE (i1.1 + abE (gi y3.1 (w64 (len y3.1 - 1)) 0)) ≥ 1000000000))
 (.tt <| .lt (abE (i1.2.1 - 1) : Int) fun z5 => .vT (ue z5 (len y3.1) (0 : Int) <| (vY 26 (0 + Int.toNat i.1) (Int.toNat (w64 (w64 (i.1 + len y3.1) + 1)) - Int.toNat i.1) true) ∧ uc y3.1) <| .vT (vS (vX 189 i.2.1) <| vS (vX 189 i.2.2.1) True) <| .ok (.inr (.inl ((z5, ())))))
 (.tt <| .lt (abE (i1.1 + abE (gi y3.1 (w64 (len y3.1 - 1)) 0)) : Int) fun z6 => .lt (abE (i1.2.1 - 1) : Int) fun z7 => .vT (vZ z7 z6 (abE (gi y3.1 (w64 (len y3.1 - 1)) 0) : Int) (len y3.1) (0 : Int) <| (vY 26 (0 + Int.toNat i.1) (Int.toNat (w64 (w64 (i.1 + len y3.1) + 1)) - Int.toNat i.1) true) ∧ uc y3.1) <| .vT (vS (vX 189 i.2.1) <| vS (vX 189 i.2.2.1) True) <| .ok (.inl ((z6, z7, ()))))
def agQ (m : List Int) (o : List Int) (y : Int × Unit) (y3 : List Int × Unit) (y4 : List Int × Unit) (i : Int × List Int × List Int × Unit) (i1 : (Int) × (Int) × Unit) : TT (uG ⊕ (uW ⊕ uw)) :=
 .ite (decide (i1.2.1 ≥ 1000000000))
 (ahQ i1 y3 i)
 (.need (inb (w64 (len y3.1 - 2)) (len y3.1)) <| .need (inb (w64 (len y3.1 - 2)) (↑(Int.toNat (w64 (w64 (i.1 + len y3.1) + 1)) - Int.toNat i.1) : Int)) <| .ite (decide (abE (i1.2.1 * abE (gi y3.1 (w64 (len y3.1 - 2)) 0)) > abE (abE (i1.1 * 1000000000) + abE (List.getD i.2.2.1 (0 + Int.toNat i.1 + Int.toNat (w64 (len y3.1 - 2))) 0))))
  (ahQ i1 y3 i)
  (.tt <| .lt (i1.2.1 : Int) fun z11 => .vT (ue z11 (len y3.1) (0 : Int) <| (vY 26 (0 + Int.toNat i.1) (Int.toNat (w64 (w64 (i.1 + len y3.1) + 1)) - Int.toNat i.1) true) ∧ uc y3.1) <| .vT (vS (vX 189 i.2.1) <| vS (vX 189 i.2.2.1) True) <| .ok (.inr (.inl ((z11, ()))))))
def aiE (m : List Int) (o : List Int) (y : Int × Unit) (y3 : List Int × Unit) (y4 : List Int × Unit) (i : Int × List Int × List Int × Unit) (j : Int × Unit) (i2 : Int × Int × Int × List Int × Unit) (i3 : (Int) × (Int) × (List Int) × Unit) : TT (uP ⊕ tY) :=
 .ite (decide (i3.1 < len y3.1))
 (.need (inb i3.1 (len y3.1)) <| .need (inb i3.1 (↑(Int.toNat (w64 (w64 (i.1 + len y3.1) + 1)) - Int.toNat i.1) : Int)) <| .ite (decide (adY (adY (List.getD i3.2.2.1 (0 + Int.toNat i.1 + Int.toNat i3.1) 0 + gi y3.1 i3.1 0) + i3.2.1) ≥ 1000000000))
 (.need (inb i3.1 (↑(Int.toNat (w64 (w64 (i.1 + len y3.1) + 1)) - Int.toNat i.1) : Int)) <| .tt <| .lt (w64 (i3.1 + 1) : Int) fun z20 => .lt (List.set i3.2.2.1 (0 + Int.toNat i.1 + Int.toNat i3.1) (adY (adY (adY (List.getD i3.2.2.1 (0 + Int.toNat i.1 + Int.toNat i3.1) 0 + gi y3.1 i3.1 0) + i3.2.1) - 1000000000)) : List Int) fun z21 => .vT (ug (1 : Int) z20 (len y3.1) y3.1 (abE (j.1 - 1)) (len y3.1) (0 : Int) <| (vY 26 (0 + Int.toNat i.1) (Int.toNat (w64 (w64 (i.1 + len y3.1) + 1)) - Int.toNat i.1) true) ∧ True) <| .vT (vS (vX 189 i.2.1) <| vS (vX 189 z21) True) <| .ok (.inl ((z20, 1, z21, ()))))
 (.need (inb i3.1 (↑(Int.toNat (w64 (w64 (i.1 + len y3.1) + 1)) - Int.toNat i.1) : Int)) <| .tt <| .lt (w64 (i3.1 + 1) : Int) fun z22 => .lt (List.set i3.2.2.1 (0 + Int.toNat i.1 + Int.toNat i3.1) (adY (adY (List.getD i3.2.2.1 (0 + Int.toNat i.1 + Int.toNat i3.1) 0 + gi y3.1 i3.1 0) + i3.2.1)) : List Int) fun z23 => .vT (ug (0 : Int) z22 (len y3.1) y3.1 (abE (j.1 - 1)) (len y3.1) (0 : Int) <| (vY 26 (0 + Int.toNat i.1) (Int.toNat (w64 (w64 (i.1 + len y3.1) + 1)) - Int.toNat i.1) true) ∧ True) <| .vT (vS (vX 189 i.2.1) <| vS (vX 189 z23) True) <| .ok (.inl ((z22, 0, z23, ())))))
 (.need (inb (len y3.1) (↑(Int.toNat (w64 (w64 (i.1 + len y3.1) + 1)) - Int.toNat i.1) : Int)) <| .need (inb i.1 (↑(Int.toNat (w64 (w64 (len m - len y3.1) + 1))) : Int)) <| .tt <| .lt (w64 (i.1 - 1) : Int) fun z24 => .lt (List.set i.2.1 (0 + Int.toNat i.1) (adY (abE (j.1 - 1))) : List Int) fun z25 => .lt (List.set i3.2.2.1 (0 + Int.toNat i.1 + Int.toNat (len y3.1)) 0 : List Int) fun z26 => .vT (vU z24 <| (vY 41 0 (Int.toNat (w64 (w64 (len m - len y3.1) + 1))) true) ∧ (vU (len y3.1) <| (vY 26 0 (Int.toNat (w64 (len m + 1))) true) ∧ (ua y3.1 (adY (Int.tdiv 1000000000 (adY (gi o (w64 (len o - 1)) 0 + 1))) : Int) <| True ∧ True))) <| .vT (vS (vX 189 z25) <| vS (vX 189 z26) True) <| .ok (.inr (.inr (.inl ((z24, z25, z26, ()))))))
def agP (m : List Int) (o : List Int) (y : Int × Unit) (y3 : List Int × Unit) (y4 : List Int × Unit) (i : Int × List Int × List Int × Unit) (j : Int × Unit) (i2 : (Int) × (Int) × (Int) × (List Int) × Unit) : TT tY :=
 .ite (decide (i2.1 < len y3.1))
 (.need (inb i2.1 (len y3.1)) <| .need (inb i2.1 (↑(Int.toNat (w64 (w64 (i.1 + len y3.1) + 1)) - Int.toNat i.1) : Int)) <| .triv (asT Int 1000000000 ≠ 0) zf <| .triv (asT Int 1000000000 ≠ 0) zf <| .ite (decide (w64 (w64 (w64 (List.getD i2.2.2.2.1 (0 + Int.toNat i.1 + Int.toNat i2.1) 0) - i2.2.1) - w64 (Int.tmod (abE (i2.2.2.1 + abE (j.1 * abE (gi y3.1 i2.1 0)))) 1000000000)) < 0))
 (.need (inb i2.1 (↑(Int.toNat (w64 (w64 (i.1 + len y3.1) + 1)) - Int.toNat i.1) : Int)) <| .tt <| .lt (w64 (i2.1 + 1) : Int) fun z13 => .lt (abE (Int.tdiv (abE (i2.2.2.1 + abE (j.1 * abE (gi y3.1 i2.1 0)))) 1000000000) : Int) fun z14 => .lt (List.set i2.2.2.2.1 (0 + Int.toNat i.1 + Int.toNat i2.1) (adY (w64 (w64 (w64 (w64 (List.getD i2.2.2.2.1 (0 + Int.toNat i.1 + Int.toNat i2.1) 0) - i2.2.1) - w64 (Int.tmod (abE (i2.2.2.1 + abE (j.1 * abE (gi y3.1 i2.1 0)))) 1000000000)) + 1000000000))) : List Int) fun z15 => .vT (ud z14 (1 : Int) z13 (len y3.1) y3.1 j.1 (len y3.1) (0 : Int) <| (vY 26 (0 + Int.toNat i.1) (Int.toNat (w64 (w64 (i.1 + len y3.1) + 1)) - Int.toNat i.1) true) ∧ uc y3.1) <| .vT (vS (vX 189 i.2.1) <| vS (vX 189 z15) True) <| .ok (.inl ((z13, 1, z14, z15, ()))))
 (.need (inb i2.1 (↑(Int.toNat (w64 (w64 (i.1 + len y3.1) + 1)) - Int.toNat i.1) : Int)) <| .tt <| .lt (w64 (i2.1 + 1) : Int) fun z16 => .lt (abE (Int.tdiv (abE (i2.2.2.1 + abE (j.1 * abE (gi y3.1 i2.1 0)))) 1000000000) : Int) fun z17 => .lt (List.set i2.2.2.2.1 (0 + Int.toNat i.1 + Int.toNat i2.1) (adY (w64 (w64 (w64 (List.getD i2.2.2.2.1 (0 + Int.toNat i.1 + Int.toNat i2.1) 0) - i2.2.1) - w64 (Int.tmod (abE (i2.2.2.1 + abE (j.1 * abE (gi y3.1 i2.1 0)))) 1000000000)))) : List Int) fun z18 => .vT (ud z17 (0 : Int) z16 (len y3.1) y3.1 j.1 (len y3.1) (0 : Int) <| (vY 26 (0 + Int.toNat i.1) (Int.toNat (w64 (w64 (i.1 + len y3.1) + 1)) - Int.toNat i.1) true) ∧ uc y3.1) <| .vT (vS (vX 189 i.2.1) <| vS (vX 189 z18) True) <| .ok (.inl ((z16, 0, z17, z18, ())))))
 (.need (inb (len y3.1) (↑(Int.toNat (w64 (w64 (i.1 + len y3.1) + 1)) - Int.toNat i.1) : Int)) <| .ite (decide (w64 (w64 (List.getD i2.2.2.2.1 (0 + Int.toNat i.1 + Int.toNat (len y3.1)) 0) - i2.2.1) < w64 i2.2.2.1))
 (.loop 4 (.tt <| .lt (i2.2.2.2.1 : List Int) fun z19 => .vT (ug (0 : Int) (0 : Int) (len y3.1) y3.1 (abE (j.1 - 1)) (len y3.1) (0 : Int) <| (vY 26 (0 + Int.toNat i.1) (Int.toNat (w64 (w64 (i.1 + len y3.1) + 1)) - Int.toNat i.1) true) ∧ True) <| .vT (vS (vX 189 i.2.1) <| vS (vX 189 z19) True) <| .ok ((0, 0, z19, ()))) (aiE m o y y3 y4 i j i2))
 (.need (inb (len y3.1) (↑(Int.toNat (w64 (w64 (i.1 + len y3.1) + 1)) - Int.toNat i.1) : Int)) <| .need (inb i.1 (↑(Int.toNat (w64 (w64 (len m - len y3.1) + 1))) : Int)) <| .tt <| .lt (w64 (i.1 - 1) : Int) fun z27 => .lt (List.set i.2.1 (0 + Int.toNat i.1) (adY j.1) : List Int) fun z28 => .lt (List.set i2.2.2.2.1 (0 + Int.toNat i.1 + Int.toNat (len y3.1)) 0 : List Int) fun z29 => .vT (vU z27 <| (vY 41 0 (Int.toNat (w64 (w64 (len m - len y3.1) + 1))) true) ∧ (vU (len y3.1) <| (vY 26 0 (Int.toNat (w64 (len m + 1))) true) ∧ (ua y3.1 (adY (Int.tdiv 1000000000 (adY (gi o (w64 (len o - 1)) 0 + 1))) : Int) <| True ∧ True))) <| .vT (vS (vX 189 z28) <| vS (vX 189 z29) True) <| .ok (.inr (.inl ((z27, z28, z29, ()))))))
def at6 (m : List Int) (o : List Int) (y : Int × Unit) (y3 : List Int × Unit) (y4 : List Int × Unit) (i : Int × List Int × List Int × Unit) (j : (Int) × Unit) : TT uw :=
 .loop 3 (.tt <| .lt (i.2.2.1 : List Int) fun z12 => .vT (ud (0 : Int) (0 : Int) (0 : Int) (len y3.1) y3.1 j.1 (len y3.1) (0 : Int) <| (vY 26 (0 + Int.toNat i.1) (Int.toNat (w64 (w64 (i.1 + len y3.1) + 1)) - Int.toNat i.1) true) ∧ uc y3.1) <| .vT (vS (vX 189 i.2.1) <| vS (vX 189 z12) True) <| .ok ((0, 0, 0, z12, ()))) (agP m o y y3 y4 i j)
def aiF (m : List Int) (o : List Int) (y : Int × Unit) (y3 : List Int × Unit) (y4 : List Int × Unit) (i : (Int) × (List Int) × (List Int) × Unit) : TT uw :=
 .ite (decide (i.1 ≥ 0))
 (.need (inc (w64 (w64 (i.1 + len y3.1) + 1)) (↑(Int.toNat (w64 (len m + 1))) : Int)) <| .need (inc i.1 (↑(Int.toNat (w64 (w64 (i.1 + len y3.1) + 1))) : Int)) <| .tt <| .tt <| .need (inb (w64 (len y3.1 - 1)) (len y3.1)) <| .need (inb (len y3.1) (↑(Int.toNat (w64 (w64 (i.1 + len y3.1) + 1)) - Int.toNat i.1) : Int)) <| .need (inb (w64 (len y3.1 - 1)) (↑(Int.toNat (w64 (w64 (i.1 + len y3.1) + 1)) - Int.toNat i.1) : Int)) <| .need (abE (gi y3.1 (w64 (len y3.1 - 1)) 0) ≠ 0) <| .need (abE (gi y3.1 (w64 (len y3.1 - 1)) 0) ≠ 0) <| .join 1 (ι := (Int) × Unit) (.loop 2 (.tt <| .lt (Int.tmod (abE (abE (abE (List.getD i.2.2.1 (0 + Int.toNat i.1 + Int.toNat (len y3.1)) 0) * 1000000000) + abE (List.getD i.2.2.1 (0 + Int.toNat i.1 + Int.toNat (w64 (len y3.1 - 1))) 0))) (abE (gi y3.1 (w64 (len y3.1 - 1)) 0)) : Int) fun z3 => .lt (abE (Int.tdiv (abE (abE (abE (List.getD i.2.2.1 (0 + Int.toNat i.1 + Int.toNat (len y3.1)) 0) * 1000000000) + abE (List.getD i.2.2.1 (0 + Int.toNat i.1 + Int.toNat (w64 (len y3.1 - 1))) 0))) (abE (gi y3.1 (w64 (len y3.1 - 1)) 0))) : Int) fun z4 => .vT (vZ z4 z3 (abE (gi y3.1 (w64 (len y3.1 - 1)) 0) : Int) (len y3.1) (0 : Int) <| (vY 26 (0 + Int.toNat i.1) (Int.toNat (w64 (w64 (i.1 + len y3.1) + 1)) - Int.toNat i.1) true) ∧ uc y3.1) <| .vT (vS (vX 189 i.2.1) <| vS (vX 189 i.2.2.1) True) <| .ok ((z3, z4, ()))) (agQ m o y y3 y4 i)) (at6 m o y y3 y4 i))
 (.need (inc (len y3.1) (↑(Int.toNat (w64 (len m + 1))) : Int)) <| .call (acG (List.take (Int.toNat (len y3.1)) i.2.2.1, ())) Dd0 fun y5 =>
 .call (ajY (y5.1, adY (Int.tdiv 1000000000 (adY (gi o (w64 (len o - 1)) 0 + 1))), ())) aSC fun y6 =>
 .call (acG (List.take (Int.toNat (w64 (w64 (len m - len y3.1) + 1))) i.2.1, ())) Dd0 fun y7 =>
 .ok (.inr ((y7.1, y6.1, ()))))
def akK (m : List Int) (o : List Int) : TT (List Int × List Int × Unit) :=
 .call (adS (m, o, ())) Dd6 fun y =>
 .ite (decide (y.1 < 0))
 (.ok (([], m, ())))
 (.ite (len o == 1)
 (.need (asT Int 0 ≤ 0 ∧ 0 < len o) <| .call (ajY (m, gi o 0 0, ())) aSC fun y1 =>
 .call (abO (abE y1.2.1, ())) Dd0 fun y2 =>
 .ok ((y1.1, y2.1, ())))
 (.need (inb (w64 (len o - 1)) (len o)) <| .need (adY (gi o (w64 (len o - 1)) 0 + 1) ≠ 0) <| .call (acD (o, [adY (Int.tdiv 1000000000 (adY (gi o (w64 (len o - 1)) 0 + 1)))], ())) Dd0 fun y3 =>
 .need (0 ≤ w64 (len m + 1) ∧ w64 (len m + 1) ≤ w64 (len m + 1) ∧ w64 (len m + 1) * (↑4 : Int) ≤ 140737488355328) <| .call (acD (m, [adY (Int.tdiv 1000000000 (adY (gi o (w64 (len o - 1)) 0 + 1)))], ())) Dd0 fun y4 =>
 .need (0 ≤ w64 (w64 (len m - len y3.1) + 1) ∧ w64 (w64 (len m - len y3.1) + 1) ≤ w64 (w64 (len m - len y3.1) + 1) ∧ w64 (w64 (len m - len y3.1) + 1) * (↑4 : Int) ≤ 140737488355328) <| .loop 0 (.tt <| .lt (w64 (len m - len y3.1) : Int) fun z => .lt (List.replicate (Int.toNat (w64 (z + 1))) 0 : List Int) fun z1 => .lt (over (List.replicate (Int.toNat (w64 (len m + 1))) 0) 0 (List.take (Int.toNat (w64 (len m + 1))) y4.1) : List Int) fun z2 => .vT (vU z <| (vY 41 0 (Int.toNat (w64 (z + 1))) true) ∧ (vU (len y3.1) <| (vY 26 0 (Int.toNat (w64 (len m + 1))) true) ∧ (ua y3.1 (adY (Int.tdiv 1000000000 (adY (gi o (w64 (len o - 1)) 0 + 1))) : Int) <| True ∧ True))) <| .vT (vS (vX 189 z1) <| vS (vX 189 z2) True) <| .ok ((z, z1, z2, ()))) (aiF m o y y3 y4)))
def aFq : LTab := [(247, 8186, 49153, ⟨0, (Int) × (List Int) × (List Int) × Unit, .dat (.s 12) uk <| .row 41 un <| .row 26 un <| .nil, [4, 11, 10, 9, 8, 5], [41, 26], 0⟩), (269, 63, 95232, ⟨1, (Int) × Unit, .dat (.s 8) uJ <| .nil, [5, 4, 0, 1], [41, 26], 0⟩), (269, 252, 95232, ⟨2, (Int) × (Int) × Unit, .dat (.s 9) uJ <| .dat (.s 8) uJ <| .nil, [6, 5, 4, 0, 1], [41, 26], 0⟩), (269, 2042, 100352, ⟨3, (Int) × (Int) × (Int) × (List Int) × Unit, .dat (.s 77) uk <| .dat (.s 11) uk <| .dat (.s 10) uJ <| .row 26 un <| .nil, [76, 75, 8, 5, 4, 0, 1], [41, 26], 0⟩), (269, 65454, 118784, ⟨4, (Int) × (Int) × (List Int) × Unit, .dat (.s 125) uk <| .dat (.s 15) un <| .row 26 un <| .nil, [124, 123, 8, 5, 4, 0], [41, 26], 0⟩)]
end
end Go.Vs
