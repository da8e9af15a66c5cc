/-
  Trees of what the functions compute, and their laws. Own work; no condition.
-/
import Derived.Test.YtakjojajnblpoaaGreatDoorClL4
import Derived.Test.YtakjojajnblpoaaGreatDoorProg
set_option linter.unusedVariables false
set_option linter.unusedSimpArgs false
namespace Go.Vs
open Go Go.Vg
theorem aoH {k n : Nat} (h : Bd k n) (hk : k ≤ 8) : (dig n).length ≤ 1000000000000 := zD (aw4 h hk) zc
theorem axQ {z : Int} (h : Bd 8 z.natAbs) : ajE (pl z, ()) = some (pl (-z), ()) := aaI (enc := fun x : Int => (pl x, ())) z h (fun b hb => avA (Prod.mk.inj hb).1)
theorem aEV (x : PlT) (y) (h : ajE (x, ()) = some y) : (aCI x).toO = some y := by
 obtain ⟨z, hp, hx, rfl⟩ := aaE h
 obtain ⟨rfl, -⟩ := Prod.mk.inj hx
 refine uC (pl (-z), ()) (af4 (aoH hp zc) zc ?_) rfl
 by_cases h0 : z = 0
 ·left; omega
 ·right
  show (!decide (z < 0)) = decide (-z < 0)
  by_cases h1 : z < 0
  ·rw [zo h1, zn zc]; rfl
  ·rw [zn h1, zo zc]; rfl
theorem aOQ {a b : Nat} (h1 : (dig a).length ≤ 1000000000000) (h2 : (dig b).length ≤ 1000000000000) : auD (dig a, dig b, ()) = some (dig (a + b), ()) := aaI (enc := fun p : Nat × Nat => (dig p.1, dig p.2, ())) (a, b) ⟨h1, h2⟩ (fun b hb => aAa hb)
theorem aAp {a b : Nat} (h1 : (dig a).length ≤ 1000000000000) (h : b ≤ a) : abA (dig a, dig b, ()) = some (dig (a - b), ()) := al0 (adC a) (adC b) h1 (ab2 h) (by rw [ahM, ahM]; omega) (by rw [ahM, ahM]; omega)
theorem aJv {a b : Nat} (h1 : (dig a).length ≤ 400000000000) (h2 : (dig b).length ≤ 400000000000) : abT (dig a, dig b, ()) = some (dig (a * b), ()) := alZ (adC a) (Or.inl (adC b)) h1 h2 (by rw [ahM, ahM]; simp)
theorem aqM {a b : Int} (h1 : Bd 7 a.natAbs) (h2 : Bd 7 b.natAbs) : agL (pl a, pl b, ()) = some (pl (a + b), ()) := aaI (enc := fun p : Int × Int => (pl p.1, pl p.2, ())) (a, b) ⟨h1, h2⟩ (fun b hb => amB hb)
theorem aEY (x x' : PlT) (y) (h : agL (x, x', ()) = some y) : (au8 x x').toO = some y := by
 obtain ⟨⟨a, b⟩, hp, hx, rfl⟩ := aaE h
 obtain ⟨rfl, hx2⟩ := Prod.mk.inj hx; obtain ⟨rfl, -⟩ := Prod.mk.inj hx2; dsimp only
 obtain ⟨l1, l2⟩ := hp
 simp only at l1 l2
 have d1 := aoH l1 zc
 have d2 := aoH l2 zc
 have d3 := aoH (aaZ l1 l2) zc
 unfold au8
 dsimp only
 by_cases hs : (decide (a < 0) == decide (b < 0)) = true
 ·refine uT hs ?_
  have hs' : (a < 0 ↔ b < 0) := by simpa using hs
  refine uC _ (aOQ d1 d2) ?_
  refine uC (pl (a + b), ()) (af4 d3 zc (Or.inr (decide_eq_decide.2 zc))) rfl
 ·have hs' : ¬ (a < 0 ↔ b < 0) := by simpa using hs
  refine uF (by simpa using hs) ?_
  refine uC _ (asH _ _ (adC _) (adC _) d1 d2) ?_
  obtain ⟨o1, o2⟩ := aGN a.natAbs b.natAbs
  by_cases hc : a.natAbs < b.natAbs
  ·refine uF (zn (by have := o1.2 hc; dsimp only; omega)) ?_
   refine uC _ (aAp d2 zc) ?_
   have d4 : (dig (b.natAbs - a.natAbs)).length ≤ 1000000000000 := zD (ab2 (Nat.sub_le _ _)) d2
   refine uC (pl (a + b), ()) (af4 d4 zc (Or.inr (decide_eq_decide.2 zc))) rfl
  ·refine uT (zo (by
    rcases zQ (aO4 (dig a.natAbs) (dig b.natAbs)) 0 with h | h
    ·exact absurd (o1.1 h) hc
    ·exact h)) ?_
   refine uC _ (aAp d1 zc) ?_
   have d4 : (dig (a.natAbs - b.natAbs)).length ≤ 1000000000000 := zD (ab2 (Nat.sub_le _ _)) d1
   refine uC (pl (a + b), ()) (af4 d4 zc ?_) rfl
   by_cases h0 : a + b = 0
   ·exact Or.inl h0
   ·exact Or.inr (decide_eq_decide.2 zc)
theorem aJw {a b : Int} (h1 : Bd 7 a.natAbs) (h2 : Bd 7 b.natAbs) : amY (pl a, pl b, ()) = some (pl (a - b), ()) := aaI (enc := fun p : Int × Int => (pl p.1, pl p.2, ())) (a, b) ⟨h1, h2⟩ (fun b hb => amB hb)
theorem aCM (x x' : PlT) (y) (h : amY (x, x', ()) = some y) : (azC x x').toO = some y := by
 obtain ⟨⟨a, b⟩, hp, hx, rfl⟩ := aaE h
 obtain ⟨rfl, hx2⟩ := Prod.mk.inj hx; obtain ⟨rfl, -⟩ := Prod.mk.inj hx2; dsimp only
 obtain ⟨l1, l2⟩ := hp
 refine uC _ (axQ (aaH l2 zc)) (uC _ (aqM l1 (aaV l2)) ?_)
 rw [Int.sub_eq_add_neg]; rfl
theorem aN7 {a b : Int} : a * b = 0 ∨ (!(decide (a < 0) == decide (b < 0))) = decide (a * b < 0) := by
 by_cases hz : a * b = 0
 ·exact Or.inl hz
 ·right
  have z1 : a ≠ 0 := fun h => hz (by rw [h]; simp)
  have z2 : b ≠ 0 := fun h => hz (by rw [h]; simp)
  rcases zQ a 0 with c1 | c1 <;> rcases zQ b 0 with c2 | c2
  ·have := wg c1 c2
   rw [zo c1, zo c2, zn zc]; rfl
  ·have := xY c1 (show 0 < b by omega)
   rw [zo c1, zn zc, zo zc]; rfl
  ·have := xZ (show 0 < a by omega) c2
   rw [zn zc, zo c2, zo zc]; rfl
  ·have := vq (show 0 < a by omega) (show 0 < b by omega)
   rw [zn zc, zn zc, zn zc]; rfl
theorem ajO {a b : Int} (h1 : Bd 7 a.natAbs) (h2 : Bd 7 b.natAbs) : aeU (pl a, pl b, ()) = some (pl (a * b), ()) := aaI (enc := fun p : Int × Int => (pl p.1, pl p.2, ())) (a, b) ⟨h1, h2⟩ (fun b hb => amB hb)
theorem aCJ (x x' : PlT) (y) (h : aeU (x, x', ()) = some y) : (azA x x').toO = some y := by
 obtain ⟨⟨a, b⟩, hp, hx, rfl⟩ := aaE h
 obtain ⟨rfl, hx2⟩ := Prod.mk.inj hx; obtain ⟨rfl, -⟩ := Prod.mk.inj hx2; dsimp only
 obtain ⟨l1, l2⟩ := hp
 simp only at l1 l2
 have d1 := aw4 l1 zc
 have d2 := aw4 l2 zc
 refine uC _ (aJv (zD d1 zc) (zD d2 zc)) ?_
 refine uC (pl (a * b), ()) (af4 (aoH (aaW l1 l2) zc) (by rw [yF]) aN7) rfl
theorem aAo {a b : Nat} (h1 : (dig a).length ≤ 200000000000) (h2 : (dig b).length ≤ 200000000000) (h3 : b ≠ 0) : ajD (dig a, dig b, ()) = some (dig (a / b), dig (a % b), ()) := aaI (enc := fun p : Nat × Nat => (dig p.1, dig p.2, ())) (a, b) ⟨h1, h2, h3⟩ (fun b hb => aAa hb)
theorem al1 {a b : Int} (h1 : Bd 8 a.natAbs) (h2 : Bd 8 b.natAbs) : aeV (pl a, pl b, ()) = some (pl (Nat.gcd a.natAbs b.natAbs), ()) := aaI (enc := fun p : Int × Int => (pl p.1, pl p.2, ())) (a, b) ⟨h1, h2⟩ (fun b hb => amB hb)
theorem ayA (x x' : PlT) (y) (h : aeV (x, x', ()) = some y) : (asQ x x').toO = some y := by
 obtain ⟨⟨a, b⟩, hp, hx, rfl⟩ := aaE h
 obtain ⟨rfl, hx2⟩ := Prod.mk.inj hx; obtain ⟨rfl, -⟩ := Prod.mk.inj hx2; dsimp only
 obtain ⟨l1, l2⟩ := hp
 dsimp only at l1 l2
 have d1 := aw4 l1 zc
 have d2 := aw4 l2 zc
 refine uO (dig b.natAbs, dig a.natAbs, ()) rfl ?_
 have hres : (pl ((Nat.gcd a.natAbs b.natAbs : Nat) : Int), ()) = ((false, dig (Nat.gcd a.natAbs b.natAbs), ()), ()) := by
  unfold pl
  rw [zn zc, zN]
 rw [hres]
 refine aaN (fun i : List Int × List Int × Unit => ∃ p q : Nat, i = (dig q, dig p, ()) ∧ (dig p).length ≤ 200000000000 ∧ (dig q).length ≤ 200000000000 ∧ Nat.gcd p q = Nat.gcd a.natAbs b.natAbs) (fun i => (V 10000 i.1).toNat) (fun _ => ((false, dig (Nat.gcd a.natAbs b.natAbs), ()), ())) ?_ _ ⟨a.natAbs, b.natAbs, rfl, d1, d2, rfl⟩
 rintro i ⟨p, q, rfl, lp, lq, hg⟩
 unfold aoW
 dsimp only
 by_cases hq : q = 0
 ·right
  subst hq
  refine uF (by rw [dig_zero]; rfl) ?_
  rw [← hg, Nat.gcd_zero_right]; rfl
 ·left
  have hql : 1 ≤ (dig q).length := by
   rcases zF (dig q).length with h5 | h5
   ·exact absurd (dig_nil_iff.1 (zU.1 h5)) hq
   ·exact h5
  refine ⟨(dig (p % q), dig q, ()), ?_, ⟨q, p % q, rfl, lq, ?_, ?_⟩, ?_, ze⟩
  ·refine uT sd (uC _ (aAo lp lq hq) ?_)
   repeat refine za ?_
   rfl
  ·exact zD (ab2 (vJ (yU p (show 0 < q by omega)))) lq
  ·rw [← hg, xC p q, Nat.gcd_rec q p, xC]
  ·simp only [ahM, zp]
   exact yU p zc
theorem am4 {a b : Int} (h1 : Bd 6 a.natAbs) (h2 : Bd 6 b.natAbs) (h3 : b ≠ 0) : afW (pl a, pl b, ()) = some (pl (a / b), pl (a % b), ()) := aaI (enc := fun p : Int × Int => (pl p.1, pl p.2, ())) (a, b) ⟨h1, h2, h3⟩ (fun b hb => amB hb)
theorem aRb {a b : Int} (hb : b ≠ 0) : ∃ q r : Int, q.natAbs = a.natAbs / b.natAbs ∧ r.natAbs = a.natAbs % b.natAbs ∧ (q = 0 ∨ (!(decide (a < 0) == decide (b < 0))) = decide (q < 0)) ∧ (r = 0 ∨ decide (a < 0) = decide (r < 0)) ∧ (r < 0 → a / b = (if b < 0 then q + 1 else q - 1) ∧ a % b = r + b.natAbs) ∧ (¬ r < 0 → a / b = q ∧ a % b = r) := by
 refine ⟨Int.tdiv a b, Int.tmod a b, Int.natAbs_tdiv a b, vM a b, ?_, ?_, ?_, ?_⟩
 ·by_cases hz : Int.tdiv a b = 0
  ·exact Or.inl hz
  ·right
   rcases zQ a 0 with c1 | c1 <;> rcases zQ b 0 with c2 | c2
   ·have : 0 ≤ Int.tdiv a b := by
     rw [← Int.neg_tdiv_neg]; exact xQ zc zc
    rw [zo c1, zo c2, zn zc]; rfl
   ·have : Int.tdiv a b ≤ 0 := by
     have := xQ (a := -a) (b := b) zc c2
     rw [Int.neg_tdiv] at this; omega
    rw [zo c1, zn zc, zo zc]; rfl
   ·have : Int.tdiv a b ≤ 0 := by
     have := xQ (a := a) (b := -b) c1 zc
     rw [Int.tdiv_neg] at this; omega
    rw [zn zc, zo c2, zo zc]; rfl
   ·have := xQ c1 c2
    rw [zn zc, zn zc, zn zc]; rfl
 ·by_cases hz : Int.tmod a b = 0
  ·exact Or.inl hz
  ·right
   refine decide_eq_decide.2 ?_
   rcases zQ a 0 with c1 | c1
   ·have : Int.tmod a b ≤ 0 := by
     have := wY (a := -a) b zc
     rw [Int.neg_tmod] at this; omega
    omega
   ·have := wY (a := a) b c1
    omega
 ·intro hr
  have ha : a < 0 := by
   rcases zQ a 0 with c | c
   ·exact c
   ·have := wY (a := a) b c; omega
  have h1 := wI a b
  have h2 : (Int.tmod a b).natAbs < b.natAbs := by rw [vM]; exact yU _ zc
  generalize Int.tdiv a b = q at *
  generalize Int.tmod a b = r at *
  have key : ∀ q' r' : Int, r' + b * q' = a → 0 ≤ r' → r' < b.natAbs → a / b = q' ∧ a % b = r' := by
   intro q' r' e e1 e2
   have hr' : r' / b = 0 := by
    rcases zQ b 0 with c | c
    ·have : r' / (-(-b)) = -(r' / -b) := Int.ediv_neg _ _
     rw [Int.neg_neg] at this
     rw [this, xo e1 zc]; rfl
    ·exact xo e1 zc
   have d1 : a / b = q' := by rw [← e, vD _ _ hb, hr', vk]
   refine ⟨d1, ?_⟩
   have := yl a b
   rw [d1] at this
   omega
  rcases zQ b 0 with c | c
  ·rw [if_pos c]
   exact key _ _ (by rw [xK]; omega) zc zc
  ·rw [if_neg zc]
   exact key _ _ (by rw [Int.mul_sub]; omega) zc zc
 ·intro hr
  have h1 := wI a b
  have h2 : (Int.tmod a b).natAbs < b.natAbs := by rw [vM]; exact yU _ zc
  generalize Int.tdiv a b = q at *
  generalize Int.tmod a b = r at *
  have hr' : r / b = 0 := by
   rcases zQ b 0 with c | c
   ·have : r / (-(-b)) = -(r / -b) := Int.ediv_neg _ _
    rw [Int.neg_neg] at this
    rw [this, xo zc zc]; rfl
   ·exact xo zc zc
  have d1 : a / b = q := by rw [← h1, vD _ _ hb, hr', vk]
  refine ⟨d1, ?_⟩
  have := yl a b
  rw [d1] at this
  omega
theorem aCL (x x' : PlT) (y) (h : afW (x, x', ()) = some y) : (aq5 x x').toO = some y := by
 obtain ⟨⟨a, b⟩, hp, hx, rfl⟩ := aaE h
 obtain ⟨rfl, hx2⟩ := Prod.mk.inj hx; obtain ⟨rfl, -⟩ := Prod.mk.inj hx2; dsimp only
 obtain ⟨l1, l2, l3⟩ := hp
 dsimp only at l1 l2 l3
 have d1 := aw4 l1 zc
 have d2 := aw4 l2 zc
 obtain ⟨q, r, hq, hr, sq, sr, hneg, hpos⟩ := aRb (a := a) l3
 have bq : Bd 6 q.natAbs := by rw [hq]; exact aaS _ l1
 have br : Bd 6 r.natAbs := by rw [hr]; exact aa1 _ l1
 have i1 : abD 1 := ⟨by omega, by omega⟩
 have b1 : Bd 7 (1 : Int).natAbs := aaH (aaG zf) zc
 unfold aq5
 dsimp only
 refine uC _ (aAo d1 d2 zc) ?_
 refine uC (pl q, ()) (af4 (by rw [← hq]; exact aoH bq zc) hq.symm sq) ?_
 refine uC (pl r, ()) (af4 (by rw [← hr]; exact aoH br zc) hr.symm sr) ?_
 dsimp only
 by_cases c : r < 0
 ·obtain ⟨e1, e2⟩ := hneg c
  refine uT (zo c) ?_
  have hpb : agL (pl r, (false, dig b.natAbs, ()), ()) = some (pl (r + b.natAbs), ()) := by
   have := aqM (a := r) (b := (b.natAbs : Int)) (aaH br zc) (aaH l2 zc)
   unfold pl at this ⊢
   rwa [zn (show ¬ ((b.natAbs : Int) < 0) by omega), zN] at this
  refine uC _ hpb ?_
  rw [e1, e2]
  by_cases c2 : b < 0
  ·rw [if_pos c2]
   exact uT (zo c2) (uC _ (aiG i1) (uC _ (aqM (aaH bq zc) b1) rfl))
  ·rw [if_neg c2]
   exact uF (zn c2) (uC _ (aiG i1) (uC _ (aJw (aaH bq zc) b1) rfl))
 ·obtain ⟨e1, e2⟩ := hpos c
  rw [e1, e2]
  exact uF (zn c) rfl
theorem aAq {s : List UInt8} (h : s.length ≤ 1000000000000) : afV (s, ()) = some ((rdW s).isSome, ()) := by unfold afV; rw [if_pos h]
theorem aCK (a : List UInt8) (y) (h : afV (a, ()) = some y) : (aq4 a).toO = some y := by
 unfold afV at h
 split at h
 case isFalse => cases h
 case isTrue hl =>
 injection h with h
 subst h
 dsimp only at hl ⊢
 obtain ⟨j, t, b, hj, hat, hc⟩ : ∃ (j : Nat) (t : List UInt8) (b : Bool), j ≤ a.length ∧ (a.drop j = t ∧ (b = true ↔ j = 1) ∧ j ≤ 1 ∧ (∃ d : TT (uK ⊕ uG), True) ∧ ((TT.ite (decide (len a > 0)) (TT.need (asT Int 0 ≤ 0 ∧ 0 < len a) (TT.ite ((((gi a 0 0).toNat : Int)) == 45) (TT.ok (.inl (1, ()))) (TT.ok (.inl (0, ()))))) (TT.ok (.inl (0, ()))) : TT (uK ⊕ uG)).toO = some (.inl ((j : Int), ())))) ∧ abX (a, #[45].toList, ()) = some (t, b, ()) := by
  cases a with
  | nil => exact ⟨0, [], false, by simp, ⟨rfl, by simp, by omega, ⟨TT.bad, trivial⟩, uF rfl rfl⟩, rfl⟩
  | cons c a =>
   by_cases hcc : c = 45
   ·subst hcc
    refine ⟨1, a, true, by simp, ⟨rfl, by simp, by omega, ⟨TT.bad, trivial⟩, uT (by (try simp only [ym, yk, yM, xe, beq_eq_false_iff_ne, bne_eq_false_iff_eq, zR, yD]) <;> (try simp only [aaC, inb, inc, ge_iff_le, gt_iff_lt, zp, asT, ne_eq]) <;> simp) (uN ⟨by simp [asT], by (try simp only [aaC, inb, inc, ge_iff_le, gt_iff_lt, zp, asT, ne_eq]); simp⟩ (uT rfl rfl))⟩, ?_⟩
    simp [abX, List.isPrefixOf]
   ·refine ⟨0, c :: a, false, by simp, ⟨rfl, by simp, by omega, ⟨TT.bad, trivial⟩, uT (by (try simp only [ym, yk, yM, xe, beq_eq_false_iff_ne, bne_eq_false_iff_eq, zR, yD]) <;> (try simp only [aaC, inb, inc, ge_iff_le, gt_iff_lt, zp, asT, ne_eq]) <;> simp) (uN ⟨by simp [asT], by (try simp only [aaC, inb, inc, ge_iff_le, gt_iff_lt, zp, asT, ne_eq]); simp⟩ (uF ?_ rfl))⟩, ?_⟩
    ·rw [beq_eq_false_iff_ne]
     intro h
     exact hcc (UInt8.toNat_inj.1 (Int.ofNat.inj h))
    ·have : ¬ (45 = c) := fun h => hcc h.symm
     simp [abX, List.isPrefixOf, this]
 obtain ⟨ht, hb, hj1, -, hjoin⟩ := hat
 have htl : t.length = a.length - j := by rw [← ht]; simp
 have hget : ∀ k, a.getD (j + k) 0 = t.getD k 0 := by
  intro k; rw [← ht]; simp [yg, yW]
 have hnot : ¬ (isD t ∧ t ≠ [] ∧ t.length ≤ 600 ∧ (t.head? = some 48 → b = false ∧ t.length = 1)) → (rdW a).isSome = false := fun h => by rw [aKk hc h]; rfl
 have hyes : isD t → t ≠ [] → t.length ≤ 600 → (t.head? = some 48 → b = false ∧ t.length = 1) → (rdW a).isSome = true := fun h1 h2 h3 h4 => by
  obtain ⟨z, e1, -, -⟩ := aKj hc h1 h2 h3 h4
  rw [e1]; rfl
 unfold aq4
 refine uL ((j : Int), ()) hjoin ?_
 unfold au7
 have hw : w64 (len a - (j : Int)) = (t.length : Int) := by rw [aaC, aaA zc]; omega
 simp only [hw]
 by_cases c1 : t = []
 ·rw [hnot (fun h => h.2.1 c1)]
  exact uR _ (uT (by rw [c1]; rfl) rfl)
 have hlen : 1 ≤ t.length := ya.2 c1
 by_cases c2 : t.length ≤ 600
 case neg =>
  rw [hnot (fun h => c2 h.2.2.1)]
  exact uR _ (uF sd (uT sd rfl))
 refine uL (false, ()) (uF sd (uF sd rfl)) ?_
 refine uO ((j : Int), ()) rfl ?_
 refine aaN (fun i : Int × Unit => ∃ k : Nat, i.1 = ((j + k : Nat) : Int) ∧ k ≤ t.length ∧ isD (t.take k)) (fun i => ((a.length : Int) - i.1).toNat) (fun _ => ((rdW a).isSome, ())) ?_ _ ⟨0, rfl, by omega, by simp [isD]⟩
 rintro ⟨i, u⟩ ⟨k, h3, h4, h5⟩
 simp only at h3
 subst h3
 simp only [au6, aaM, hget]
 rcases zr k t.length with hk | hk
 ·have e1 : t.getD k 0 = t[k] := by simp [hk]
  simp only [e1]
  by_cases d1 : t[k].toNat < 48
  ·right
   rw [hnot (fun h => by have := h.1 t[k] (yp hk); omega)]
   repeat refine za ?_
   rfl
  by_cases d2 : t[k].toNat > 57
  ·right
   rw [hnot (fun h => by have := h.1 t[k] (yp hk); omega)]
   repeat refine za ?_
   rfl
  ·left
   refine ⟨(((j + (k + 1) : Nat) : Int), ()), ?_, ⟨k + 1, rfl, by omega, ?_⟩, by simp only; omega, ze⟩
   ·repeat refine za ?_
    rw [aaK, aaA (x := ((j + k : Nat) : Int) + 1) zc]; rfl
   ·rw [zW hk, isD_append]
    refine ⟨h5, fun c hc => ?_⟩
    have := yd.1 hc
    subst this
    omega
 ·right
  have hd : isD t := by rwa [zz hk] at h5
  have hg0 : a.getD j 0 = t.getD 0 0 := hget 0
  simp only [hg0]
  refine uF sd (uN ⟨by omega, by exact sn⟩ ?_)
  cases hct : t with
  | nil => exact absurd hct c1
  | cons c r =>
   rw [← hct]
   have hg : t.getD 0 0 = c := by rw [hct]; rfl
   simp only [hg]
   have hh : t.head? = some c := by rw [hct]; rfl
   by_cases c0 : c = 48
   ·subst c0
    refine uF rfl ?_
    show some (Sum.inr (len a == 1, ())) = _
    by_cases hl1 : a.length = 1
    ·rw [hyes hd c1 c2 (fun _ => ⟨by
      cases b with
      | false => rfl
      | true => have := hb.1 rfl; omega, by omega⟩)]
     rw [show (len a == 1) = true by rw [yM, aaC]; omega]
    ·rw [hnot (fun h => by
      obtain ⟨q1, q2⟩ := h.2.2.2 hh
      have : ¬ j = 1 := fun h => by rw [hb.2 h] at q1; cases q1
      omega)]
     rw [show (len a == 1) = false by rw [beq_eq_false_iff_ne, aaC]; omega]
   ·rw [hyes hd c1 c2 (fun h => by rw [hh] at h; injection h with h; exact absurd h c0)]
    refine uT ?_ rfl
    rw [xe]
    intro h
    exact c0 (UInt8.toNat_inj.1 (Int.ofNat.inj h))
theorem aCr {a t : List UInt8} {j : Nat} (hd : isD t) (hget : ∀ k, a.getD (j + k) 0 = t.getD k 0) {s i e : Nat} (h1 : s ≤ i) (h2 : i < e) (h3 : e ≤ t.length) (h4 : e - s ≤ 4) : w64 (w64 ((num ((t.take i).drop s) : Int) * 10) + w64 (wu8 (((a.getD (j + i) 0).toNat : Int) - 48))) = (num ((t.take (i + 1)).drop s) : Int) := by
 have hi : i < t.length := zc
 have e1 : t.getD i 0 = t[i] := by simp [hi]
 have e2 := hd t[i] (yp hi)
 have e3 := aC7 (apC (at8 hd i) s)
 rw [auT h1 zc] at e3
 have e4 : (10 : Nat) ^ (i - s) ≤ 10 ^ 3 := zV zc zc
 have e5 : dv t[i] = t[i].toNat - 48 := rfl
 rw [aGA h1 hi, amE, hget, e1, e5]
 rw [abO (x := (t[i].toNat : Int) - 48) zc, aaA (x := (t[i].toNat : Int) - 48) zc, aaA (x := (num ((t.take i).drop s) : Int) * 10) zc, aaA zc]
 omega
theorem aB4 {z : Int} (h : Fit z) : aoK (dec z, ()) = some (pl z, ()) := aaI (enc := fun x : Int => (dec x, ())) z h (fun b hb => aj6 (Prod.mk.inj hb).1)
theorem aKy (a : List UInt8) (y) (h : aoK (a, ()) = some y) : (aEZ a).toO = some y := by
 obtain ⟨z, hp, hx, rfl⟩ := aaE h
 obtain ⟨rfl, -⟩ := Prod.mk.inj hx
 clear h hx
 have hfit : (aa2 z.natAbs).length ≤ 600 := hp
 have hd := aj7 z.natAbs
 have hn := amF z.natAbs
 have hne := ahK z.natAbs
 obtain ⟨j, hj, hget, hlen, hjoin⟩ : ∃ j : Nat, (j = if z < 0 then 1 else 0) ∧ (∀ k, (dec z).getD (j + k) 0 = (aa2 z.natAbs).getD k 0) ∧ (dec z).length = j + (aa2 z.natAbs).length ∧ ((TT.need (asT Int 0 ≤ 0 ∧ 0 < len (dec z)) (TT.ite ((((gi (dec z) 0 0).toNat : Int)) == 45) (TT.ok (.inl (1, ()))) (TT.ok (.inl (0, ())))) : TT (uK ⊕ (PlT × Unit))).toO = some (.inl ((j : Int), ()))) := by
  by_cases c : z < 0
  ·rw [ahJ c]
   refine ⟨1, by rw [if_pos c], fun k => by rw [xb]; simp, by simp; omega, uN ⟨by simp [asT], by (try simp only [aaC, inb, inc, ge_iff_le, gt_iff_lt, zp, asT, ne_eq]); simp⟩ (uT rfl rfl)⟩
  ·rw [acA zc]
   refine ⟨0, by rw [if_neg c], fun k => by rw [zu], by omega, uN ⟨by simp [asT], by exact sn⟩ (uF ?_ rfl)⟩
   have := adE z.natAbs
   cases hdn : aa2 z.natAbs with
   | nil => exact absurd hdn (aeP _)
   | cons c l =>
    rw [hdn] at this
    show ((c.toNat : Int) == 45) = false
    rw [beq_eq_false_iff_ne]
    intro h
    have hc : c = 45 := UInt8.toNat_inj.1 (Int.ofNat.inj h)
    rw [hc] at this
    exact this rfl
 have hj1 : j ≤ 1 := by rw [hj]; split <;> omega
 have hjb : ((j : Int) == 1) = decide (z < 0) := by
  by_cases c : z < 0
  ·rw [zo c, hj, if_pos c]; rfl
  ·rw [zn c, hj, if_neg c]; rfl
 generalize aa2 z.natAbs = t at *
 generalize dec z = a at *
 unfold aEZ
 refine uL ((j : Int), ()) hjoin ?_
 refine uO ((a.length : Int), true, [], ()) rfl ?_
 refine aaN (fun i : Int × Bool × List Int × Unit => ∃ e : Nat, (i.1 = ((j + e : Nat) : Int) ∨ (e = 0 ∧ i.1 ≤ j ∧ -10 ≤ i.1)) ∧ e ≤ t.length ∧ Dg 10000 i.2.2.1 ∧ V 10000 i.2.2.1 + 10000 ^ i.2.2.1.length * num (t.take e) = z.natAbs ∧ i.2.2.1.length + e ≤ t.length ∧ (i.2.1 = true → i.2.2.1 = [])) (fun i => (i.1 + 20).toNat) (fun _ => (pl z, ())) ?_ _ ⟨t.length, Or.inl (show (a.length : Int) = _ by omega), zq _, atL _, by simp [V]; omega, by simp, fun _ => rfl⟩
 rintro ⟨e', f, l, u⟩ ⟨e, g1, g3, g4, g5, g6, g7⟩
 simp only at g1 g4 g5 g6 g7
 rcases zF e with he | he
 ·right
  subst he
  have hle : e' ≤ j := zc
  have hv : V 10000 l = z.natAbs := by simpa [aFj] using g5
  have hm : abF ((j : Int) == 1, l, ()) = some (pl z, ()) := axP g4 zc hv (Or.inr hjb)
  cases f with
  | true =>
   obtain rfl := g7 rfl
   unfold aoV
   exact uT rfl (uF (zn (show ¬ (e' > (j : Int)) by omega)) (uC _ hm rfl))
  | false =>
   unfold aoV
   dsimp only
   rw [zt]
   exact uF rfl (uF (zn (show ¬ (e' > (j : Int)) by omega)) (uC _ hm rfl))
 ·left
  have he' : e' = ((j + e : Nat) : Int) := zc
  subst he'
  obtain ⟨s, hs, hs1, hs2, hs3, hs4⟩ : ∃ s : Nat, (if (j : Int) > w64 (((j + e : Nat) : Int) - 4) then (j : Int) else w64 (((j + e : Nat) : Int) - 4)) = ((j + s : Nat) : Int) ∧ s ≤ e ∧ e - s ≤ 4 ∧ (s = 0 ∨ s + 4 = e) ∧ s < e := by
   rw [aaA (x := ((j + e : Nat) : Int) - 4) zc]
   rcases zr e 4 with h9 | h9
   ·exact ⟨0, by rw [if_pos zc]; rfl, by omega, by omega, Or.inl rfl, by omega⟩
   ·exact ⟨e - 4, by rw [if_neg zc]; omega, by omega, by omega, Or.inr zc, by omega⟩
  have hseg := aK7 (s := t) hs1 g3
  have hv := aC7 (apC (at8 hd e) s)
  rw [auT hs1 g3] at hv
  have hv4 : (10 : Nat) ^ (e - s) ≤ 10 ^ 4 := zV zc hs2
  have hw4 : w64 (((j + e : Nat) : Int) - 4) = ((j + e : Nat) : Int) - 4 := aaA zc
  generalize hX : num ((t.take e).drop s) = X at hseg hv
  have hD : Dg 10000 (l ++ [(X : Int)]) := aeG g4 (al3 zc zc)
  have hV1 : V 10000 (l ++ [(X : Int)]) + 10000 ^ (l ++ [(X : Int)]).length * (num (t.take s) : Int) = z.natAbs := by
   rw [ad1, ayQ, ← g5, hseg, zP, yu, zY]
   rcases hs3 with h0 | h0
   ·subst h0; simp [aFj]
   ·rw [show e - s = 4 by omega]
    have : (((num (t.take s) * 10 ^ 4 + X : Nat)) : Int) = (num (t.take s) : Int) * 10000 + X := zi
    rw [this]
    grind
  have inv : (((j + e : Nat) : Int) - 4 = ((j + s : Nat) : Int) ∨ (s = 0 ∧ ((j + e : Nat) : Int) - 4 ≤ j ∧ -10 ≤ ((j + e : Nat) : Int) - 4)) := zc
  refine ⟨(((j + e : Nat) : Int) - 4, false, l ++ [(X : Int)], ()), ?_, ⟨s, inv, by omega, hD, hV1, by simp; omega, by simp⟩, by simp only; omega, ze⟩
  cases f with
  | false =>
   simp only [aoV]
   refine uF rfl (uT sd (uO (((j + s : Nat) : Int), 0, ()) (by repeat refine za ?_; rw [hs]; rfl) ?_))
   refine aaN (fun i : Int × Int × Unit => ∃ q : Nat, s ≤ q ∧ q ≤ e ∧ i = (((j + q : Nat) : Int), (num ((t.take q).drop s) : Int), ())) (fun i => (((j + e : Nat) : Int) - i.1).toNat) (fun _ => (Sum.inl (((j + e : Nat) : Int) - 4, false, l ++ [(X : Int)], ()) : (Int × Bool × List Int × Unit) ⊕ (PlT × Unit))) ?_ _ ⟨s, zq _, hs1, by rw [yw zh]; rfl⟩
   rintro i ⟨q, h1, h2, rfl⟩
   rcases zr q e with hq | hq
   ·left
    refine ⟨(((j + (q + 1) : Nat) : Int), (num ((t.take (q + 1)).drop s) : Int), ()), ?_, ⟨q + 1, by omega, by omega, rfl⟩, by simp only; omega, ze⟩
    simp only [aAV, aaM, aCr hd hget h1 hq g3 hs2]
    refine uT sd (uN ⟨by omega, by exact sn⟩ ?_)
    repeat refine za ?_
    rw [aaK, aaA (x := ((j + q : Nat) : Int) + 1) zc]; rfl
   ·right
    have hqe : q = e := zc
    subst hqe
    simp only [aAV, hX, zt, hw4]
    refine uF sd (uN zc ?_)
    repeat refine za ?_
    rfl
  | true =>
   obtain rfl := g7 rfl
   simp only [aoV]
   refine uT rfl (uT sd (uO (((j + s : Nat) : Int), 0, ()) (by repeat refine za ?_; rw [hs]; rfl) ?_))
   refine aaN (fun i : Int × Int × Unit => ∃ q : Nat, s ≤ q ∧ q ≤ e ∧ i = (((j + q : Nat) : Int), (num ((t.take q).drop s) : Int), ())) (fun i => (((j + e : Nat) : Int) - i.1).toNat) (fun _ => (Sum.inl (((j + e : Nat) : Int) - 4, false, [(X : Int)], ()) : (Int × Bool × List Int × Unit) ⊕ (PlT × Unit))) ?_ _ ⟨s, zq _, hs1, by rw [yw zh]; rfl⟩
   rintro i ⟨q, h1, h2, rfl⟩
   rcases zr q e with hq | hq
   ·left
    refine ⟨(((j + (q + 1) : Nat) : Int), (num ((t.take (q + 1)).drop s) : Int), ()), ?_, ⟨q + 1, by omega, by omega, rfl⟩, by simp only; omega, ze⟩
    simp only [aAW, aaM, aCr hd hget h1 hq g3 hs2]
    refine uT sd (uN ⟨by omega, by exact sn⟩ ?_)
    repeat refine za ?_
    rw [aaK, aaA (x := ((j + q : Nat) : Int) + 1) zc]; rfl
   ·right
    have hqe : q = e := zc
    subst hqe
    simp only [aAW, hX, hw4]
    refine uF sd (uN zc ?_)
    repeat refine za ?_
    rfl
theorem aAk {l : List Int} (h : Dg 10000 l) (k : Nat) : V 10000 (l.drop k) = V 10000 l / 10000 ^ k := by
 have h1 := ab6 10000 l k
 have h2 := ac5 zc h k
 have h3 := aaT zc (ab5 h k)
 rw [h1, vD _ _ (by have := aAY (show (1 : Int) ≤ 10000 by omega) k; omega), xo h3 h2, vk]
theorem aE0 {R b top first P : Int} (hP : 0 < P) (hb0 : 0 < b) (htop : 10000 ≤ top) (hb1 : top * P ≤ b) (hb2 : b < (top + 1) * P) (hf1 : first * P ≤ R) (hf2 : R < (first + 1) * P) (hR0 : 0 ≤ R) (hR : R < b * 10000) (hf0 : 0 ≤ first) :
  (first / (top + 1)) * b ≤ R ∧ R < (first / top + 1) * b ∧ first / top + 1 ≤ 10001 ∧ 0 ≤ first / (top + 1) ∧ first ≤ 100000000000000 * top := by
 have g1 := yl first (top + 1)
 have g2 := yE first (show top + 1 ≠ 0 by omega)
 have g3 := yl first top
 have g4 := yr first (show 0 < top by omega)
 have g7 := yE first (show top ≠ 0 by omega)
 have g5 := xD hf0 (show 0 ≤ top + 1 by omega)
 have g6 := xD hf0 (show 0 ≤ top by omega)
 generalize first / (top + 1) = L at *
 generalize first / top = H at *
 generalize first % (top + 1) = m1 at *
 generalize first % top = m2 at *
 refine ⟨?_, ?_, ?_, g5, ?_⟩
 ·have a1 : L * b ≤ L * ((top + 1) * P) := zy zc g5
  have a2 : L * ((top + 1) * P) = ((top + 1) * L) * P := by grind
  have a3 : ((top + 1) * L) * P ≤ first * P := zC zc zc
  omega
 ·have a1 : (H + 1) * (top * P) ≤ (H + 1) * b := zy hb1 zc
  have a2 : (H + 1) * (top * P) = (top * H + top) * P := by grind
  have a3 : (first + 1) * P ≤ (top * H + top) * P := zC zc zc
  omega
 ·have a1 : first * P < ((top + 1) * 10000) * P := by
   have : b * 10000 < ((top + 1) * P) * 10000 := zc
   have e : ((top + 1) * P) * 10000 = ((top + 1) * 10000) * P := by grind
   omega
  have a2 : first < (top + 1) * 10000 := yh a1 zc
  have a3 : top * H < top * 10001 := zc
  have := yR a3 zc
  omega
 ·have a1 : first * P < ((top + 1) * 10000) * P := by
   have : b * 10000 < ((top + 1) * P) * 10000 := zc
   have e : ((top + 1) * P) * 10000 = ((top + 1) * 10000) * P := by grind
   omega
  have a2 : first < (top + 1) * 10000 := yh a1 zc
  omega
theorem aCE (m o : List Int) (y) (h : ajD (m, o, ()) = some y) : (aqZ m o).toO = some y := by
 obtain ⟨⟨a, b⟩, hn, hx, rfl⟩ := aaE h
 obtain ⟨rfl, hx2⟩ := Prod.mk.inj hx; obtain ⟨rfl, -⟩ := Prod.mk.inj hx2; dsimp only
 obtain ⟨la, lb, hb0⟩ := hn
 simp only at la lb hb0
 clear h hx hx2
 have hda := adC a
 have hdb := adC b
 have hVa := ahM a
 have hVb := ahM b
 have hbl : 1 ≤ (dig b).length := by
  rcases zF (dig b).length with h5 | h5
  ·exact absurd (dig_nil_iff.1 (zU.1 h5)) hb0
  ·exact h5
 unfold aqZ
 by_cases h1 : (dig b).length = 1
 ·-- one digit
  refine uT sd (uN ⟨by simp [asT], by exact sn⟩ ?_)
  have hb1 : b < 10000 := by have := dig_length_le_iff.1 (vG h1); simpa using this
  have hdb1 : dig b = [(b : Int)] := aL9 hb0 hb1
  have hg : gi (dig b) 0 0 = (b : Int) := by rw [hdb1]; rfl
  rw [hg]
  refine uC _ (aMW zc zc hb1) ?_
  have hm := yU a (show 0 < b by omega)
  generalize a % b = r at hm ⊢
  refine uC (dig r, ()) (af9 (al3 (show (0 : Int) ≤ (r : Int) by omega) (show (r : Int) < 10000 by omega)) zi (by simp [V])) rfl
 obtain ⟨n, hnl⟩ : ∃ n, (dig b).length = n + 2 := ⟨(dig b).length - 2, by omega⟩
 have w1 : w64 (len (dig b) - 1) = ((n + 1 : Nat) : Int) := by rw [aaC, hnl, aaA zc]; omega
 have w2 : w64 (((n + 1 : Nat) : Int) - 1) = ((n : Nat) : Int) := by rw [aaA zc]; omega
 have bge : 10000 ^ (n + 1) ≤ b := by have := au9 (B := 10000) zc hb0; rw [show (atS 10000 b).length = n + 2 from hnl] at this; exact this
 refine uF sd ?_
 simp only [w1]
 by_cases h2 : (dig a).length ≤ n + 1
 ·-- the dividend is shorter
  refine uT sd (uN zc ?_)
  have hab : a < b := yn (dig_length_le_iff.1 h2) bge
  rw [aaK, xa hab, yG hab, dig_zero]
  simp
 have hq : ∃ M, (dig a).length = M + (n + 1) ∧ 0 < M := ⟨(dig a).length - (n + 1), by omega, by omega⟩
 obtain ⟨M, hM, hM0⟩ := hq
 have w3 : w64 (len (dig a) - ((n + 1 : Nat) : Int)) = (M : Int) := by rw [aaC, hM, aaA zc]; omega
 refine uF sd ?_
 simp only [w2, w3]
 refine uN sd (uN sd (uN zc (uN sd ?_)))
 simp only [zp]
 have htk : List.take ((dig a).length - M) ((dig a).drop M) = (dig a).drop M := zz zi
 simp only [htk]
 have htk2 : List.take (0 + ((dig a).drop M).length) (List.take 0 ([] : List Int) ++ (dig a).drop M) = (dig a).drop M := by rw [zu, List.take_zero, xh, zt]
 simp only [htk2]
 refine uN zh ?_
 have w4 : w64 ((M : Int) - 1) = (M : Int) - 1 := aaA zc
 refine uO ((M : Int) - 1, (dig a).drop M, List.replicate M 0, ()) ?_ ?_
 ·repeat refine za ?_
  rw [aaK, w4]
 -- the first two digits of the divisor
 have dB1 := aa3 zc hdb (n + 1)
 have dB0 := aa3 zc hdb n
 have hBtop : 1 ≤ (dig b).getD (n + 1) 0 := by
  have hc := aG9 b
  unfold Cn at hc
  rw [yQ, hnl, show n + 2 - 1 = n + 1 by omega, zO zc] at hc
  rw [aiN zc] at *
  rcases zQ 0 (dig b)[n + 1] with h | h
  ·exact h
  ·exact absurd (by congr 1; omega) hc
 have htopV : V 10000 ((dig b).drop n) = (dig b).getD (n + 1) 0 * 10000 + (dig b).getD n 0 := by
  have e1 := aaU 10000 (dig b) n
  have e2 := aaU 10000 (dig b) (n + 1)
  have e3 := acT 10000 (l := dig b) (k := n + 1 + 1) zc
  omega
 have htop2 := aAk hdb n
 rw [hVb] at htop2
 have hwtop : w64 (w64 (gi (dig b) ((n + 1 : Nat) : Int) 0 * 10000) + gi (dig b) (n : Int) 0) = (dig b).getD (n + 1) 0 * 10000 + (dig b).getD n 0 := by
  rw [aaM, aaM, aaA (x := (dig b).getD (n + 1) 0 * 10000) zc, aaA zc]
 have hwtop1 : w64 ((dig b).getD (n + 1) 0 * 10000 + (dig b).getD n 0 + 1) = (dig b).getD (n + 1) 0 * 10000 + (dig b).getD n 0 + 1 := aaA zc
 have htop3 : 10000 ≤ (dig b).getD (n + 1) 0 * 10000 + (dig b).getD n 0 ∧ (dig b).getD (n + 1) 0 * 10000 + (dig b).getD n 0 < 100000000 := zc
 rw [← htopV] at htop3
 have hP : (0 : Int) < 10000 ^ n := yI zc
 have hbt1 : V 10000 ((dig b).drop n) * 10000 ^ n ≤ (b : Int) := by
  rw [htop2]; exact vN _ zc
 have hbt2 : (b : Int) < (V 10000 ((dig b).drop n) + 1) * 10000 ^ n := by
  rw [htop2]; exact Int.lt_ediv_add_one_mul_self _ hP
 rw [← htopV] at hwtop hwtop1
 generalize htv : V 10000 ((dig b).drop n) = top at *
 clear htopV htop2 dB1 dB0 hBtop htv
 have hR0 : V 10000 ((dig a).drop M) < (b : Int) := by
  have := aJq zc (acI hda M)
  rw [yA, show (dig a).length - M = n + 1 by omega] at this
  have hb2 : ((10000 ^ (n + 1) : Nat) : Int) ≤ (b : Int) := wK.2 bge
  rw [wD] at hb2
  exact Int.lt_of_lt_of_le this hb2
 have hcR0 : Cn ((dig a).drop M) := by
  have hc := aG9 a
  unfold Cn at hc ⊢
  rw [List.getLast?_drop, if_neg zc]
  exact hc
 refine aaN (fun i : Int × List Int × List Int × Unit => ∃ (k : Nat) (R : Nat), k ≤ M ∧ i.1 = (k : Int) - 1 ∧ i.2.1 = dig R ∧ R < b ∧ i.2.2.1.length = M ∧ Dg 10000 i.2.2.1 ∧ V 10000 ((dig a).drop k) = V 10000 (i.2.2.1.drop k) * b + R) (fun i => (i.1 + 1).toNat) (fun _ => (dig (a / b), dig (a % b), ())) ?_ _ ?_
 case refine_2 =>
  obtain ⟨R, hR⟩ := zv (aaT zc (acI hda M))
  refine ⟨M, R, zq _, rfl, aBD (acI hda M) hcR0 hR, by omega, by simp, agA zc _, ?_⟩
  rw [hR, acT _ zi]; simp
 rintro ⟨i, r, q, u⟩ ⟨k, R, g1, g2, g3, g4, g5, g6, g7⟩
 dsimp only at g2 g3 g5 g6 g7
 subst g2 g3
 cases k with
 | zero =>
  right
  simp only [yP, hVa] at g7
  obtain ⟨v, hv⟩ := zv (aaT zc g6)
  rw [hv] at g7
  have h8 : a = v * b + R := by
   have : (a : Int) = ((v * b + R : Nat) : Int) := by simpa using g7
   exact Int.ofNat.inj this
  have h9 : a / b = v := by rw [h8, xb, wN _ _ zc, xa zc, zu]
  have h10 : a % b = R := by rw [h8, xb, xX, yG zc]
  simp only [anT, w1, w3, zp]
  refine uF sd (uC (dig v, ()) ?_ ?_)
  ·rw [zz zc]
   exact af9 g6 zc hv
  ·rw [aaK, h9, h10]
 | succ j =>
  left
  have e6 : ((j + 1 : Nat) : Int) - 1 = (j : Int) := zc
  rw [e6]
  have da := aa3 zc hda j
  obtain ⟨d, hd⟩ := zv da.1
  have lR : (dig R).length ≤ n + 2 := by rw [← hnl]; exact ab2 zc
  -- the next rest
  obtain ⟨R', hR'⟩ : ∃ R', R' = d + 10000 * R := ⟨_, rfl⟩
  have hR'b : R' < b * 10000 := zc
  have hcut : acL ((dig a).getD j 0 :: dig R, ()) = some (dig R', ()) := by
   rw [hd]
   refine af9 (aB9 ⟨by omega, by omega⟩ (adC R)) zh ?_
   simp only [V, ahM, hR']; simp
  have lR' : (dig R').length ≤ n + 3 := by
   rw [dig_length_le_iff]
   have := dig_length_le_iff.1 (vG hnl)
   rw [show n + 3 = (n + 2) + 1 by omega, yC]
   exact yn hR'b (zS _ (vJ this))
  have hdR := adC R'
  have hVR := ahM R'
  -- its first three digits
  have hf := aAk hdR n
  rw [hVR] at hf
  have hf1 : V 10000 ((dig R').drop n) * 10000 ^ n ≤ (R' : Int) := by rw [hf]; exact vN _ zc
  have hf2 : (R' : Int) < (V 10000 ((dig R').drop n) + 1) * 10000 ^ n := by rw [hf]; exact Int.lt_ediv_add_one_mul_self _ hP
  have hf0 := aaT zc (acI hdR n)
  obtain ⟨k1, k2, k3, k4, k5⟩ := aE0 hP zc htop3.1 hbt1 hbt2 hf1 hf2 zc zc hf0
  have hfirst : acX (fun i1 => (aeJ (dig a) (dig b) ((j : Int), dig R, q, ()) (dig R', ()) i1).toO) (((n + 2 : Nat) : Int), 0, ()) = acX (fun i1 => (aeJ (dig a) (dig b) ((j : Int), dig R, q, ()) (dig R', ()) i1).toO) ((n : Int) - 1, V 10000 ((dig R').drop n), ()) := by
   have st : ∀ (t : Nat) (v : Int), n ≤ t → t ≤ n + 2 → v = V 10000 ((dig R').drop (t + 1)) → (aeJ (dig a) (dig b) ((j : Int), dig R, q, ()) (dig R', ()) ((t : Int), v, ())).toO = some (.inl ((t : Int) - 1, V 10000 ((dig R').drop t), ())) := by
    intro t v ht1 ht2 hv
    have e1 := aaU 10000 (dig R') t
    have e2 := aa3 zc hdR t
    have e3 := aaT zc (acI hdR (t + 1))
    have e4 : V 10000 ((dig R').drop (t + 1)) < 10000 ^ 2 := by
     have := aJq zc (acI hdR (t + 1))
     have h7 : (10000 : Int) ^ ((dig R').drop (t + 1)).length ≤ 10000 ^ 2 := aE2 zc (by rw [yA]; omega)
     omega
    subst hv
    simp only [aeJ, w1, w2, aaM]
    refine uT sd ?_
    by_cases ct : t < (dig R').length
    ·refine uT sd (uN sd ?_)
     repeat refine za ?_
     rw [aaK, aaA (x := (t : Int) - 1) zc, aaA (x := V 10000 ((dig R').drop (t + 1)) * 10000) zc, aaA zc, e1, Int.add_comm, yB]
    ·refine uF sd ?_
     repeat refine za ?_
     rw [ahF zc] at e1
     rw [aaK, aaA (x := (t : Int) - 1) zc, aaA zc, e1, vk, yB]
   have s1 := st (n + 2) 0 zc zc (by rw [acT _ zc])
   rw [show (((n + 2 : Nat) : Int)) - 1 = ((n + 1 : Nat) : Int) by omega] at s1
   rw [acN s1]
   have s2 := st (n + 1) _ zc zc rfl
   rw [show (((n + 1 : Nat) : Int)) - 1 = ((n : Nat) : Int) by omega] at s2
   rw [acN s2]
   rw [acN (st n _ zc zc rfl)]
  -- the search
  obtain ⟨Q, hQ⟩ : ∃ Q : Nat, Q = R' / b := ⟨_, rfl⟩
  have hQm := xU R' b
  have hQl := yU R' (show 0 < b by omega)
  rw [← hQ] at hQm
  have hQ4 : Q < 10000 := by
   rw [hQ, yN zc, yL]; exact hR'b
  have hRQ : (R' : Int) = (Q : Int) * b + ((R' % b : Nat) : Int) := by
   have : (R' : Int) = ((R' % b + b * Q : Nat) : Int) := by rw [hQm]
   rw [this]; simp; rw [yB]; omega
  have res : acX (fun i1 => (aeJ (dig a) (dig b) ((j : Int), dig R, q, ()) (dig R', ()) i1).toO) (((n + 2 : Nat) : Int), 0, ()) = some (Sum.inl ((j : Int) - 1, dig (R' % b), q.set j (Q : Int), ())) := by
   rw [hfirst]
   refine ab9 ?_
   simp only [aeJ, w1, w2, hwtop, hwtop1]
   refine uF sd (uN zc (uN zc ?_))
   have hd1 : Int.tdiv (V 10000 ((dig R').drop n)) top = V 10000 ((dig R').drop n) / top := zH hf0
   have hd2 : Int.tdiv (V 10000 ((dig R').drop n)) (top + 1) = V 10000 ((dig R').drop n) / (top + 1) := zH hf0
   simp only [hd1, hd2]
   have hn1 := xD hf0 (show 0 ≤ top by omega)
   have hlow : V 10000 ((dig R').drop n) / (top + 1) ≤ Q := by
    have : V 10000 ((dig R').drop n) / (top + 1) * b < ((Q : Int) + 1) * b := by
     rw [wF]; omega
    have := yh this zc
    omega
   have hhigh : (Q : Int) < V 10000 ((dig R').drop n) / top + 1 := by
    have : (Q : Int) * b < (V 10000 ((dig R').drop n) / top + 1) * b := zc
    exact yh this zc
   have wH : w64 (w64 (V 10000 ((dig R').drop n) / top) + 1) = V 10000 ((dig R').drop n) / top + 1 := by
    rw [aaA (x := V 10000 ((dig R').drop n) / top) zc, aaA zc]
   have wL : w64 (V 10000 ((dig R').drop n) / (top + 1)) = V 10000 ((dig R').drop n) / (top + 1) := aaA zc
   simp only [wH, wL]
   generalize V 10000 ((dig R').drop n) / top + 1 = H at *
   generalize V 10000 ((dig R').drop n) / (top + 1) = L at *
   refine uO (H, L, ()) (by repeat refine za ?_; rfl) ?_
   refine aaN (fun i2 : Int × Int × Unit => 0 ≤ i2.2.1 ∧ i2.2.1 ≤ Q ∧ (Q : Int) < i2.1 ∧ i2.1 ≤ 10001) (fun i2 => (i2.1 - i2.2.1).toNat) (fun _ => (.inr (.inl ((j : Int) - 1, dig (R' % b), q.set j (Q : Int), ())) : (Int × Int × Unit) ⊕ ((Int × List Int × List Int × Unit) ⊕ (List Int × List Int × Unit)))) ?_ _ ⟨k4, hlow, hhigh, k3⟩
   rintro ⟨hi, lo, u3⟩ ⟨c1, c2, c3, c4⟩
   dsimp only at c1 c2 c3 c4
   have wd : w64 (hi - lo) = hi - lo := aaA zc
   simp only [au0, wd]
   by_cases hgap : hi - lo > 1
   ·left
    have wm : w64 (Int.tdiv (w64 (lo + hi)) 2) = (lo + hi) / 2 := by
     rw [aaA (x := lo + hi) zc, zH zc, aaA zc]
    simp only [wm]
    obtain ⟨mm, hmm⟩ := zv (show 0 ≤ (lo + hi) / 2 by omega)
    rw [hmm]
    have hmB : mm ≤ 10000 ∧ 1 ≤ mm := zc
    have hprod : abT (dig b, [(mm : Int)], ()) = some (dig (b * mm), ()) := by
     refine alZ hdb ?_ zc zi (by rw [hVb]; simp [V])
     by_cases cm : mm = 10000
     ·right; rw [cm]; rfl
     ·left; exact al3 zc zc
    have lbm : (dig (b * mm)).length ≤ 1000000000000 := by
     have : (dig (b * mm)).length ≤ (dig b).length + 2 := by
      rw [dig_length_le_iff, xz]
      have q1 := dig_length_le_iff.1 (zq (dig b).length)
      exact Nat.mul_lt_mul'' q1 zc
     omega
    have hcutp : acL (dig (b * mm), ()) = some (dig (b * mm), ()) := af9 (adC _) lbm (ahM _)
    obtain ⟨o1, o2⟩ := aGN (b * mm) R'
    have hle : aO4 (dig (b * mm)) (dig R') ≤ 0 ↔ b * mm ≤ R' := zc
    have hmQ : b * mm ≤ R' ↔ mm ≤ Q := by
     rw [hQ, wO zc, yL]
    by_cases cm : mm ≤ Q
    ·refine ⟨(hi, (mm : Int), ()), ?_, ⟨by dsimp only; omega, by dsimp only; omega, c3, c4⟩, by dsimp only; omega, ze⟩
     refine uT (zo hgap) (uV ?_)
     refine uC _ hprod (uC _ hcutp (uC _ (asH _ _ (adC _) (adC _) lbm zc) (uT (zo (hle.2 (hmQ.2 cm))) ?_)))
     repeat refine za ?_
     rfl
    ·refine ⟨((mm : Int), lo, ()), ?_, ⟨c1, c2, by dsimp only; omega, by dsimp only; omega⟩, by dsimp only; omega, ze⟩
     refine uT (zo hgap) (uV ?_)
     refine uC _ hprod (uC _ hcutp (uC _ (asH _ _ (adC _) (adC _) lbm zc) (uF (zn (fun h => cm (hmQ.1 (hle.1 h)))) ?_)))
     repeat refine za ?_
     rfl
   ·right
    have hlQ : lo = Q := zc
    subst hlQ
    refine uF (zn hgap) ?_
    simp only [w1, w3, zp]
    refine uN ⟨by omega, by omega⟩ ?_
    have hprod : abT (dig b, [(Q : Int)], ()) = some (dig (b * Q), ()) := alZ hdb (Or.inl (al3 zc zc)) zc zi (by rw [hVb]; simp [V])
    have hdiff : abA (dig R', dig (b * Q), ()) = some (dig (R' % b), ()) := by
     have := al0 (a := dig R') (b := dig (b * Q)) (n := R' % b) (adC _) (adC _) zc (ab2 zc) (by rw [ahM, ahM]; omega) (by rw [ahM, ahM]; omega)
     exact this
    refine uC _ hprod (uC _ hdiff ?_)
    repeat refine za ?_
    rw [aaK, aaA (x := (j : Int) - 1) zc, zu]
  refine ⟨((j : Int) - 1, dig (R' % b), q.set j (Q : Int), ()), ?_, ⟨j, R' % b, by omega, rfl, rfl, hQl, by simp; omega, aiH g6 ⟨by omega, by omega⟩ _, ?_⟩, by dsimp only; omega, ze⟩
  ·simp only [anT, aaM, w1]
   have htk3 : List.take (1 + (dig R).length) ([(dig a).getD j 0] ++ dig R) = (dig a).getD j 0 :: dig R := by
    rw [zz zh]; rfl
   simp only [htk3]
   have w5 : w64 (((n + 1 : Nat) : Int) + 1) = ((n + 2 : Nat) : Int) := by rw [aaA zc]; omega
   simp only [w5]
   refine uT sd (uN sd (uN zc (uC _ hcut ?_)))
   refine uO (((n + 2 : Nat) : Int), 0, ()) (by repeat refine za ?_; rfl) ?_
   exact res
  ·dsimp only
   rw [aaU 10000 (dig a) j, hd, g7, aaU 10000 (q.set j _) j, an4 zc, ahI _ zc]
   have : (d : Int) + 10000 * (V 10000 (q.drop (j + 1)) * b + R) = 10000 * (V 10000 (q.drop (j + 1)) * b) + R' := by rw [hR']; simp; grind
   rw [this, hRQ]
   grind
set_option maxRecDepth 100000
open Go Go.Vg Go.Proofs
noncomputable section
def aER : LTab := []
def anS (n : Bool × List Int × Unit) (d : Bool × List Int × Unit) : TT tl :=
 .ite (d.1)
 (.call (ajE ((n.1, n.2.1, ()), ())) al4 fun y =>
 .call (ajE ((d.1, d.2.1, ()), ())) al4 fun y1 =>
 .call (aeV ((y.1.1, y.1.2.1, ()), (y1.1.1, y1.1.2.1, ()), ())) al4 fun y2 =>
 .call (afW ((y.1.1, y.1.2.1, ()), (y2.1.1, y2.1.2.1, ()), ())) aQ8 fun y3 =>
 .call (afW ((y1.1.1, y1.1.2.1, ()), (y2.1.1, y2.1.2.1, ()), ())) aQ8 fun y4 =>
 .ok ((((y3.1.1, y3.1.2.1, ()), (y4.1.1, y4.1.2.1, ()), ()), ())))
 (.call (aeV ((n.1, n.2.1, ()), (d.1, d.2.1, ()), ())) al4 fun y5 =>
 .call (afW ((n.1, n.2.1, ()), (y5.1.1, y5.1.2.1, ()), ())) aQ8 fun y6 =>
 .call (afW ((d.1, d.2.1, ()), (y5.1.1, y5.1.2.1, ()), ())) aQ8 fun y7 =>
 .ok ((((y6.1.1, y6.1.2.1, ()), (y7.1.1, y7.1.2.1, ()), ()), ())))
def aHQ : LTab := []
def ay9 (n : Int) (d : Int) : TT tl :=
 .call (acD (n, ())) al4 fun y =>
 .call (acD (d, ())) al4 fun y1 =>
 .call (afT (y.1, y1.1, ())) aM3 fun y2 =>
 .ok ((((y2.1.1.1, y2.1.1.2.1, ()), (y2.1.2.1.1, y2.1.2.1.2.1, ()), ()), ()))
def aHP : LTab := []
def aqY (a : List UInt8 × List UInt8 × Unit) : TT uG :=
 .call (afV (a.1, ())) Dd1 fun y =>
 .ite (!y.1)
 (.ok ((false, ())))
 (.call (afV (a.2.1, ())) Dd1 fun y1 =>
 .ite (!y1.1)
 (.ok ((false, ())))
 (.call (aoK (a.1, ())) al4 fun y2 =>
 .call (aoK (a.2.1, ())) al4 fun y3 =>
 .ite (y3.1.1)
 (.ok ((false, ())))
 (.ite (len y3.1.2.1 == 0)
 (.ok ((false, ())))
 (.call (aeV ((y2.1.1, y2.1.2.1, ()), (y3.1.1, y3.1.2.1, ()), ())) al4 fun y4 =>
 .call (alT (y4.1, ())) Dd2 fun y5 =>
 .ok ((y5.1 == #[49].toList, ()))))))
def aPu : LTab := []
def aKq (a : List UInt8 × List UInt8 × Unit) : TT tl :=
 .call (aoK (a.1, ())) al4 fun y =>
 .call (aoK (a.2.1, ())) al4 fun y1 =>
 .ok ((((y.1.1, y.1.2.1, ()), (y1.1.1, y1.1.2.1, ()), ()), ()))
def aNu : LTab := []
def aGE (r : uq × uq × Unit) : TT uD :=
 .call (ap9 ((r.1.1, r.1.2.1, ()), ())) aGn fun y =>
 .call (ap9 ((r.2.1.1, r.2.1.2.1, ()), ())) aGn fun y1 =>
 .ite (y.2.1 != 0)
 (.ok (((#[].toList, #[].toList, ()), 6, ())))
 (.ite (y1.2.1 != 0)
 (.ok (((#[].toList, #[].toList, ()), 6, ())))
 (.ok (((y.1, y1.1, ()), 0, ()))))
def aKo : LTab := []
def aCC (a : uq × uq × Unit) (b : uq × uq × Unit) : TT tl :=
 .call (aeU ((a.1.1, a.1.2.1, ()), (b.2.1.1, b.2.1.2.1, ()), ())) al4 fun y =>
 .call (aeU ((b.1.1, b.1.2.1, ()), (a.2.1.1, a.2.1.2.1, ()), ())) al4 fun y1 =>
 .call (agL (y.1, y1.1, ())) al4 fun y2 =>
 .call (aeU ((a.2.1.1, a.2.1.2.1, ()), (b.2.1.1, b.2.1.2.1, ()), ())) al4 fun y3 =>
 .call (afT ((y2.1.1, y2.1.2.1, ()), y3.1, ())) aM3 fun y4 =>
 .ok ((((y4.1.1.1, y4.1.1.2.1, ()), (y4.1.2.1.1, y4.1.2.1.2.1, ()), ()), ()))
def aHO : LTab := []
def ay8 (a : uq × uq × Unit) (b : uq × uq × Unit) : TT tl :=
 .call (aeU ((a.1.1, a.1.2.1, ()), (b.1.1, b.1.2.1, ()), ())) al4 fun y =>
 .call (aeU ((a.2.1.1, a.2.1.2.1, ()), (b.2.1.1, b.2.1.2.1, ()), ())) al4 fun y1 =>
 .call (afT (y.1, y1.1, ())) aM3 fun y2 =>
 .ok ((((y2.1.1.1, y2.1.1.2.1, ()), (y2.1.2.1.1, y2.1.2.1.2.1, ()), ()), ()))
def aPt : LTab := []
def aEQ (n : Int) (d : Int) : TT uD :=
 .ite (d == 0)
 (.ok (((#[].toList, #[].toList, ()), 7, ())))
 (.call (amW (n, d, ())) aM3 fun y =>
 .call (amX (y.1, ())) aeQ fun y1 =>
 .ok (((y1.1.1, y1.1.2.1, ()), y1.2.1, ())))
def aNw : LTab := []
def aGG (a : List UInt8 × List UInt8 × Unit) (b : List UInt8 × List UInt8 × Unit) : TT uD :=
 .call (ad2 ((a.1, a.2.1, ()), ())) Dd1 fun y =>
 .ite (!y.1)
 (.ok (((#[].toList, #[].toList, ()), 20, ())))
 (.call (ad2 ((b.1, b.2.1, ()), ())) Dd1 fun y1 =>
 .ite (!y1.1)
 (.ok (((#[].toList, #[].toList, ()), 20, ())))
 (.call (aoJ ((a.1, a.2.1, ()), ())) aM3 fun y2 =>
 .call (aoJ ((b.1, b.2.1, ()), ())) aM3 fun y3 =>
 .call (ap6 (y2.1, y3.1, ())) aM3 fun y4 =>
 .call (amX (y4.1, ())) aeQ fun y5 =>
 .ok (((y5.1.1, y5.1.2.1, ()), y5.2.1, ()))))
def aNv : LTab := []
def aGF (a : List UInt8 × List UInt8 × Unit) (b : List UInt8 × List UInt8 × Unit) : TT uD :=
 .call (ad2 ((a.1, a.2.1, ()), ())) Dd1 fun y =>
 .ite (!y.1)
 (.ok (((#[].toList, #[].toList, ()), 20, ())))
 (.call (ad2 ((b.1, b.2.1, ()), ())) Dd1 fun y1 =>
 .ite (!y1.1)
 (.ok (((#[].toList, #[].toList, ()), 20, ())))
 (.call (aoJ ((a.1, a.2.1, ()), ())) aM3 fun y2 =>
 .call (aoJ ((b.1, b.2.1, ()), ())) aM3 fun y3 =>
 .call (amV (y2.1, y3.1, ())) aM3 fun y4 =>
 .call (amX (y4.1, ())) aeQ fun y5 =>
 .ok (((y5.1.1, y5.1.2.1, ()), y5.2.1, ()))))
end
theorem aGC {p q : Rat × Rat} (h : (ra p.1, ra p.2, ()) = (ra q.1, ra q.2, ())) : p = q := by
 obtain ⟨h1, h2⟩ := Prod.mk.inj h
 obtain ⟨h2, -⟩ := Prod.mk.inj h2
 exact Prod.ext (aKn h1) (aKn h2)
theorem atC (n d : Int) (hd : d ≠ 0) : ∃ s : Int, s.natAbs = n.natAbs ∧ Rat.divInt n d = mkRat s d.natAbs ∧ s = (if d < 0 then -n else n) := by
 rcases zQ d 0 with c | c
 ·refine ⟨-n, by omega, ?_, by rw [if_pos c]⟩
  rw [← Rat.neg_divInt_neg, ← xJ]
  congr 1; omega
 ·refine ⟨n, rfl, ?_, by rw [if_neg zc]⟩
  rw [← xJ]
  congr 1; omega
theorem aJg {k : Nat} {n d : Int} (hd : d ≠ 0) (h1 : Bd k n.natAbs) (h2 : Bd k d.natAbs) : BdQ k (Rat.divInt n d) := by
 obtain ⟨s, e1, e2, -⟩ := atC n d hd
 obtain ⟨g, t, hg, g0, e0, f1, f2⟩ := aeK s (d := d.natAbs) zc
 rw [e2]
 refine ⟨?_, ?_⟩
 ·rw [f1, ← acS e0 g0, e1]; exact aaS _ h1
 ·rw [f2]; exact aaS _ h2
theorem aoL {n d : Int} (h1 : Bd 6 n.natAbs) (h2 : Bd 6 d.natAbs) (h3 : d ≠ 0) : afT (pl n, pl d, ()) = some (ra (Rat.divInt n d), ()) := aaI (enc := fun x : Int × Int => (pl x.1, pl x.2, ())) (n, d) ⟨h1, h2, h3⟩ (fun b hb => amB hb)
theorem aFn {s : Int} {d : Nat} (hd : d ≠ 0) (h1 : Bd 6 s.natAbs) (h2 : Bd 6 d) : ∃ g : Nat, g = Nat.gcd s.natAbs d ∧ g ≠ 0 ∧ Bd 6 g ∧ s / (g : Int) = (mkRat s d).num ∧ (d : Int) / (g : Int) = ((mkRat s d).den : Int) := by
 obtain ⟨g, t, hg, g0, e0, f1, f2⟩ := aeK s hd
 refine ⟨g, hg, g0, by rw [hg]; exact aaY h1 h2, ?_, ?_⟩
 ·rw [f1, e0, Int.mul_ediv_cancel_left _ zc]
 ·rw [f2]; simp
theorem aAT (x x' : PlT) (y) (h : afT (x, x', ()) = some y) : (anS x x').toO = some y := by
 obtain ⟨⟨n, d⟩, hp, hx, rfl⟩ := aaE h
 obtain ⟨rfl, hx2⟩ := Prod.mk.inj hx; obtain ⟨rfl, -⟩ := Prod.mk.inj hx2; dsimp only
 obtain ⟨l1, l2, l3⟩ := hp
 dsimp only at l1 l2 l3
 obtain ⟨s, e1, e2, e3⟩ := atC n d l3
 obtain ⟨g, hg, g0, bg, q1, q2⟩ := aFn (s := s) (d := d.natAbs) zc (by rw [e1]; exact l1) l2
 rw [e2]
 unfold anS
 dsimp only
 have hgcd : Nat.gcd s.natAbs d.natAbs = g := hg.symm
 have g0' : (g : Int) ≠ 0 := zc
 by_cases c : d < 0
 ·rw [if_pos c] at e3
  subst e3
  refine uT (zo c) ?_
  refine uC _ (axQ (aaH l1 zc)) (uC _ (axQ (aaH l2 zc)) ?_)
  have hdv := al1 (a := -n) (b := -d) (aaV (aaH l1 zc)) (aaV (aaH l2 zc))
  rw [xH d, hgcd] at hdv
  refine uC _ hdv ?_
  refine uC _ (am4 (b := (g : Int)) (aaV l1) bg g0') ?_
  refine uC _ (am4 (b := (g : Int)) (aaV l2) bg g0') ?_
  rw [q1, show -d = (d.natAbs : Int) by omega, q2]; rfl
 ·rw [if_neg c] at e3
  subst e3
  refine uF (zn c) ?_
  have hdv := al1 (a := s) (b := d) (aaH l1 zc) (aaH l2 zc)
  rw [hgcd] at hdv
  refine uC _ hdv ?_
  refine uC _ (am4 (b := (g : Int)) l1 bg g0') ?_
  refine uC _ (am4 (b := (g : Int)) l2 bg g0') ?_
  rw [q1, show d = (d.natAbs : Int) by omega, zN, q2]; rfl
theorem aDo {n : Int} (h : abD n) : Bd 0 n.natAbs := aaG (by have := h.1; have := h.2; omega)
theorem aJu {n d : Int} (h1 : abD n) (h2 : abD d) (h3 : d ≠ 0) : amW (n, d, ()) = some (ra (Rat.divInt n d), ()) := aaI (enc := fun x : Int × Int => (x.1, x.2, ())) (n, d) ⟨h1, h2, h3⟩ (fun b hb => by
 obtain ⟨e1, e2⟩ := Prod.mk.inj hb
 obtain ⟨e2, -⟩ := Prod.mk.inj e2
 exact Prod.ext e1 e2)
theorem aCB (n d : Int) (y) (h : amW (n, d, ()) = some y) : (ay9 n d).toO = some y := by
 obtain ⟨⟨n', d'⟩, hp, hx, rfl⟩ := aaE h
 obtain ⟨rfl, hx2⟩ := Prod.mk.inj hx; obtain ⟨rfl, -⟩ := Prod.mk.inj hx2; dsimp only
 obtain ⟨l1, l2, l3⟩ := hp
 exact uC _ (aiG l1) (uC _ (aiG l2) (uC _ (aoL (aaH (aDo l1) zc) (aaH (aDo l2) zc) l3) rfl))
theorem am3 {s : FxT} (h : shF s) : ad2 (s, ()) = some ((rdF s).isSome, ()) := by unfold ad2; rw [if_pos h]
theorem aCA (a : FxT) (y) (h : ad2 (a, ()) = some y) : (aqY a).toO = some y := by
 unfold ad2 at h
 split at h
 case isFalse => cases h
 case isTrue hl =>
 injection h with h
 subst h
 obtain ⟨s, t, u⟩ := a
 obtain ⟨l1, l2⟩ := hl
 dsimp only at l1 l2 ⊢
 have hs := aO2 s t
 unfold aqY
 refine uC _ (aAq l1) ?_
 cases hn : rdW s with
 | none =>
  rw [hn] at hs
  rw [show rdF (s, t, u) = none from hs]
  exact uT rfl rfl
 | some n =>
  refine uF rfl (uC _ (aAq l2) ?_)
  cases hd : rdW t with
  | none =>
   rw [hn, hd] at hs
   rw [show rdF (s, t, u) = none from hs]
   exact uT rfl rfl
  | some d =>
   rw [hn, hd] at hs
   dsimp only at hs
   obtain ⟨f1, rfl⟩ := aeH hn
   obtain ⟨f2, rfl⟩ := aeH hd
   have b1 := apY f1
   have b2 := apY f2
   refine uF rfl (uC _ (aB4 f1) (uC _ (aB4 f2) ?_))
   dsimp only
   by_cases hp : 0 < d
   case neg =>
    rw [dif_neg (fun h => hp h.1)] at hs
    rw [show rdF (dec n, dec d, u) = none from hs]
    by_cases c : d < 0
    ·exact uT (zo c) rfl
    ·have : d = 0 := zc
     subst this
     exact uF rfl (uT (by rw [Int.natAbs_zero, dig_zero]; rfl) rfl)
   refine uF sd (uF ?_ ?_)
   ·rw [beq_eq_false_iff_ne, aaC]
    intro h
    have := dig_nil_iff.1 (zU.1 (show (dig d.natAbs).length = 0 by omega))
    omega
   have hdv := al1 (a := n) (b := d) (aaH b1 zc) (aaH b2 zc)
   refine uC _ hdv (uC _ (aEe (aaH (aaY b1 b2) zc)) ?_)
   have h1 : aa2 1 = #[49].toList := by rw [abH zc]; rfl
   rw [aaK, ad7]
   by_cases hcop : n.natAbs.Coprime d.natAbs
   ·rw [dif_pos ⟨hp, hcop⟩] at hs
    rw [show rdF (dec n, dec d, u) = some _ from hs]
    have : Nat.gcd n.natAbs d.natAbs = 1 := hcop
    rw [this, h1]; rfl
   ·rw [dif_neg (fun h => hcop h.2)] at hs
    rw [show rdF (dec n, dec d, u) = none from hs]
    have : (aa2 (Nat.gcd n.natAbs d.natAbs) == #[49].toList) = false := by
     rw [beq_eq_false_iff_ne]
     exact fun h => hcop (ah6 (h.trans h1.symm))
    rw [this]; rfl
theorem aB3 {q : Rat} (h : ac1 q) : aoJ (fx q, ()) = some (ra q, ()) := aaI (enc := fun x : Rat => (fx x, ())) q h (fun b hb => avU (Prod.mk.inj hb).1)
theorem aKr (a : FxT) (y) (h : aoJ (a, ()) = some y) : (aKq a).toO = some y := by
 obtain ⟨q, hp, hx, rfl⟩ := aaE h
 obtain ⟨rfl, -⟩ := Prod.mk.inj hx
 refine uC _ (aB4 hp.1) (uC (pl q.den, ()) ?_ rfl)
 have := aB4 hp.2
 rwa [ad7] at this
theorem aB2 {q : Rat} (h : BdQ 6 q) : amX (ra q, ()) = some (wrF q) := aaI (enc := fun x : Rat => (ra x, ())) q h (fun b hb => aKn (Prod.mk.inj hb).1)
theorem aHR (x : RaT) (y) (h : amX (x, ()) = some y) : (aGE x).toO = some y := by
 obtain ⟨q, hp, hx, rfl⟩ := aaE h
 obtain ⟨rfl, -⟩ := Prod.mk.inj hx
 refine uC _ (aHk hp.1) (uC _ (aHk (z := (q.den : Int)) hp.2) ?_)
 by_cases c1 : Fit q.num
 ·rw [aiI c1]
  by_cases c2 : Fit q.den
  ·rw [aEq ⟨c1, c2⟩, aiI c2]
   refine uF rfl (uF rfl ?_)
   rw [aaK, ad7]
  ·rw [aAu (fun h => c2 h.2), aqP c2]
   exact uF rfl (uT rfl rfl)
 ·rw [aqP c1, aAu (fun h => c1 h.1)]
  exact uT rfl rfl
theorem aMT {p q : Rat} (h1 : BdQ 3 p) (h2 : BdQ 3 q) : ap6 (ra p, ra q, ()) = some (ra (p + q), ()) := aaI (enc := fun x : Rat × Rat => (ra x.1, ra x.2, ())) (p, q) ⟨h1, h2⟩ (fun b hb => aGC hb)
theorem aEP (x x' : RaT) (y) (h : ap6 (x, x', ()) = some y) : (aCC x x').toO = some y := by
 obtain ⟨⟨p, q⟩, hp, hx, rfl⟩ := aaE h
 obtain ⟨rfl, hx2⟩ := Prod.mk.inj hx; obtain ⟨rfl, -⟩ := Prod.mk.inj hx2; dsimp only
 obtain ⟨⟨p1, p2⟩, q1, q2⟩ := hp
 dsimp only at p1 p2 q1 q2
 have t1 := aaB p1 (aaP q2)
 have t2 := aaB q1 (aaP p2)
 have t3 := aaB (aaP p2) (aaP q2)
 refine uC _ (ajO (aaH p1 zc) (aaP (aaH q2 zc))) ?_
 refine uC _ (ajO (aaH q1 zc) (aaP (aaH p2 zc))) ?_
 refine uC _ (aqM (aaH t1 zc) (aaH t2 zc)) ?_
 refine uC _ (ajO (a := (p.den : Int)) (b := (q.den : Int)) (aaP (aaH p2 zc)) (aaP (aaH q2 zc))) ?_
 have hd : (p.den : Int) * (q.den : Int) ≠ 0 := by
  have := xj p.den_nz q.den_nz
  rw [← yi]; omega
 refine uC _ (aoL (aaH (aaD t1 t2) zc) (aaH t3 zc) hd) ?_
 have : Rat.divInt (p.num * q.den + q.num * p.den) ((p.den : Int) * q.den) = p + q := by
  rw [← yi, xJ, Rat.add_def']
 rw [this]; rfl
theorem aJt {p q : Rat} (h1 : BdQ 3 p) (h2 : BdQ 3 q) : amV (ra p, ra q, ()) = some (ra (p * q), ()) := aaI (enc := fun x : Rat × Rat => (ra x.1, ra x.2, ())) (p, q) ⟨h1, h2⟩ (fun b hb => aGC hb)
theorem aCz (x x' : RaT) (y) (h : amV (x, x', ()) = some y) : (ay8 x x').toO = some y := by
 obtain ⟨⟨p, q⟩, hp, hx, rfl⟩ := aaE h
 obtain ⟨rfl, hx2⟩ := Prod.mk.inj hx; obtain ⟨rfl, -⟩ := Prod.mk.inj hx2; dsimp only
 obtain ⟨⟨p1, p2⟩, q1, q2⟩ := hp
 dsimp only at p1 p2 q1 q2
 refine uC _ (ajO (aaH p1 zc) (aaH q1 zc)) ?_
 refine uC _ (ajO (a := (p.den : Int)) (b := (q.den : Int)) (aaP (aaH p2 zc)) (aaP (aaH q2 zc))) ?_
 have hd : (p.den : Int) * (q.den : Int) ≠ 0 := by
  have := xj p.den_nz q.den_nz
  rw [← yi]; omega
 refine uC _ (aoL (aaH (aaB p1 q1) zc) (aaH (aaB (aaP p2) (aaP q2)) zc) hd) ?_
 have : Rat.divInt (p.num * q.num) ((p.den : Int) * q.den) = p * q := by
  rw [← yi, xJ, Rat.mul_def']
 rw [this]; rfl
theorem aKp (n d : Int) (y) (h : axH (n, d, ()) = some y) : (aEQ n d).toO = some y := by
 unfold axH alV at h
 split at h
 case isFalse => cases h
 case isTrue hp =>
 obtain ⟨i1, i2⟩ := hp
 dsimp only at i1 i2 h
 unfold ofQ at h
 unfold aEQ
 by_cases c : d = 0
 ·rw [if_pos c] at h
  exact uT (by rw [c]; rfl) h
 ·rw [if_neg c] at h
  refine uF (by simpa using c) (uC _ (aJu i1 i2 c) (uC _ (aB2 (aJg c (aaH (aDo i1) zc) (aaH (aDo i2) zc))) h))
theorem aHT (a b : FxT) (y) (h : akL (a, b, ()) = some y) : (aGG a b).toO = some y := by
 unfold akL at h
 split at h
 case isFalse => cases h
 case isTrue hp =>
 obtain ⟨s1, s2⟩ := hp
 unfold adQ aKK at h
 dsimp only at h s1 s2
 refine uC _ (am3 s1) ?_
 cases ha : rdF a with
 | none => simp only [ha] at h; exact uT rfl h
 | some p =>
  refine uF rfl (uC _ (am3 s2) ?_)
  cases hb : rdF b with
  | none => simp only [ha, hb] at h; exact uT rfl h
  | some q =>
   simp only [ha, hb] at h
   refine uF rfl ?_
   have b1 := agE ha
   have b2 := agE hb
   obtain ⟨f1, rfl⟩ := agR ha
   obtain ⟨f2, rfl⟩ := agR hb
   refine uC _ (aB3 f1) (uC _ (aB3 f2) ?_)
   exact uC _ (aMT (ad3 b1 zc) (ad3 b2 zc)) (uC _ (aB2 (ad3 (aGa b1 b2) zc)) h)
theorem aHS (a b : FxT) (y) (h : aiA (a, b, ()) = some y) : (aGF a b).toO = some y := by
 unfold aiA at h
 split at h
 case isFalse => cases h
 case isTrue hp =>
 obtain ⟨s1, s2⟩ := hp
 unfold ac9 aKK at h
 dsimp only at h s1 s2
 refine uC _ (am3 s1) ?_
 cases ha : rdF a with
 | none => simp only [ha] at h; exact uT rfl h
 | some p =>
  refine uF rfl (uC _ (am3 s2) ?_)
  cases hb : rdF b with
  | none => simp only [ha, hb] at h; exact uT rfl h
  | some q =>
   simp only [ha, hb] at h
   refine uF rfl ?_
   have b1 := agE ha
   have b2 := agE hb
   obtain ⟨f1, rfl⟩ := agR ha
   obtain ⟨f2, rfl⟩ := agR hb
   refine uC _ (aB3 f1) (uC _ (aB3 f2) ?_)
   exact uC _ (aJt (ad3 b1 zc) (ad3 b2 zc)) (uC _ (aB2 (ad3 (aF9 b1 b2) zc)) h)
set_option maxRecDepth 100000
open Go Go.Vg Go.Proofs
noncomputable section
def aFA : LTab := [(177, 8186, 49153, ⟨0, (Int) × (List Int) × (List Int) × Unit, .dat (.s 12) ui <| .row 41 ul <| .row 26 ul <| .nil, [4, 11, 10, 9, 8, 5], [41, 26], 0⟩), (209, 63, 95232, ⟨1, (Int) × Unit, .dat (.s 8) uI <| .nil, [5, 4, 0, 1], [41, 26], 0⟩), (209, 252, 95232, ⟨2, (Int) × (Int) × Unit, .dat (.s 9) uI <| .dat (.s 8) uI <| .nil, [6, 5, 4, 0, 1], [41, 26], 0⟩), (209, 2042, 100352, ⟨3, (Int) × (Int) × (Int) × (List Int) × Unit, .dat (.s 77) ui <| .dat (.s 11) ui <| .dat (.s 10) uI <| .row 26 ul <| .nil, [76, 75, 8, 5, 4, 0, 1], [41, 26], 0⟩), (209, 65454, 118784, ⟨4, (Int) × (Int) × (List Int) × Unit, .dat (.s 125) ui <| .dat (.s 15) ul <| .row 26 ul <| .nil, [124, 123, 8, 5, 4, 0], [41, 26], 0⟩)]
def ahG (i1 : (Int) × (Int) × Unit) (y3 : List Int × Unit) (i : Int × List Int × List Int × Unit) : TT (uE ⊕ (uS ⊕ ut)) :=
 .ite (decide (abP (i1.1 + abP (gi y3.1 (w64 (len y3.1 - 1)) 0)) ≥ 1000000000))
 (.tt <| .lt (abP (i1.2.1 - 1) : Int) fun z5 => .vQ (ub z5 (len y3.1) (0 : Int) <| (vV 26 (0 + Int.toNat i.1) (Int.toNat (w64 (w64 (i.1 + len y3.1) + 1)) - Int.toNat i.1) true) ∧ vZ y3.1) <| .vQ (vP (vU 189 i.2.1) <| vP (vU 189 i.2.2.1) True) <| .ok (.inr (.inl ((z5, ())))))
 (.tt <| .lt (abP (i1.1 + abP (gi y3.1 (w64 (len y3.1 - 1)) 0)) : Int) fun z6 => .lt (abP (i1.2.1 - 1) : Int) fun z7 => .vQ (vW z7 z6 (abP (gi y3.1 (w64 (len y3.1 - 1)) 0) : Int) (len y3.1) (0 : Int) <| (vV 26 (0 + Int.toNat i.1) (Int.toNat (w64 (w64 (i.1 + len y3.1) + 1)) - Int.toNat i.1) true) ∧ vZ y3.1) <| .vQ (vP (vU 189 i.2.1) <| vP (vU 189 i.2.2.1) True) <| .ok (.inl ((z6, z7, ()))))
def agJ (m : List Int) (o : List Int) (y : Int × Unit) (y3 : List Int × Unit) (y4 : List Int × Unit) (i : Int × List Int × List Int × Unit) (i1 : (Int) × (Int) × Unit) : TT (uE ⊕ (uS ⊕ ut)) :=
 .ite (decide (i1.2.1 ≥ 1000000000))
 (ahG i1 y3 i)
 (.need (inb (w64 (len y3.1 - 2)) (len y3.1)) <| .need (inb (w64 (len y3.1 - 2)) (↑(Int.toNat (w64 (w64 (i.1 + len y3.1) + 1)) - Int.toNat i.1) : Int)) <| .ite (decide (abP (i1.2.1 * abP (gi y3.1 (w64 (len y3.1 - 2)) 0)) > abP (abP (i1.1 * 1000000000) + abP (List.getD i.2.2.1 (0 + Int.toNat i.1 + Int.toNat (w64 (len y3.1 - 2))) 0))))
  (ahG i1 y3 i)
  (.tt <| .lt (i1.2.1 : Int) fun z11 => .vQ (ub z11 (len y3.1) (0 : Int) <| (vV 26 (0 + Int.toNat i.1) (Int.toNat (w64 (w64 (i.1 + len y3.1) + 1)) - Int.toNat i.1) true) ∧ vZ y3.1) <| .vQ (vP (vU 189 i.2.1) <| vP (vU 189 i.2.2.1) True) <| .ok (.inr (.inl ((z11, ()))))))
def ah1 (m : List Int) (o : List Int) (y : Int × Unit) (y3 : List Int × Unit) (y4 : List Int × Unit) (i : Int × List Int × List Int × Unit) (j : Int × Unit) (i2 : Int × Int × Int × List Int × Unit) (i3 : (Int) × (Int) × (List Int) × Unit) : TT (uJ ⊕ tU) :=
 .ite (decide (i3.1 < len y3.1))
 (.need (inb i3.1 (len y3.1)) <| .need (inb i3.1 (↑(Int.toNat (w64 (w64 (i.1 + len y3.1) + 1)) - Int.toNat i.1) : Int)) <| .ite (decide (adV (adV (List.getD i3.2.2.1 (0 + Int.toNat i.1 + Int.toNat i3.1) 0 + gi y3.1 i3.1 0) + i3.2.1) ≥ 1000000000))
 (.need (inb i3.1 (↑(Int.toNat (w64 (w64 (i.1 + len y3.1) + 1)) - Int.toNat i.1) : Int)) <| .tt <| .lt (w64 (i3.1 + 1) : Int) fun z20 => .lt (List.set i3.2.2.1 (0 + Int.toNat i.1 + Int.toNat i3.1) (adV (adV (adV (List.getD i3.2.2.1 (0 + Int.toNat i.1 + Int.toNat i3.1) 0 + gi y3.1 i3.1 0) + i3.2.1) - 1000000000)) : List Int) fun z21 => .vQ (ud (1 : Int) z20 (len y3.1) y3.1 (abP (j.1 - 1)) (len y3.1) (0 : Int) <| (vV 26 (0 + Int.toNat i.1) (Int.toNat (w64 (w64 (i.1 + len y3.1) + 1)) - Int.toNat i.1) true) ∧ True) <| .vQ (vP (vU 189 i.2.1) <| vP (vU 189 z21) True) <| .ok (.inl ((z20, 1, z21, ()))))
 (.need (inb i3.1 (↑(Int.toNat (w64 (w64 (i.1 + len y3.1) + 1)) - Int.toNat i.1) : Int)) <| .tt <| .lt (w64 (i3.1 + 1) : Int) fun z22 => .lt (List.set i3.2.2.1 (0 + Int.toNat i.1 + Int.toNat i3.1) (adV (adV (List.getD i3.2.2.1 (0 + Int.toNat i.1 + Int.toNat i3.1) 0 + gi y3.1 i3.1 0) + i3.2.1)) : List Int) fun z23 => .vQ (ud (0 : Int) z22 (len y3.1) y3.1 (abP (j.1 - 1)) (len y3.1) (0 : Int) <| (vV 26 (0 + Int.toNat i.1) (Int.toNat (w64 (w64 (i.1 + len y3.1) + 1)) - Int.toNat i.1) true) ∧ True) <| .vQ (vP (vU 189 i.2.1) <| vP (vU 189 z23) True) <| .ok (.inl ((z22, 0, z23, ())))))
 (.need (inb (len y3.1) (↑(Int.toNat (w64 (w64 (i.1 + len y3.1) + 1)) - Int.toNat i.1) : Int)) <| .need (inb i.1 (↑(Int.toNat (w64 (w64 (len m - len y3.1) + 1))) : Int)) <| .tt <| .lt (w64 (i.1 - 1) : Int) fun z24 => .lt (List.set i.2.1 (0 + Int.toNat i.1) (adV (abP (j.1 - 1))) : List Int) fun z25 => .lt (List.set i3.2.2.1 (0 + Int.toNat i.1 + Int.toNat (len y3.1)) 0 : List Int) fun z26 => .vQ (vR z24 <| (vV 41 0 (Int.toNat (w64 (w64 (len m - len y3.1) + 1))) true) ∧ (vR (len y3.1) <| (vV 26 0 (Int.toNat (w64 (len m + 1))) true) ∧ (vX y3.1 (adV (Int.tdiv 1000000000 (adV (gi o (w64 (len o - 1)) 0 + 1))) : Int) <| True ∧ True))) <| .vQ (vP (vU 189 z25) <| vP (vU 189 z26) True) <| .ok (.inr (.inr (.inl ((z24, z25, z26, ()))))))
def agI (m : List Int) (o : List Int) (y : Int × Unit) (y3 : List Int × Unit) (y4 : List Int × Unit) (i : Int × List Int × List Int × Unit) (j : Int × Unit) (i2 : (Int) × (Int) × (Int) × (List Int) × Unit) : TT tU :=
 .ite (decide (i2.1 < len y3.1))
 (.need (inb i2.1 (len y3.1)) <| .need (inb i2.1 (↑(Int.toNat (w64 (w64 (i.1 + len y3.1) + 1)) - Int.toNat i.1) : Int)) <| .triv (asT Int 1000000000 ≠ 0) zf <| .triv (asT Int 1000000000 ≠ 0) zf <| .ite (decide (w64 (w64 (w64 (List.getD i2.2.2.2.1 (0 + Int.toNat i.1 + Int.toNat i2.1) 0) - i2.2.1) - w64 (Int.tmod (abP (i2.2.2.1 + abP (j.1 * abP (gi y3.1 i2.1 0)))) 1000000000)) < 0))
 (.need (inb i2.1 (↑(Int.toNat (w64 (w64 (i.1 + len y3.1) + 1)) - Int.toNat i.1) : Int)) <| .tt <| .lt (w64 (i2.1 + 1) : Int) fun z13 => .lt (abP (Int.tdiv (abP (i2.2.2.1 + abP (j.1 * abP (gi y3.1 i2.1 0)))) 1000000000) : Int) fun z14 => .lt (List.set i2.2.2.2.1 (0 + Int.toNat i.1 + Int.toNat i2.1) (adV (w64 (w64 (w64 (w64 (List.getD i2.2.2.2.1 (0 + Int.toNat i.1 + Int.toNat i2.1) 0) - i2.2.1) - w64 (Int.tmod (abP (i2.2.2.1 + abP (j.1 * abP (gi y3.1 i2.1 0)))) 1000000000)) + 1000000000))) : List Int) fun z15 => .vQ (ua z14 (1 : Int) z13 (len y3.1) y3.1 j.1 (len y3.1) (0 : Int) <| (vV 26 (0 + Int.toNat i.1) (Int.toNat (w64 (w64 (i.1 + len y3.1) + 1)) - Int.toNat i.1) true) ∧ vZ y3.1) <| .vQ (vP (vU 189 i.2.1) <| vP (vU 189 z15) True) <| .ok (.inl ((z13, 1, z14, z15, ()))))
 (.need (inb i2.1 (↑(Int.toNat (w64 (w64 (i.1 + len y3.1) + 1)) - Int.toNat i.1) : Int)) <| .tt <| .lt (w64 (i2.1 + 1) : Int) fun z16 => .lt (abP (Int.tdiv (abP (i2.2.2.1 + abP (j.1 * abP (gi y3.1 i2.1 0)))) 1000000000) : Int) fun z17 => .lt (List.set i2.2.2.2.1 (0 + Int.toNat i.1 + Int.toNat i2.1) (adV (w64 (w64 (w64 (List.getD i2.2.2.2.1 (0 + Int.toNat i.1 + Int.toNat i2.1) 0) - i2.2.1) - w64 (Int.tmod (abP (i2.2.2.1 + abP (j.1 * abP (gi y3.1 i2.1 0)))) 1000000000)))) : List Int) fun z18 => .vQ (ua z17 (0 : Int) z16 (len y3.1) y3.1 j.1 (len y3.1) (0 : Int) <| (vV 26 (0 + Int.toNat i.1) (Int.toNat (w64 (w64 (i.1 + len y3.1) + 1)) - Int.toNat i.1) true) ∧ vZ y3.1) <| .vQ (vP (vU 189 i.2.1) <| vP (vU 189 z18) True) <| .ok (.inl ((z16, 0, z17, z18, ())))))
 (.need (inb (len y3.1) (↑(Int.toNat (w64 (w64 (i.1 + len y3.1) + 1)) - Int.toNat i.1) : Int)) <| .ite (decide (w64 (w64 (List.getD i2.2.2.2.1 (0 + Int.toNat i.1 + Int.toNat (len y3.1)) 0) - i2.2.1) < w64 i2.2.2.1))
 (.loop 4 (.tt <| .lt (i2.2.2.2.1 : List Int) fun z19 => .vQ (ud (0 : Int) (0 : Int) (len y3.1) y3.1 (abP (j.1 - 1)) (len y3.1) (0 : Int) <| (vV 26 (0 + Int.toNat i.1) (Int.toNat (w64 (w64 (i.1 + len y3.1) + 1)) - Int.toNat i.1) true) ∧ True) <| .vQ (vP (vU 189 i.2.1) <| vP (vU 189 z19) True) <| .ok ((0, 0, z19, ()))) (ah1 m o y y3 y4 i j i2))
 (.need (inb (len y3.1) (↑(Int.toNat (w64 (w64 (i.1 + len y3.1) + 1)) - Int.toNat i.1) : Int)) <| .need (inb i.1 (↑(Int.toNat (w64 (w64 (len m - len y3.1) + 1))) : Int)) <| .tt <| .lt (w64 (i.1 - 1) : Int) fun z27 => .lt (List.set i.2.1 (0 + Int.toNat i.1) (adV j.1) : List Int) fun z28 => .lt (List.set i2.2.2.2.1 (0 + Int.toNat i.1 + Int.toNat (len y3.1)) 0 : List Int) fun z29 => .vQ (vR z27 <| (vV 41 0 (Int.toNat (w64 (w64 (len m - len y3.1) + 1))) true) ∧ (vR (len y3.1) <| (vV 26 0 (Int.toNat (w64 (len m + 1))) true) ∧ (vX y3.1 (adV (Int.tdiv 1000000000 (adV (gi o (w64 (len o - 1)) 0 + 1))) : Int) <| True ∧ True))) <| .vQ (vP (vU 189 z28) <| vP (vU 189 z29) True) <| .ok (.inr (.inl ((z27, z28, z29, ()))))))
def as8 (m : List Int) (o : List Int) (y : Int × Unit) (y3 : List Int × Unit) (y4 : List Int × Unit) (i : Int × List Int × List Int × Unit) (j : (Int) × Unit) : TT ut :=
 .loop 3 (.tt <| .lt (i.2.2.1 : List Int) fun z12 => .vQ (ua (0 : Int) (0 : Int) (0 : Int) (len y3.1) y3.1 j.1 (len y3.1) (0 : Int) <| (vV 26 (0 + Int.toNat i.1) (Int.toNat (w64 (w64 (i.1 + len y3.1) + 1)) - Int.toNat i.1) true) ∧ vZ y3.1) <| .vQ (vP (vU 189 i.2.1) <| vP (vU 189 z12) True) <| .ok ((0, 0, 0, z12, ()))) (agI m o y y3 y4 i j)
def ah2 (m : List Int) (o : List Int) (y : Int × Unit) (y3 : List Int × Unit) (y4 : List Int × Unit) (i : (Int) × (List Int) × (List Int) × Unit) : TT ut :=
 .ite (decide (i.1 ≥ 0))
 (.need (inc (w64 (w64 (i.1 + len y3.1) + 1)) (↑(Int.toNat (w64 (len m + 1))) : Int)) <| .need (inc i.1 (↑(Int.toNat (w64 (w64 (i.1 + len y3.1) + 1))) : Int)) <| .tt <| .tt <| .need (inb (w64 (len y3.1 - 1)) (len y3.1)) <| .need (inb (len y3.1) (↑(Int.toNat (w64 (w64 (i.1 + len y3.1) + 1)) - Int.toNat i.1) : Int)) <| .need (inb (w64 (len y3.1 - 1)) (↑(Int.toNat (w64 (w64 (i.1 + len y3.1) + 1)) - Int.toNat i.1) : Int)) <| .need (abP (gi y3.1 (w64 (len y3.1 - 1)) 0) ≠ 0) <| .need (abP (gi y3.1 (w64 (len y3.1 - 1)) 0) ≠ 0) <| .join 1 (ι := (Int) × Unit) (.loop 2 (.tt <| .lt (Int.tmod (abP (abP (abP (List.getD i.2.2.1 (0 + Int.toNat i.1 + Int.toNat (len y3.1)) 0) * 1000000000) + abP (List.getD i.2.2.1 (0 + Int.toNat i.1 + Int.toNat (w64 (len y3.1 - 1))) 0))) (abP (gi y3.1 (w64 (len y3.1 - 1)) 0)) : Int) fun z3 => .lt (abP (Int.tdiv (abP (abP (abP (List.getD i.2.2.1 (0 + Int.toNat i.1 + Int.toNat (len y3.1)) 0) * 1000000000) + abP (List.getD i.2.2.1 (0 + Int.toNat i.1 + Int.toNat (w64 (len y3.1 - 1))) 0))) (abP (gi y3.1 (w64 (len y3.1 - 1)) 0))) : Int) fun z4 => .vQ (vW z4 z3 (abP (gi y3.1 (w64 (len y3.1 - 1)) 0) : Int) (len y3.1) (0 : Int) <| (vV 26 (0 + Int.toNat i.1) (Int.toNat (w64 (w64 (i.1 + len y3.1) + 1)) - Int.toNat i.1) true) ∧ vZ y3.1) <| .vQ (vP (vU 189 i.2.1) <| vP (vU 189 i.2.2.1) True) <| .ok ((z3, z4, ()))) (agJ m o y y3 y4 i)) (as8 m o y y3 y4 i))
 (.need (inc (len y3.1) (↑(Int.toNat (w64 (len m + 1))) : Int)) <| .call (acE (List.take (Int.toNat (len y3.1)) i.2.2.1, ())) Dd0 fun y5 =>
 .call (ajG (y5.1, adV (Int.tdiv 1000000000 (adV (gi o (w64 (len o - 1)) 0 + 1))), ())) aRp fun y6 =>
 .call (acE (List.take (Int.toNat (w64 (w64 (len m - len y3.1) + 1))) i.2.1, ())) Dd0 fun y7 =>
 .ok (.inr ((y7.1, y6.1, ()))))
def aj1 (m : List Int) (o : List Int) : TT (List Int × List Int × Unit) :=
 .call (adO (m, o, ())) Dd6 fun y =>
 .ite (decide (y.1 < 0))
 (.ok (([], m, ())))
 (.ite (len o == 1)
 (.need (asT Int 0 ≤ 0 ∧ 0 < len o) <| .call (ajG (m, gi o 0 0, ())) aRp fun y1 =>
 .call (abN (abP y1.2.1, ())) Dd0 fun y2 =>
 .ok ((y1.1, y2.1, ())))
 (.need (inb (w64 (len o - 1)) (len o)) <| .need (adV (gi o (w64 (len o - 1)) 0 + 1) ≠ 0) <| .call (acB (o, [adV (Int.tdiv 1000000000 (adV (gi o (w64 (len o - 1)) 0 + 1)))], ())) Dd0 fun y3 =>
 .need (0 ≤ w64 (len m + 1) ∧ w64 (len m + 1) ≤ w64 (len m + 1) ∧ w64 (len m + 1) * (↑4 : Int) ≤ 140737488355328) <| .call (acB (m, [adV (Int.tdiv 1000000000 (adV (gi o (w64 (len o - 1)) 0 + 1)))], ())) Dd0 fun y4 =>
 .need (0 ≤ w64 (w64 (len m - len y3.1) + 1) ∧ w64 (w64 (len m - len y3.1) + 1) ≤ w64 (w64 (len m - len y3.1) + 1) ∧ w64 (w64 (len m - len y3.1) + 1) * (↑4 : Int) ≤ 140737488355328) <| .loop 0 (.tt <| .lt (w64 (len m - len y3.1) : Int) fun z => .lt (List.replicate (Int.toNat (w64 (z + 1))) 0 : List Int) fun z1 => .lt (over (List.replicate (Int.toNat (w64 (len m + 1))) 0) 0 (List.take (Int.toNat (w64 (len m + 1))) y4.1) : List Int) fun z2 => .vQ (vR z <| (vV 41 0 (Int.toNat (w64 (z + 1))) true) ∧ (vR (len y3.1) <| (vV 26 0 (Int.toNat (w64 (len m + 1))) true) ∧ (vX y3.1 (adV (Int.tdiv 1000000000 (adV (gi o (w64 (len o - 1)) 0 + 1))) : Int) <| True ∧ True))) <| .vQ (vP (vU 189 z1) <| vP (vU 189 z2) True) <| .ok ((z, z1, z2, ()))) (ah2 m o y y3 y4)))
def aEt : LTab := [(247, 8186, 49153, ⟨0, (Int) × (List Int) × (List Int) × Unit, .dat (.s 12) ui <| .row 41 ul <| .row 26 ul <| .nil, [4, 11, 10, 9, 8, 5], [41, 26], 0⟩), (269, 63, 95232, ⟨1, (Int) × Unit, .dat (.s 8) uI <| .nil, [5, 4, 0, 1], [41, 26], 0⟩), (269, 252, 95232, ⟨2, (Int) × (Int) × Unit, .dat (.s 9) uI <| .dat (.s 8) uI <| .nil, [6, 5, 4, 0, 1], [41, 26], 0⟩), (269, 2042, 100352, ⟨3, (Int) × (Int) × (Int) × (List Int) × Unit, .dat (.s 77) ui <| .dat (.s 11) ui <| .dat (.s 10) uI <| .row 26 ul <| .nil, [76, 75, 8, 5, 4, 0, 1], [41, 26], 0⟩), (269, 65454, 118784, ⟨4, (Int) × (Int) × (List Int) × Unit, .dat (.s 125) ui <| .dat (.s 15) ul <| .row 26 ul <| .nil, [124, 123, 8, 5, 4, 0], [41, 26], 0⟩)]
end
theorem aLY {H v1 V P U Q : Int} (hP : 0 < P) (h1 : 0 < v1) (hV : v1 * P ≤ V) (hU : U < (H + 1) * P) (hQ : Q * V ≤ U) (hQ0 : 0 ≤ Q) : Q ≤ H / v1 := by
 rw [xd h1]
 have a1 : Q * (v1 * P) ≤ Q * V := zy hV hQ0
 have a2 : Q * v1 * P < (H + 1) * P := by rw [Int.mul_assoc]; omega
 have := yh a2 zc
 omega
theorem aOy {q r H v1 v2 V P U Q u2 B : Int} (hV0 : 0 ≤ V) (hP : 0 < P) (hinv : q * v1 + r = H) (hV : (v1 * B + v2) * P ≤ V) (hU : U < (H * B + u2 + 1) * P) (hQ : Q * V ≤ U) (hq : 0 ≤ q) (h : q * v2 > r * B + u2) : Q ≤ q - 1 := by
 have a1 : H * B + u2 + 1 ≤ q * (v1 * B + v2) := by
  have : q * (v1 * B + v2) = (q * v1 + r) * B - r * B + q * v2 := by grind
  rw [this, hinv]; omega
 have a2 : (H * B + u2 + 1) * P ≤ (q * (v1 * B + v2)) * P := zC a1 zc
 have a3 : q * ((v1 * B + v2) * P) ≤ q * V := zy hV hq
 rw [Int.mul_assoc] at a2
 have a4 : Q * V < q * V := zc
 have := yh a4 hV0
 omega
theorem aG4 {q r H v1 v2 V V3 P U u2 B Q : Int} (hP : 0 < P) (hinv : q * v1 + r = H) (hVe : V = (v1 * B + v2) * P + V3) (hV3 : V3 < P) (hV30 : 0 ≤ V3) (hU : (H * B + u2) * P ≤ U) (hq : 0 ≤ q) (hqB : q < B) (hVB : B * P ≤ V) (hUQ : U < (Q + 1) * V) (h : q * v2 ≤ r * B + u2) : q ≤ Q + 1 := by
 have a1 : q * (v1 * B + v2) ≤ H * B + u2 := by
  have : q * (v1 * B + v2) = (q * v1 + r) * B - r * B + q * v2 := by grind
  rw [this, hinv]; omega
 have a2 : (q * (v1 * B + v2)) * P ≤ (H * B + u2) * P := zC a1 zc
 have a3 : q * V3 ≤ B * P := by
  have b1 : q * V3 ≤ q * P := zy zc hq
  have b2 : q * P ≤ B * P := zC zc zc
  omega
 have a4 : q * V = (q * (v1 * B + v2)) * P + q * V3 := by rw [hVe]; grind
 have a5 : q * V < (Q + 2) * V := by
  have : (Q + 2) * V = (Q + 1) * V + V := by grind
  omega
 have hVpos : 0 < V := by
  have : 0 < B * P := vq zc hP
  omega
 have := yh a5 zc
 omega
theorem aFB {u w : List Int} {j n : Nat} {Q Vv e U : Int} (hlen : w.length = u.length) (hjn : j + n < u.length) (hw : Dg 1000000000 w)
  (htk : w.take j = u.take j) (hdr : w.drop (j + n) = u.drop (j + n)) (hz : V 1000000000 (u.drop (j + n + 1)) = 0) (hU : U = V 1000000000 (u.drop j)) (hX0 : 0 ≤ U - Q * Vv) (hX1 : U - Q * Vv < 1000000000 ^ n)
  (hV : V 1000000000 w = V 1000000000 u - 1000000000 ^ j * (Q * Vv) + 1000000000 ^ (j + n) * e) :
  V 1000000000 (w.set (j + n) 0) = V 1000000000 u - 1000000000 ^ j * (Q * Vv) ∧ V 1000000000 ((w.set (j + n) 0).drop j) = U - Q * Vv ∧ e = u.getD (j + n) 0 := by
 have sw := ab6 1000000000 w j
 have su := ab6 1000000000 u j
 rw [htk] at sw
 have hPj : (0 : Int) < 1000000000 ^ j := yI zc
 have hPn : (0 : Int) < 1000000000 ^ n := yI zc
 have e1 : V 1000000000 (w.drop j) = U - Q * Vv + 1000000000 ^ n * e := by
  have : 1000000000 ^ j * V 1000000000 (w.drop j) = 1000000000 ^ j * (U - Q * Vv + 1000000000 ^ n * e) := by
   rw [wi] at hV
   rw [hU]
   have : (1000000000 : Int) ^ j * (V 1000000000 (u.drop j) - Q * Vv + 1000000000 ^ n * e) = 1000000000 ^ j * V 1000000000 (u.drop j) - 1000000000 ^ j * (Q * Vv) + 1000000000 ^ j * 1000000000 ^ n * e := by grind
   omega
  exact Int.eq_of_mul_eq_mul_left zc this
 have s2 := ab6 1000000000 (w.drop j) n
 rw [yb, hdr] at s2
 have s3 := aaU 1000000000 u (j + n)
 rw [hz, wy, vI] at s3
 rw [s3] at s2
 have l1 := ac5 zc (acI hw j) n
 have l2 := aaT zc (ab5 (acI hw j) n)
 have hget : w.getD (j + n) 0 = u.getD (j + n) 0 := by
  have h1 : (w.drop (j + n)).getD 0 0 = (u.drop (j + n)).getD 0 0 := by rw [hdr]
  simpa [yg, yW] using h1
 have he : e = u.getD (j + n) 0 := by
  have h1 : 1000000000 ^ n * (u.getD (j + n) 0 - e) = (U - Q * Vv) - V 1000000000 ((w.drop j).take n) := by
   rw [Int.mul_sub]; omega
  have h2 : u.getD (j + n) 0 - e < 1 := by
   have : 1000000000 ^ n * (u.getD (j + n) 0 - e) < 1000000000 ^ n * 1 := zc
   exact yR this zc
  have h3 : -1 < u.getD (j + n) 0 - e := by
   have : 1000000000 ^ n * (-1) < 1000000000 ^ n * (u.getD (j + n) 0 - e) := zc
   exact yR this zc
  omega
 refine ⟨?_, ?_, he⟩
 ·rw [axD _ zc, hget, hV, he, Int.mul_sub]
  omega
 ·have s4 : (w.set (j + n) 0).drop j = (w.drop j).set n 0 := by
   rw [List.drop_set, if_neg zc]; congr 1; omega
  rw [s4, axD _ (by rw [yA]; omega)]
  have : (w.drop j).getD n 0 = u.getD (j + n) 0 := by
   rw [← hget]; simp [yg, yW]
  rw [this, e1, he, Int.mul_sub]
  omega
theorem aPN {u w : List Int} {j n : Nat} {q Vv e U : Int} (hw : Dg 1000000000 w)
  (htk : w.take j = u.take j) (hdr : w.drop (j + n) = u.drop (j + n)) (hz : V 1000000000 (u.drop (j + n + 1)) = 0) (hU : U = V 1000000000 (u.drop j)) (hX0 : U - q * Vv < 0)
  (hV : V 1000000000 w = V 1000000000 u - 1000000000 ^ j * (q * Vv) + 1000000000 ^ (j + n) * e) : u.getD (j + n) 0 < e := by
 have sw := ab6 1000000000 w j
 have su := ab6 1000000000 u j
 rw [htk] at sw
 have hPj : (0 : Int) < 1000000000 ^ j := yI zc
 have hPn : (0 : Int) < 1000000000 ^ n := yI zc
 have e1 : V 1000000000 (w.drop j) = U - q * Vv + 1000000000 ^ n * e := by
  have : 1000000000 ^ j * V 1000000000 (w.drop j) = 1000000000 ^ j * (U - q * Vv + 1000000000 ^ n * e) := by
   rw [wi] at hV
   rw [hU]
   have : (1000000000 : Int) ^ j * (V 1000000000 (u.drop j) - q * Vv + 1000000000 ^ n * e) = 1000000000 ^ j * V 1000000000 (u.drop j) - 1000000000 ^ j * (q * Vv) + 1000000000 ^ j * 1000000000 ^ n * e := by grind
   omega
  exact Int.eq_of_mul_eq_mul_left zc this
 have s2 := ab6 1000000000 (w.drop j) n
 rw [yb, hdr] at s2
 have s3 := aaU 1000000000 u (j + n)
 rw [hz, wy, vI] at s3
 rw [s3] at s2
 have l2 := aaT zc (ab5 (acI hw j) n)
 have : 1000000000 ^ n * u.getD (j + n) 0 < 1000000000 ^ n * e := zc
 exact yR this zc
theorem awE (l : List Int) {k j : Nat} (h : j ≤ k) (x : Int) : (l.set (k) x).take j = l.take j := by
 rw [List.take_set_of_le h]
theorem aLF (m o : List Int) (y : Int × Unit) (y4 : List Int × Unit) (v ql u w0 : List Int) (j n : Nat) (q : Int) (i2 : Int × Int × Int × List Int × Unit) (hv : Dg 1000000000 v) (hn : v.length = n) (hN : w0.length ≤ 1000000000000) (hjn : j + n < w0.length) (hw : Dg 1000000000 w0) (hq : 1 ≤ q ∧ q < 1000000000) (hK : inb (j : Int) (↑(Int.toNat (w64 (w64 (len m - len v) + 1))) : Int)) :
  ∃ w' e, acX (fun i3 => (ah1 m o y (v, ()) y4 ((j : Int), ql, u, ()) (q, ()) i2 i3).toO) (0, 0, w0, ()) = some (.inr (.inl ((j : Int) - 1, ql.set j (q - 1), w'.set (j + n) 0, ()))) ∧ w'.length = w0.length ∧ Dg 1000000000 w' ∧ w'.take j = w0.take j ∧ w'.drop (j + n) = w0.drop (j + n) ∧ V 1000000000 w' = V 1000000000 w0 + 1000000000 ^ j * V 1000000000 v - 1000000000 ^ (j + n) * e := by
 have wa : w64 (w64 ((j : Int) + len v) + 1) = ((j + n + 1 : Nat) : Int) := by rw [aaC, hn, aaA (x := (j : Int) + n) zc, aaA zc]; omega
 have wb : ((((j + n + 1 : Nat) : Int).toNat - (j : Int).toNat : Nat) : Int) = ((n + 1 : Nat) : Int) := zc
 refine Exists.elim (adL (R := fun i3 => (ah1 m o y (v, ()) y4 ((j : Int), ql, u, ()) (q, ()) i2 i3).toO) (fun i : Int × Int × List Int × Unit => ∃ k : Nat, k ≤ n ∧ i.1 = (k : Int) ∧ 0 ≤ i.2.1 ∧ i.2.1 ≤ 1 ∧ i.2.2.1.length = w0.length ∧ Dg 1000000000 i.2.2.1 ∧ i.2.2.1.take j = w0.take j ∧ i.2.2.1.drop (j + k) = w0.drop (j + k) ∧ V 1000000000 i.2.2.1 = V 1000000000 w0 + 1000000000 ^ j * V 1000000000 (v.take k) - 1000000000 ^ (j + k) * i.2.1) (fun i => ((n : Int) - i.1).toNat)
  (fun r => ∃ w' e, r = Sum.inr (Sum.inl ((j : Int) - 1, ql.set j (q - 1), w'.set (j + n) 0, ())) ∧ w'.length = w0.length ∧ Dg 1000000000 w' ∧ w'.take j = w0.take j ∧ w'.drop (j + n) = w0.drop (j + n) ∧ V 1000000000 w' = V 1000000000 w0 + 1000000000 ^ j * V 1000000000 v - 1000000000 ^ (j + n) * e) ?step (0, 0, w0, ()) ⟨0, by omega, rfl, by simp, by simp, rfl, hw, rfl, rfl, by simp [V]⟩) ?fin
 case fin =>
  rintro a ⟨h1, w', e, rfl, h3⟩
  exact ⟨w', e, h1, h3⟩
 rintro ⟨i, c, w, u5⟩ ⟨k, g1, g2, g3, g4, g5, g6, g7, g8, g9⟩
 dsimp only at g2 g3 g4 g5 g6 g7 g8 g9
 subst g2
 have dv := aa3 zc hv k
 have dw := aa3 zc g6 (j + k)
 have ev := aa5 1000000000 v k
 simp only [ah1, aaM, wa, wb, zp, zu]
 rcases zr k n with hk | hk
 ·left
  have w1 : adV (adV (w.getD (j + k) 0 + v.getD k 0) + c) = w.getD (j + k) 0 + v.getD k 0 + c := by rw [aa0 (x := w.getD (j + k) 0 + v.getD k 0) zc, aa0 zc]
  have w5 : w64 ((k : Int) + 1) = ((k + 1 : Nat) : Int) := by rw [aaA (x := (k : Int) + 1) zc]; omega
  simp only [w1, w5]
  have fin : ∀ x c' : Int, 0 ≤ x ∧ x < 1000000000 → 0 ≤ c' ∧ c' ≤ 1 → x + 1000000000 * c' = w.getD (j + k) 0 + v.getD k 0 + c → ∃ k_1 : Nat, k_1 ≤ n ∧ ((k + 1 : Nat) : Int) = (k_1 : Int) ∧ 0 ≤ c' ∧ c' ≤ 1 ∧ (w.set (j + k) x).length = w0.length ∧ Dg 1000000000 (w.set (j + k) x) ∧ (w.set (j + k) x).take j = w0.take j ∧ (w.set (j + k) x).drop (j + k_1) = w0.drop (j + k_1) ∧ V 1000000000 (w.set (j + k) x) = V 1000000000 w0 + 1000000000 ^ j * V 1000000000 (v.take k_1) - 1000000000 ^ (j + k_1) * c' := by
   intro x c' hx hc he
   refine ⟨k + 1, by omega, rfl, hc.1, hc.2, by simp; omega, aiH g6 hx _, by rw [awE _ zc, g7], ?_, ?_⟩
   ·rw [ahI _ zc, show j + (k + 1) = j + k + 1 by omega, ← yb (i := 1), g8, yb]
   ·rw [axD _ zc, g9, ev, show j + (k + 1) = j + k + 1 by omega, zY, wi]
    have : (1000000000 : Int) ^ j * 1000000000 ^ k * (x + 1000000000 * c') = 1000000000 ^ j * 1000000000 ^ k * (w.getD (j + k) 0 + v.getD k 0 + c) := by rw [he]
    grind
  by_cases cc : w.getD (j + k) 0 + v.getD k 0 + c ≥ 1000000000
  ·refine ⟨(((k + 1 : Nat) : Int), 1, w.set (j + k) (w.getD (j + k) 0 + v.getD k 0 + c - 1000000000), ()), ?_, fin _ 1 zc zc zc, by dsimp only; omega⟩
   refine uT sd (uN sd (uN ⟨by omega, by omega⟩ (uT (zo cc) (uN ⟨by omega, by omega⟩ ?_))))
   repeat refine za ?_
   rw [aa0 (x := w.getD (j + k) 0 + v.getD k 0 + c - 1000000000) zc]
   rfl
  ·refine ⟨(((k + 1 : Nat) : Int), 0, w.set (j + k) (w.getD (j + k) 0 + v.getD k 0 + c), ()), ?_, fin _ 0 zc zc zc, by dsimp only; omega⟩
   refine uT sd (uN sd (uN ⟨by omega, by omega⟩ (uF (zn cc) (uN ⟨by omega, by omega⟩ ?_))))
   repeat refine za ?_
   rfl
 ·right
  have hkn : k = n := zc
  subst hkn
  rw [abE _ zc] at g9
  refine ⟨_, ?_, w, c, rfl, g5, g6, g7, g8, g9⟩
  refine uF sd (uN ⟨by simp [len], by rw [aaC, hn]; omega⟩ (uN hK ?_))
  repeat refine za ?_
  have w6 : adV (abP (q - 1)) = q - 1 := by rw [aaO (x := q - 1) zc, aa0 zc]
  rw [aaK, w6, aaA (x := (j : Int) - 1) zc, aaC, hn, zp]
theorem arE {a b B : Int} (ha : 0 ≤ a ∧ a < B) (hb : 0 ≤ b ∧ b < B) : 0 ≤ a * b ∧ a * b ≤ (B - 1) * (B - 1) := by
 refine ⟨zZ ha.1 hb.1, ?_⟩
 have h1 : a * b ≤ a * (B - 1) := zy zc ha.1
 have h2 : a * (B - 1) ≤ (B - 1) * (B - 1) := zC zc zc
 omega
theorem aLG (m o : List Int) (y : Int × Unit) (y4 : List Int × Unit) (v ql u : List Int) (j n : Nat) (q Q : Int) (hv : Dg 1000000000 v) (hn : v.length = n) (hN : u.length ≤ 1000000000000) (hjn : j + n < u.length) (hu : Dg 1000000000 u) (hq : 0 ≤ q ∧ q < 1000000000) (hK : inb (j : Int) (↑(Int.toNat (w64 (w64 (len m - len v) + 1))) : Int))
  (hz : V 1000000000 (u.drop (j + n + 1)) = 0) (hQ : q = Q ∨ q = Q + 1) (hX0 : 0 ≤ V 1000000000 (u.drop j) - Q * V 1000000000 v) (hX1 : V 1000000000 (u.drop j) - Q * V 1000000000 v < V 1000000000 v) (hQ0 : 0 ≤ Q) :
  ∃ u', acX (fun i2 => (agI m o y (v, ()) y4 ((j : Int), ql, u, ()) (q, ()) i2).toO) (0, 0, 0, u, ()) = some (.inl ((j : Int) - 1, ql.set j Q, u', ())) ∧ u'.length = u.length ∧ Dg 1000000000 u' ∧ V 1000000000 u' = V 1000000000 u - 1000000000 ^ j * (Q * V 1000000000 v) ∧ V 1000000000 (u'.drop j) = V 1000000000 (u.drop j) - Q * V 1000000000 v := by
 have wa : w64 (w64 ((j : Int) + len v) + 1) = ((j + n + 1 : Nat) : Int) := by rw [aaC, hn, aaA (x := (j : Int) + n) zc, aaA zc]; omega
 have wb : ((((j + n + 1 : Nat) : Int).toNat - (j : Int).toNat : Nat) : Int) = ((n + 1 : Nat) : Int) := zc
 have hVn : V 1000000000 v < 1000000000 ^ n := by have := aJq zc hv; rwa [hn] at this
 refine Exists.elim (adL (R := fun i2 => (agI m o y (v, ()) y4 ((j : Int), ql, u, ()) (q, ()) i2).toO) (fun i : Int × Int × Int × List Int × Unit => ∃ k : Nat, k ≤ n ∧ i.1 = (k : Int) ∧ 0 ≤ i.2.1 ∧ i.2.1 ≤ 1 ∧ 0 ≤ i.2.2.1 ∧ i.2.2.1 < 1000000000 ∧ i.2.2.2.1.length = u.length ∧ Dg 1000000000 i.2.2.2.1 ∧ i.2.2.2.1.take j = u.take j ∧ i.2.2.2.1.drop (j + k) = u.drop (j + k) ∧ V 1000000000 i.2.2.2.1 = V 1000000000 u - 1000000000 ^ j * (q * V 1000000000 (v.take k)) + 1000000000 ^ (j + k) * (i.2.1 + i.2.2.1)) (fun i => ((n : Int) - i.1).toNat)
  (fun r => ∃ u', r = Sum.inl ((j : Int) - 1, ql.set j Q, u', ()) ∧ u'.length = u.length ∧ Dg 1000000000 u' ∧ V 1000000000 u' = V 1000000000 u - 1000000000 ^ j * (Q * V 1000000000 v) ∧ V 1000000000 (u'.drop j) = V 1000000000 (u.drop j) - Q * V 1000000000 v) ?step (0, 0, 0, u, ()) ⟨0, by omega, rfl, by simp, by simp, by simp, by simp, rfl, hu, rfl, rfl, by simp [V]⟩) ?fin
 case fin =>
  rintro a ⟨h1, u', rfl, h3⟩
  exact ⟨u', h1, h3⟩
 rintro ⟨i, b, c, w, u5⟩ ⟨k, g1, g2, g3, g4, g5, g6, g7, g8, g9, g10, g11⟩
 dsimp only at g2 g3 g4 g5 g6 g7 g8 g9 g10 g11
 subst g2
 have dv := aa3 zc hv k
 have dw := aa3 zc g8 (j + k)
 have ev := aa5 1000000000 v k
 have hm := arE hq dv
 have hs : 0 ≤ c + q * v.getD k 0 := zc
 simp only [agI, aaM, wa, wb, zp, zu]
 rcases zr k n with hk | hk
 ·left
  have wv : abP (v.getD k 0) = v.getD k 0 := aaO zc
  have wp : abP (c + abP (q * v.getD k 0)) = c + q * v.getD k 0 := by rw [aaO (x := q * v.getD k 0) zc, aaO zc]
  have em := yl (c + q * v.getD k 0) 1000000000
  have e2 : 0 ≤ (c + q * v.getD k 0) % 1000000000 ∧ (c + q * v.getD k 0) % 1000000000 < 1000000000 := zc
  have e3 : 0 ≤ (c + q * v.getD k 0) / 1000000000 ∧ (c + q * v.getD k 0) / 1000000000 < 1000000000 := zc
  have tm : Int.tmod (c + q * v.getD k 0) 1000000000 = (c + q * v.getD k 0) % 1000000000 := zE hs
  have td : Int.tdiv (c + q * v.getD k 0) 1000000000 = (c + q * v.getD k 0) / 1000000000 := zH hs
  have wr : w64 (w64 (w64 (w.getD (j + k) 0) - b) - w64 ((c + q * v.getD k 0) % 1000000000)) = w.getD (j + k) 0 - b - (c + q * v.getD k 0) % 1000000000 := by
   rw [aaA (x := w.getD (j + k) 0) zc, aaA (x := w.getD (j + k) 0 - b) zc, aaA (x := (c + q * v.getD k 0) % 1000000000) zc, aaA zc]
  have w5 : w64 ((k : Int) + 1) = ((k + 1 : Nat) : Int) := by rw [aaA (x := (k : Int) + 1) zc]; omega
  have wd : abP ((c + q * v.getD k 0) / 1000000000) = (c + q * v.getD k 0) / 1000000000 := aaO zc
  simp only [wv, wp, tm, td, wr, w5, wd]
  generalize (c + q * v.getD k 0) % 1000000000 = D at *
  generalize (c + q * v.getD k 0) / 1000000000 = C at *
  have fin : ∀ x b' : Int, 0 ≤ x ∧ x < 1000000000 → 0 ≤ b' ∧ b' ≤ 1 → x = w.getD (j + k) 0 - b - D + 1000000000 * b' → ∃ k_1 : Nat, k_1 ≤ n ∧ ((k + 1 : Nat) : Int) = (k_1 : Int) ∧ 0 ≤ b' ∧ b' ≤ 1 ∧ 0 ≤ C ∧ C < 1000000000 ∧ (w.set (j + k) x).length = u.length ∧ Dg 1000000000 (w.set (j + k) x) ∧ (w.set (j + k) x).take j = u.take j ∧ (w.set (j + k) x).drop (j + k_1) = u.drop (j + k_1) ∧ V 1000000000 (w.set (j + k) x) = V 1000000000 u - 1000000000 ^ j * (q * V 1000000000 (v.take k_1)) + 1000000000 ^ (j + k_1) * (b' + C) := by
   intro x b' hx hb he
   refine ⟨k + 1, by omega, rfl, hb.1, hb.2, e3.1, e3.2, by simp; omega, aiH g8 hx _, by rw [awE _ zc, g9], ?_, ?_⟩
   ·rw [ahI _ zc, show j + (k + 1) = j + k + 1 by omega, ← yb (i := 1), g10, yb]
   ·rw [axD _ zc, g11, ev, show j + (k + 1) = j + k + 1 by omega, zY, wi, he]
    have : (1000000000 : Int) ^ j * 1000000000 ^ k * (D + 1000000000 * C) = 1000000000 ^ j * 1000000000 ^ k * (c + q * v.getD k 0) := by rw [em]
    grind
  by_cases cc : w.getD (j + k) 0 - b - D < 0
  ·refine ⟨(((k + 1 : Nat) : Int), 1, C, w.set (j + k) (w.getD (j + k) 0 - b - D + 1000000000), ()), ?_, fin _ 1 zc zc zc, by dsimp only; omega⟩
   refine uT sd (uN sd (uN ⟨by omega, by omega⟩ (uV (uV (uT (zo cc) (uN ⟨by omega, by omega⟩ ?_))))))
   repeat refine za ?_
   rw [aaA (x := w.getD (j + k) 0 - b - D + 1000000000) zc, aa0 zc]
   rfl
  ·refine ⟨(((k + 1 : Nat) : Int), 0, C, w.set (j + k) (w.getD (j + k) 0 - b - D), ()), ?_, fin _ 0 zc zc zc, by dsimp only; omega⟩
   refine uT sd (uN sd (uN ⟨by omega, by omega⟩ (uV (uV (uF (zn cc) (uN ⟨by omega, by omega⟩ ?_))))))
   repeat refine za ?_
   rw [aa0 (x := w.getD (j + k) 0 - b - D) zc]
   rfl
 ·right
  have hkn : k = n := zc
  subst hkn
  rw [abE _ zc] at g11
  have hun := aa3 zc hu (j + k)
  have hget : w.getD (j + k) 0 = u.getD (j + k) 0 := by
   have h1 : (w.drop (j + k)).getD 0 0 = (u.drop (j + k)).getD 0 0 := by rw [g10]
   simpa [yg, yW] using h1
  have wl : len v = (k : Int) := by rw [aaC, hn]
  have wt : w64 (w64 (u.getD (j + k) 0) - b) = u.getD (j + k) 0 - b := by rw [aaA (x := u.getD (j + k) 0) zc, aaA zc]
  have wc : w64 c = c := aaA zc
  simp only [wl, zp, hget, wt, wc]
  by_cases cb : u.getD (j + k) 0 - b < c
  ·-- one too great
   have hq1 : q = Q + 1 := by
    rcases hQ with h | h
    ·subst h
     obtain ⟨-, -, he⟩ := aFB (Q := q) g7 hjn g8 g9 g10 hz rfl hX0 zc g11
     omega
    ·exact h
   obtain ⟨w', e, r1, r2, r3, r4, r5, r6⟩ := aLF m o y y4 v ql u w j k q ((k : Int), b, c, w, ()) hv hn zc zc g8 zc hK
   obtain ⟨f1, f2, -⟩ := aFB (u := u) (w := w') (Q := Q) (Vv := V 1000000000 v) (e := b + c - e) (by rw [r2, g7]) hjn r3 (by rw [r4, g9]) (by rw [r5, g10]) hz rfl hX0 zc (by
    rw [r6, g11, hq1]
    grind)
   refine ⟨_, ?_, w'.set (j + k) 0, rfl, by simp; omega, aiH r3 zc _, f1, f2⟩
   refine uF sd (uN ⟨by omega, by omega⟩ (uT (zo cb) ?_))
   refine uO (0, 0, w, ()) (by repeat refine za ?_; rfl) ?_
   rw [r1, hq1, Int.add_sub_cancel]
  ·have hq1 : q = Q := by
    rcases hQ with h | h
    ·exact h
    ·exfalso
     have := aPN (q := q) g8 g9 g10 hz rfl (by rw [h, wF]; omega) g11
     omega
   subst hq1
   obtain ⟨f1, f2, -⟩ := aFB (Q := q) g7 hjn g8 g9 g10 hz rfl hX0 zc g11
   refine ⟨_, ?_, w.set (j + k) 0, rfl, by simp; omega, aiH g8 zc _, f1, f2⟩
   refine uF sd (uN ⟨by omega, by omega⟩ (uF (zn cb) (uN ⟨by omega, by omega⟩ (uN (by rw [wl] at hK; exact hK) ?_))))
   repeat refine za ?_
   rw [aaK, aa0 (x := q) zc, aaA (x := (j : Int) - 1) zc]
end Go.Vs
