/-
  Trees of what the functions compute, and their laws. Own work; no condition.
-/
import Derived.Test.YtakjojajnblpoaaGreatDoorClL4
import Derived.Test.YtakjojajnblpoaaGreatDoorProg
set_option linter.unusedVariables false
set_option linter.unusedSimpArgs false
namespace Go.Vs
open Go Go.Vg
theorem aoD {k n : Nat} (h : Bd k n) (hk : k ≤ 8) : (dig n).length ≤ 1000000000000 := Nat.le_trans (aw6 h hk) (by omega)
theorem axU {z : Int} (h : Bd 8 z.natAbs) : ajD (pl z, ()) = some (pl (-z), ()) := aaI (enc := fun x : Int => (pl x, ())) z h (fun b hb => avD (Prod.mk.inj hb).1)
theorem aE2 (x : PlT) (y) (h : ajD (x, ()) = some y) : (aCN x).toO = some y := by
 obtain ⟨z, hp, hx, rfl⟩ := aaD h
 obtain ⟨rfl, -⟩ := Prod.mk.inj hx
 refine uC (pl (-z), ()) (af3 (aoD hp (by omega)) (by omega) ?_) rfl
 by_cases h0 : z = 0
 ·left; omega
 ·right
  show (!decide (z < 0)) = decide (-z < 0)
  by_cases h1 : z < 0
  ·rw [decide_eq_true h1, decide_eq_false (by omega)]; rfl
  ·rw [decide_eq_false h1, decide_eq_true (by omega)]; rfl
theorem aO8 {a b : Nat} (h1 : (dig a).length ≤ 1000000000000) (h2 : (dig b).length ≤ 1000000000000) : auG (dig a, dig b, ()) = some (dig (a + b), ()) := aaI (enc := fun p : Nat × Nat => (dig p.1, dig p.2, ())) (a, b) ⟨h1, h2⟩ (fun b hb => aAd hb)
theorem aAu {a b : Nat} (h1 : (dig a).length ≤ 1000000000000) (h : b ≤ a) : abA (dig a, dig b, ()) = some (dig (a - b), ()) := al2 (adA a) (adA b) h1 (ab2 h) (by rw [ahK, ahK]; omega) (by rw [ahK, ahK]; omega)
theorem aJP {a b : Nat} (h1 : (dig a).length ≤ 400000000000) (h2 : (dig b).length ≤ 400000000000) : abR (dig a, dig b, ()) = some (dig (a * b), ()) := al1 (adA a) (Or.inl (adA b)) h1 h2 (by rw [ahK, ahK]; simp)
theorem aqK {a b : Int} (h1 : Bd 7 a.natAbs) (h2 : Bd 7 b.natAbs) : agK (pl a, pl b, ()) = some (pl (a + b), ()) := aaI (enc := fun p : Int × Int => (pl p.1, pl p.2, ())) (a, b) ⟨h1, h2⟩ (fun b hb => ajW hb)
theorem aE5 (x x' : PlT) (y) (h : agK (x, x', ()) = some y) : (avB x x').toO = some y := by
 obtain ⟨⟨a, b⟩, hp, hx, rfl⟩ := aaD h
 obtain ⟨rfl, hx2⟩ := Prod.mk.inj hx; obtain ⟨rfl, -⟩ := Prod.mk.inj hx2; dsimp only
 obtain ⟨l1, l2⟩ := hp
 simp only at l1 l2
 have d1 := aoD l1 (by omega)
 have d2 := aoD l2 (by omega)
 have d3 := aoD (aaZ l1 l2) (by omega)
 unfold avB
 dsimp only
 by_cases hs : (decide (a < 0) == decide (b < 0)) = true
 ·refine uT hs ?_
  have hs' : (a < 0 ↔ b < 0) := by simpa using hs
  refine uC _ (aO8 d1 d2) ?_
  refine uC (pl (a + b), ()) (af3 d3 (by omega) (Or.inr (decide_eq_decide.2 (by omega)))) rfl
 ·have hs' : ¬ (a < 0 ↔ b < 0) := by simpa using hs
  refine uF (by simpa using hs) ?_
  refine uC _ (asF _ _ (adA _) (adA _) d1 d2) ?_
  obtain ⟨o1, o2⟩ := aGX a.natAbs b.natAbs
  by_cases hc : a.natAbs < b.natAbs
  ·refine uF (decide_eq_false (by have := o1.2 hc; dsimp only; omega)) ?_
   refine uC _ (aAu d2 (by omega)) ?_
   have d4 : (dig (b.natAbs - a.natAbs)).length ≤ 1000000000000 := Nat.le_trans (ab2 (Nat.sub_le _ _)) d2
   refine uC (pl (a + b), ()) (af3 d4 (by omega) (Or.inr (decide_eq_decide.2 (by omega)))) rfl
  ·refine uT (decide_eq_true (by
    rcases Int.lt_or_le (aPm (dig a.natAbs) (dig b.natAbs)) 0 with h | h
    ·exact absurd (o1.1 h) hc
    ·exact h)) ?_
   refine uC _ (aAu d1 (by omega)) ?_
   have d4 : (dig (a.natAbs - b.natAbs)).length ≤ 1000000000000 := Nat.le_trans (ab2 (Nat.sub_le _ _)) d1
   refine uC (pl (a + b), ()) (af3 d4 (by omega) ?_) rfl
   by_cases h0 : a + b = 0
   ·exact Or.inl h0
   ·exact Or.inr (decide_eq_decide.2 (by omega))
theorem aAw {a b : Int} (h1 : Bd 7 a.natAbs) (h2 : Bd 7 b.natAbs) : ajE (pl a, pl b, ()) = some (pl (a - b), ()) := aaI (enc := fun p : Int × Int => (pl p.1, pl p.2, ())) (a, b) ⟨h1, h2⟩ (fun b hb => ajW hb)
theorem aCS (x x' : PlT) (y) (h : ajE (x, x', ()) = some y) : (azE x x').toO = some y := by
 obtain ⟨⟨a, b⟩, hp, hx, rfl⟩ := aaD h
 obtain ⟨rfl, hx2⟩ := Prod.mk.inj hx; obtain ⟨rfl, -⟩ := Prod.mk.inj hx2; dsimp only
 obtain ⟨l1, l2⟩ := hp
 refine uC _ (axU (aaH l2 (by omega))) (uC _ (aqK l1 (aaV l2)) ?_)
 rw [Int.sub_eq_add_neg]; rfl
theorem aOr {a b : Int} : a * b = 0 ∨ (!(decide (a < 0) == decide (b < 0))) = decide (a * b < 0) := by
 by_cases hz : a * b = 0
 ·exact Or.inl hz
 ·right
  have z1 : a ≠ 0 := fun h => hz (by rw [h]; simp)
  have z2 : b ≠ 0 := fun h => hz (by rw [h]; simp)
  rcases Int.lt_or_le a 0 with c1 | c1 <;> rcases Int.lt_or_le b 0 with c2 | c2
  ·have := Int.mul_pos_of_neg_of_neg c1 c2
   rw [decide_eq_true c1, decide_eq_true c2, decide_eq_false (by omega)]; rfl
  ·have := Int.mul_neg_of_neg_of_pos c1 (show 0 < b by omega)
   rw [decide_eq_true c1, decide_eq_false (by omega), decide_eq_true (by omega)]; rfl
  ·have := Int.mul_neg_of_pos_of_neg (show 0 < a by omega) c2
   rw [decide_eq_false (by omega), decide_eq_true c2, decide_eq_true (by omega)]; rfl
  ·have := Int.mul_pos (show 0 < a by omega) (show 0 < b by omega)
   rw [decide_eq_false (by omega), decide_eq_false (by omega), decide_eq_false (by omega)]; rfl
theorem ajO {a b : Int} (h1 : Bd 7 a.natAbs) (h2 : Bd 7 b.natAbs) : aeS (pl a, pl b, ()) = some (pl (a * b), ()) := aaI (enc := fun p : Int × Int => (pl p.1, pl p.2, ())) (a, b) ⟨h1, h2⟩ (fun b hb => ajW hb)
theorem aCO (x x' : PlT) (y) (h : aeS (x, x', ()) = some y) : (azB x x').toO = some y := by
 obtain ⟨⟨a, b⟩, hp, hx, rfl⟩ := aaD h
 obtain ⟨rfl, hx2⟩ := Prod.mk.inj hx; obtain ⟨rfl, -⟩ := Prod.mk.inj hx2; dsimp only
 obtain ⟨l1, l2⟩ := hp
 simp only at l1 l2
 have d1 := aw6 l1 (by omega)
 have d2 := aw6 l2 (by omega)
 refine uC _ (aJP (Nat.le_trans d1 (by omega)) (Nat.le_trans d2 (by omega))) ?_
 refine uC (pl (a * b), ()) (af3 (aoD (aaW l1 l2) (by omega)) (by rw [Int.natAbs_mul]) aOr) rfl
theorem aJQ {a b : Int} (h1 : Bd 7 a.natAbs) (h2 : Bd 7 b.natAbs) : amW (pl a, pl b, ()) = some ((a - b).sign, ()) := aaI (enc := fun p : Int × Int => (pl p.1, pl p.2, ())) (a, b) ⟨h1, h2⟩ (fun b hb => ajW hb)
theorem aCR (x x' : PlT) (y) (h : amW (x, x', ()) = some y) : (azD x x').toO = some y := by
 obtain ⟨⟨a, b⟩, hp, hx, rfl⟩ := aaD h
 obtain ⟨rfl, hx2⟩ := Prod.mk.inj hx; obtain ⟨rfl, -⟩ := Prod.mk.inj hx2; dsimp only
 obtain ⟨l1, l2⟩ := hp
 refine uC _ (aAw l1 l2) ?_
 dsimp only
 rcases Int.lt_trichotomy (a - b) 0 with c | c | c
 ·rw [Int.sign_eq_neg_one_of_neg c]
  exact uT (decide_eq_true c) rfl
 ·rw [c]
  exact uF rfl (uF (decide_eq_false (by show ¬ (len (dig (Int.natAbs 0)) > 0); rw [Int.natAbs_zero, dig_zero]; decide)) rfl)
 ·rw [Int.sign_eq_one_of_pos c]
  refine uF sd (uT (decide_eq_true ?_) rfl)
  rw [aaC]
  rcases Nat.eq_zero_or_pos (dig (a - b).natAbs).length with h | h
  ·have := dig_nil_iff.1 (List.length_eq_zero_iff.1 h); omega
  ·omega
theorem aAt {a b : Nat} (h1 : (dig a).length ≤ 200000000000) (h2 : (dig b).length ≤ 200000000000) (h3 : b ≠ 0) : ajC (dig a, dig b, ()) = some (dig (a / b), dig (a % b), ()) := aaI (enc := fun p : Nat × Nat => (dig p.1, dig p.2, ())) (a, b) ⟨h1, h2, h3⟩ (fun b hb => aAd hb)
theorem al3 {a b : Int} (h1 : Bd 8 a.natAbs) (h2 : Bd 8 b.natAbs) : aeT (pl a, pl b, ()) = some (pl (Nat.gcd a.natAbs b.natAbs), ()) := aaI (enc := fun p : Int × Int => (pl p.1, pl p.2, ())) (a, b) ⟨h1, h2⟩ (fun b hb => ajW hb)
theorem ayF (x x' : PlT) (y) (h : aeT (x, x', ()) = some y) : (asO x x').toO = some y := by
 obtain ⟨⟨a, b⟩, hp, hx, rfl⟩ := aaD h
 obtain ⟨rfl, hx2⟩ := Prod.mk.inj hx; obtain ⟨rfl, -⟩ := Prod.mk.inj hx2; dsimp only
 obtain ⟨l1, l2⟩ := hp
 dsimp only at l1 l2
 have d1 := aw6 l1 (by omega)
 have d2 := aw6 l2 (by omega)
 refine uO (dig b.natAbs, dig a.natAbs, ()) rfl ?_
 have hres : (pl ((Nat.gcd a.natAbs b.natAbs : Nat) : Int), ()) = ((false, dig (Nat.gcd a.natAbs b.natAbs), ()), ()) := by
  unfold pl
  rw [decide_eq_false (by omega), Int.natAbs_natCast]
 rw [hres]
 refine aaN (fun i : List Int × List Int × Unit => ∃ p q : Nat, i = (dig q, dig p, ()) ∧ (dig p).length ≤ 200000000000 ∧ (dig q).length ≤ 200000000000 ∧ Nat.gcd p q = Nat.gcd a.natAbs b.natAbs) (fun i => (V 10000 i.1).toNat) (fun _ => ((false, dig (Nat.gcd a.natAbs b.natAbs), ()), ())) ?_ _ ⟨a.natAbs, b.natAbs, rfl, d1, d2, rfl⟩
 rintro i ⟨p, q, rfl, lp, lq, hg⟩
 unfold aoS
 dsimp only
 by_cases hq : q = 0
 ·right
  subst hq
  refine uF (by rw [dig_zero]; rfl) ?_
  rw [← hg, Nat.gcd_zero_right]; rfl
 ·left
  have hql : 1 ≤ (dig q).length := by
   rcases Nat.eq_zero_or_pos (dig q).length with h5 | h5
   ·exact absurd (dig_nil_iff.1 (List.length_eq_zero_iff.1 h5)) hq
   ·exact h5
  refine ⟨(dig (p % q), dig q, ()), ?_, ⟨q, p % q, rfl, lq, ?_, ?_⟩, ?_, (by first | exact True.intro | rfl)⟩
  ·refine uT sd (uC _ (aAt lp lq hq) ?_)
   repeat (first | refine uV ?_ | refine uB ?_ | refine uN sd ?_ | refine uT sd ?_ | refine uF sd ?_ | refine uN (by simp) ?_)
   rfl
  ·exact Nat.le_trans (ab2 (Nat.le_of_lt (Nat.mod_lt p (show 0 < q by omega)))) lq
  ·rw [← hg, Nat.gcd_comm p q, Nat.gcd_rec q p, Nat.gcd_comm]
  ·simp only [ahK, Int.toNat_natCast]
   exact Nat.mod_lt p (by omega)
theorem am2 {a b : Int} (h1 : Bd 6 a.natAbs) (h2 : Bd 6 b.natAbs) (h3 : b ≠ 0) : afU (pl a, pl b, ()) = some (pl (a / b), pl (a % b), ()) := aaI (enc := fun p : Int × Int => (pl p.1, pl p.2, ())) (a, b) ⟨h1, h2, h3⟩ (fun b hb => ajW hb)
theorem aRw {a b : Int} (hb : b ≠ 0) : ∃ q r : Int, q.natAbs = a.natAbs / b.natAbs ∧ r.natAbs = a.natAbs % b.natAbs ∧ (q = 0 ∨ (!(decide (a < 0) == decide (b < 0))) = decide (q < 0)) ∧ (r = 0 ∨ decide (a < 0) = decide (r < 0)) ∧ (r < 0 → a / b = (if b < 0 then q + 1 else q - 1) ∧ a % b = r + b.natAbs) ∧ (¬ r < 0 → a / b = q ∧ a % b = r) := by
 refine ⟨Int.tdiv a b, Int.tmod a b, Int.natAbs_tdiv a b, Int.natAbs_tmod a b, ?_, ?_, ?_, ?_⟩
 ·by_cases hz : Int.tdiv a b = 0
  ·exact Or.inl hz
  ·right
   rcases Int.lt_or_le a 0 with c1 | c1 <;> rcases Int.lt_or_le b 0 with c2 | c2
   ·have : 0 ≤ Int.tdiv a b := by
     rw [← Int.neg_tdiv_neg]; exact Int.tdiv_nonneg (by omega) (by omega)
    rw [decide_eq_true c1, decide_eq_true c2, decide_eq_false (by omega)]; rfl
   ·have : Int.tdiv a b ≤ 0 := by
     have := Int.tdiv_nonneg (a := -a) (b := b) (by omega) c2
     rw [Int.neg_tdiv] at this; omega
    rw [decide_eq_true c1, decide_eq_false (by omega), decide_eq_true (by omega)]; rfl
   ·have : Int.tdiv a b ≤ 0 := by
     have := Int.tdiv_nonneg (a := a) (b := -b) c1 (by omega)
     rw [Int.tdiv_neg] at this; omega
    rw [decide_eq_false (by omega), decide_eq_true c2, decide_eq_true (by omega)]; rfl
   ·have := Int.tdiv_nonneg c1 c2
    rw [decide_eq_false (by omega), decide_eq_false (by omega), decide_eq_false (by omega)]; rfl
 ·by_cases hz : Int.tmod a b = 0
  ·exact Or.inl hz
  ·right
   refine decide_eq_decide.2 ?_
   rcases Int.lt_or_le a 0 with c1 | c1
   ·have : Int.tmod a b ≤ 0 := by
     have := Int.tmod_nonneg (a := -a) b (by omega)
     rw [Int.neg_tmod] at this; omega
    omega
   ·have := Int.tmod_nonneg (a := a) b c1
    omega
 ·intro hr
  have ha : a < 0 := by
   rcases Int.lt_or_le a 0 with c | c
   ·exact c
   ·have := Int.tmod_nonneg (a := a) b c; omega
  have h1 := Int.tmod_add_mul_tdiv a b
  have h2 : (Int.tmod a b).natAbs < b.natAbs := by rw [Int.natAbs_tmod]; exact Nat.mod_lt _ (by omega)
  generalize Int.tdiv a b = q at *
  generalize Int.tmod a b = r at *
  have key : ∀ q' r' : Int, r' + b * q' = a → 0 ≤ r' → r' < b.natAbs → a / b = q' ∧ a % b = r' := by
   intro q' r' e e1 e2
   have hr' : r' / b = 0 := by
    rcases Int.lt_or_le b 0 with c | c
    ·have : r' / (-(-b)) = -(r' / -b) := Int.ediv_neg _ _
     rw [Int.neg_neg] at this
     rw [this, Int.ediv_eq_zero_of_lt e1 (by omega)]; rfl
    ·exact Int.ediv_eq_zero_of_lt e1 (by omega)
   have d1 : a / b = q' := by rw [← e, Int.add_mul_ediv_left _ _ hb, hr', Int.zero_add]
   refine ⟨d1, ?_⟩
   have := Int.emod_add_mul_ediv a b
   rw [d1] at this
   omega
  rcases Int.lt_or_le b 0 with c | c
  ·rw [if_pos c]
   exact key _ _ (by rw [Int.mul_add]; omega) (by omega) (by omega)
  ·rw [if_neg (by omega)]
   exact key _ _ (by rw [Int.mul_sub]; omega) (by omega) (by omega)
 ·intro hr
  have h1 := Int.tmod_add_mul_tdiv a b
  have h2 : (Int.tmod a b).natAbs < b.natAbs := by rw [Int.natAbs_tmod]; exact Nat.mod_lt _ (by omega)
  generalize Int.tdiv a b = q at *
  generalize Int.tmod a b = r at *
  have hr' : r / b = 0 := by
   rcases Int.lt_or_le b 0 with c | c
   ·have : r / (-(-b)) = -(r / -b) := Int.ediv_neg _ _
    rw [Int.neg_neg] at this
    rw [this, Int.ediv_eq_zero_of_lt (by omega) (by omega)]; rfl
   ·exact Int.ediv_eq_zero_of_lt (by omega) (by omega)
  have d1 : a / b = q := by rw [← h1, Int.add_mul_ediv_left _ _ hb, hr', Int.zero_add]
  refine ⟨d1, ?_⟩
  have := Int.emod_add_mul_ediv a b
  rw [d1] at this
  omega
theorem aCQ (x x' : PlT) (y) (h : afU (x, x', ()) = some y) : (aq5 x x').toO = some y := by
 obtain ⟨⟨a, b⟩, hp, hx, rfl⟩ := aaD h
 obtain ⟨rfl, hx2⟩ := Prod.mk.inj hx; obtain ⟨rfl, -⟩ := Prod.mk.inj hx2; dsimp only
 obtain ⟨l1, l2, l3⟩ := hp
 dsimp only at l1 l2 l3
 have d1 := aw6 l1 (by omega)
 have d2 := aw6 l2 (by omega)
 obtain ⟨q, r, hq, hr, sq, sr, hneg, hpos⟩ := aRw (a := a) l3
 have bq : Bd 6 q.natAbs := by rw [hq]; exact aaS _ l1
 have br : Bd 6 r.natAbs := by rw [hr]; exact aa1 _ l1
 have i1 : aa9 1 := ⟨by omega, by omega⟩
 have b1 : Bd 7 (1 : Int).natAbs := aaH (aaG (by decide)) (by omega)
 unfold aq5
 dsimp only
 refine uC _ (aAt d1 d2 (by omega)) ?_
 refine uC (pl q, ()) (af3 (by rw [← hq]; exact aoD bq (by omega)) hq.symm sq) ?_
 refine uC (pl r, ()) (af3 (by rw [← hr]; exact aoD br (by omega)) hr.symm sr) ?_
 dsimp only
 by_cases c : r < 0
 ·obtain ⟨e1, e2⟩ := hneg c
  refine uT (decide_eq_true c) ?_
  have hpb : agK (pl r, (false, dig b.natAbs, ()), ()) = some (pl (r + b.natAbs), ()) := by
   have := aqK (a := r) (b := (b.natAbs : Int)) (aaH br (by omega)) (aaH l2 (by omega))
   unfold pl at this ⊢
   rwa [decide_eq_false (show ¬ ((b.natAbs : Int) < 0) by omega), Int.natAbs_natCast] at this
  refine uC _ hpb ?_
  rw [e1, e2]
  by_cases c2 : b < 0
  ·rw [if_pos c2]
   exact uT (decide_eq_true c2) (uC _ (aiD i1) (uC _ (aqK (aaH bq (by omega)) b1) rfl))
  ·rw [if_neg c2]
   exact uF (decide_eq_false c2) (uC _ (aiD i1) (uC _ (aAw (aaH bq (by omega)) b1) rfl))
 ·obtain ⟨e1, e2⟩ := hpos c
  rw [e1, e2]
  exact uF (decide_eq_false c) rfl
theorem aAv {s : List UInt8} (h : s.length ≤ 1000000000000) : afT (s, ()) = some ((rdW s).isSome, ()) := by unfold afT; rw [if_pos h]
theorem aCP (a : List UInt8) (y) (h : afT (a, ()) = some y) : (aq4 a).toO = some y := by
 unfold afT at h
 split at h
 case isFalse => cases h
 case isTrue hl =>
 injection h with h
 subst h
 dsimp only at hl ⊢
 obtain ⟨j, t, b, hj, hat, hc⟩ : ∃ (j : Nat) (t : List UInt8) (b : Bool), j ≤ a.length ∧ (a.drop j = t ∧ (b = true ↔ j = 1) ∧ j ≤ 1 ∧ (∃ d : TT ((Int × Unit) ⊕ (Bool × Unit)), True) ∧ ((TT.ite (decide (len a > 0)) (TT.need (asT Int 0 ≤ 0 ∧ 0 < len a) (TT.ite ((((gi a 0 0).toNat : Int)) == 45) (TT.ok (.inl (1, ()))) (TT.ok (.inl (0, ()))))) (TT.ok (.inl (0, ()))) : TT ((Int × Unit) ⊕ (Bool × Unit))).toO = some (.inl ((j : Int), ())))) ∧ abW (a, #[45].toList, ()) = some (t, b, ()) := by
  cases a with
  | nil => exact ⟨0, [], false, by simp, ⟨rfl, by simp, by omega, ⟨TT.bad, trivial⟩, uF rfl rfl⟩, rfl⟩
  | cons c a =>
   by_cases hcc : c = 45
   ·subst hcc
    refine ⟨1, a, true, by simp, ⟨rfl, by simp, by omega, ⟨TT.bad, trivial⟩, uT (by (try simp only [decide_eq_true_eq, decide_eq_false_iff_not, beq_iff_eq, bne_iff_ne, beq_eq_false_iff_ne, bne_eq_false_iff_eq, Bool.not_eq_true', Bool.not_eq_false']) <;> (try simp only [aaC, inb, inc, ge_iff_le, gt_iff_lt, Int.toNat_natCast, asT, ne_eq]) <;> simp) (uN ⟨by simp [asT], by (try simp only [aaC, inb, inc, ge_iff_le, gt_iff_lt, Int.toNat_natCast, asT, ne_eq]); simp⟩ (uT rfl rfl))⟩, ?_⟩
    simp [abW, List.isPrefixOf]
   ·refine ⟨0, c :: a, false, by simp, ⟨rfl, by simp, by omega, ⟨TT.bad, trivial⟩, uT (by (try simp only [decide_eq_true_eq, decide_eq_false_iff_not, beq_iff_eq, bne_iff_ne, beq_eq_false_iff_ne, bne_eq_false_iff_eq, Bool.not_eq_true', Bool.not_eq_false']) <;> (try simp only [aaC, inb, inc, ge_iff_le, gt_iff_lt, Int.toNat_natCast, asT, ne_eq]) <;> simp) (uN ⟨by simp [asT], by (try simp only [aaC, inb, inc, ge_iff_le, gt_iff_lt, Int.toNat_natCast, asT, ne_eq]); simp⟩ (uF ?_ rfl))⟩, ?_⟩
    ·rw [beq_eq_false_iff_ne]
     intro h
     exact hcc (UInt8.toNat_inj.1 (Int.ofNat.inj h))
    ·have : ¬ (45 = c) := fun h => hcc h.symm
     simp [abW, List.isPrefixOf, this]
 obtain ⟨ht, hb, hj1, -, hjoin⟩ := hat
 have htl : t.length = a.length - j := by rw [← ht]; simp
 have hget : ∀ k, a.getD (j + k) 0 = t.getD k 0 := by
  intro k; rw [← ht]; simp [List.getD_eq_getElem?_getD, List.getElem?_drop]
 have hnot : ¬ (isD t ∧ t ≠ [] ∧ t.length ≤ 600 ∧ (t.head? = some 48 → b = false ∧ t.length = 1)) → (rdW a).isSome = false := fun h => by rw [aKD hc h]; rfl
 have hyes : isD t → t ≠ [] → t.length ≤ 600 → (t.head? = some 48 → b = false ∧ t.length = 1) → (rdW a).isSome = true := fun h1 h2 h3 h4 => by
  obtain ⟨z, e1, -, -⟩ := aKC hc h1 h2 h3 h4
  rw [e1]; rfl
 unfold aq4
 refine uL ((j : Int), ()) hjoin ?_
 unfold avA
 have hw : w64 (len a - (j : Int)) = (t.length : Int) := by rw [aaC, aaA (by omega)]; omega
 simp only [hw]
 by_cases c1 : t = []
 ·rw [hnot (fun h => h.2.1 c1)]
  exact uR _ (uT (by rw [c1]; rfl) rfl)
 have hlen : 1 ≤ t.length := List.length_pos_iff.2 c1
 by_cases c2 : t.length ≤ 600
 case neg =>
  rw [hnot (fun h => c2 h.2.2.1)]
  exact uR _ (uF sd (uT sd rfl))
 refine uL (false, ()) (uF sd (uF sd rfl)) ?_
 refine uO ((j : Int), ()) rfl ?_
 refine aaN (fun i : Int × Unit => ∃ k : Nat, i.1 = ((j + k : Nat) : Int) ∧ k ≤ t.length ∧ isD (t.take k)) (fun i => ((a.length : Int) - i.1).toNat) (fun _ => ((rdW a).isSome, ())) ?_ _ ⟨0, rfl, by omega, by simp [isD]⟩
 rintro ⟨i, u⟩ ⟨k, h3, h4, h5⟩
 simp only at h3
 subst h3
 simp only [au9, aaM, hget]
 rcases Nat.lt_or_ge k t.length with hk | hk
 ·have e1 : t.getD k 0 = t[k] := by simp [hk]
  simp only [e1]
  by_cases d1 : t[k].toNat < 48
  ·right
   rw [hnot (fun h => by have := h.1 t[k] (List.getElem_mem hk); omega)]
   repeat (first | refine uV ?_ | refine uB ?_ | refine uN sd ?_ | refine uT sd ?_ | refine uF sd ?_ | refine uN (by simp) ?_)
   rfl
  by_cases d2 : t[k].toNat > 57
  ·right
   rw [hnot (fun h => by have := h.1 t[k] (List.getElem_mem hk); omega)]
   repeat (first | refine uV ?_ | refine uB ?_ | refine uN sd ?_ | refine uT sd ?_ | refine uF sd ?_ | refine uN (by simp) ?_)
   rfl
  ·left
   refine ⟨(((j + (k + 1) : Nat) : Int), ()), ?_, ⟨k + 1, rfl, by omega, ?_⟩, by simp only; omega, (by first | exact True.intro | rfl)⟩
   ·repeat (first | refine uV ?_ | refine uB ?_ | refine uN sd ?_ | refine uT sd ?_ | refine uF sd ?_ | refine uN (by simp) ?_)
    rw [aaK, aaA (x := ((j + k : Nat) : Int) + 1) (by omega)]; rfl
   ·rw [List.take_succ_eq_append_getElem hk, isD_append]
    refine ⟨h5, fun c hc => ?_⟩
    have := List.mem_singleton.1 hc
    subst this
    omega
 ·right
  have hd : isD t := by rwa [List.take_of_length_le hk] at h5
  have hg0 : a.getD j 0 = t.getD 0 0 := hget 0
  simp only [hg0]
  refine uF sd (uN ⟨by omega, by exact sn⟩ ?_)
  cases hct : t with
  | nil => exact absurd hct c1
  | cons c r =>
   rw [← hct]
   have hg : t.getD 0 0 = c := by rw [hct]; rfl
   simp only [hg]
   have hh : t.head? = some c := by rw [hct]; rfl
   by_cases c0 : c = 48
   ·subst c0
    refine uF rfl ?_
    show some (Sum.inr (len a == 1, ())) = _
    by_cases hl1 : a.length = 1
    ·rw [hyes hd c1 c2 (fun _ => ⟨by
      cases b with
      | false => rfl
      | true => have := hb.1 rfl; omega, by omega⟩)]
     rw [show (len a == 1) = true by rw [beq_iff_eq, aaC]; omega]
    ·rw [hnot (fun h => by
      obtain ⟨q1, q2⟩ := h.2.2.2 hh
      have : ¬ j = 1 := fun h => by rw [hb.2 h] at q1; cases q1
      omega)]
     rw [show (len a == 1) = false by rw [beq_eq_false_iff_ne, aaC]; omega]
   ·rw [hyes hd c1 c2 (fun h => by rw [hh] at h; injection h with h; exact absurd h c0)]
    refine uT ?_ rfl
    rw [bne_iff_ne]
    intro h
    exact c0 (UInt8.toNat_inj.1 (Int.ofNat.inj h))
theorem aCy {a t : List UInt8} {j : Nat} (hd : isD t) (hget : ∀ k, a.getD (j + k) 0 = t.getD k 0) {s i e : Nat} (h1 : s ≤ i) (h2 : i < e) (h3 : e ≤ t.length) (h4 : e - s ≤ 4) : w64 (w64 ((num ((t.take i).drop s) : Int) * 10) + w64 (wu8 (((a.getD (j + i) 0).toNat : Int) - 48))) = (num ((t.take (i + 1)).drop s) : Int) := by
 have hi : i < t.length := by omega
 have e1 : t.getD i 0 = t[i] := by simp [hi]
 have e2 := hd t[i] (List.getElem_mem hi)
 have e3 := aDh (ao9 (auB hd i) s)
 rw [auW h1 (by omega)] at e3
 have e4 : (10 : Nat) ^ (i - s) ≤ 10 ^ 3 := Nat.pow_le_pow_right (by omega) (by omega)
 have e5 : dv t[i] = t[i].toNat - 48 := rfl
 rw [aGK h1 hi, amD, hget, e1, e5]
 rw [abN (x := (t[i].toNat : Int) - 48) (by omega), aaA (x := (t[i].toNat : Int) - 48) (by omega), aaA (x := (num ((t.take i).drop s) : Int) * 10) (by omega), aaA (by omega)]
 omega
theorem aB9 {z : Int} (h : Fit z) : aoG (dec z, ()) = some (pl z, ()) := aaI (enc := fun x : Int => (dec x, ())) z h (fun b hb => aj7 (Prod.mk.inj hb).1)
theorem aKR (a : List UInt8) (y) (h : aoG (a, ()) = some y) : (aE6 a).toO = some y := by
 obtain ⟨z, hp, hx, rfl⟩ := aaD h
 obtain ⟨rfl, -⟩ := Prod.mk.inj hx
 clear h hx
 have hfit : (aa2 z.natAbs).length ≤ 600 := hp
 have hd := aj8 z.natAbs
 have hn := amE z.natAbs
 have hne := ahI z.natAbs
 obtain ⟨j, hj, hget, hlen, hjoin⟩ : ∃ j : Nat, (j = if z < 0 then 1 else 0) ∧ (∀ k, (dec z).getD (j + k) 0 = (aa2 z.natAbs).getD k 0) ∧ (dec z).length = j + (aa2 z.natAbs).length ∧ ((TT.need (asT Int 0 ≤ 0 ∧ 0 < len (dec z)) (TT.ite ((((gi (dec z) 0 0).toNat : Int)) == 45) (TT.ok (.inl (1, ()))) (TT.ok (.inl (0, ())))) : TT ((Int × Unit) ⊕ (PlT × Unit))).toO = some (.inl ((j : Int), ()))) := by
  by_cases c : z < 0
  ·rw [ahH c]
   refine ⟨1, by rw [if_pos c], fun k => by rw [Nat.add_comm]; simp, by simp; omega, uN ⟨by simp [asT], by (try simp only [aaC, inb, inc, ge_iff_le, gt_iff_lt, Int.toNat_natCast, asT, ne_eq]); simp⟩ (uT rfl rfl)⟩
  ·rw [acB (by omega)]
   refine ⟨0, by rw [if_neg c], fun k => by rw [Nat.zero_add], by omega, uN ⟨by simp [asT], by exact sn⟩ (uF ?_ rfl)⟩
   have := adB z.natAbs
   cases hdn : aa2 z.natAbs with
   | nil => exact absurd hdn (aeO _)
   | cons c l =>
    rw [hdn] at this
    show ((c.toNat : Int) == 45) = false
    rw [beq_eq_false_iff_ne]
    intro h
    have hc : c = 45 := UInt8.toNat_inj.1 (Int.ofNat.inj h)
    rw [hc] at this
    exact this rfl
 have hj1 : j ≤ 1 := by rw [hj]; split <;> omega
 have hjb : ((j : Int) == 1) = decide (z < 0) := by
  by_cases c : z < 0
  ·rw [decide_eq_true c, hj, if_pos c]; rfl
  ·rw [decide_eq_false c, hj, if_neg c]; rfl
 generalize aa2 z.natAbs = t at *
 generalize dec z = a at *
 unfold aE6
 refine uL ((j : Int), ()) hjoin ?_
 refine uO ((a.length : Int), true, [], ()) rfl ?_
 refine aaN (fun i : Int × Bool × List Int × Unit => ∃ e : Nat, (i.1 = ((j + e : Nat) : Int) ∨ (e = 0 ∧ i.1 ≤ j ∧ -10 ≤ i.1)) ∧ e ≤ t.length ∧ Dg 10000 i.2.2.1 ∧ V 10000 i.2.2.1 + 10000 ^ i.2.2.1.length * num (t.take e) = z.natAbs ∧ i.2.2.1.length + e ≤ t.length ∧ (i.2.1 = true → i.2.2.1 = [])) (fun i => (i.1 + 20).toNat) (fun _ => (pl z, ())) ?_ _ ⟨t.length, Or.inl (show (a.length : Int) = _ by omega), Nat.le_refl _, atM _, by simp [V]; omega, by simp, fun _ => rfl⟩
 rintro ⟨e', f, l, u⟩ ⟨e, g1, g3, g4, g5, g6, g7⟩
 simp only at g1 g4 g5 g6 g7
 rcases Nat.eq_zero_or_pos e with he | he
 ·right
  subst he
  have hle : e' ≤ j := by omega
  have hv : V 10000 l = z.natAbs := by simpa [aFs] using g5
  have hm : abF ((j : Int) == 1, l, ()) = some (pl z, ()) := axT g4 (by omega) hv (Or.inr hjb)
  cases f with
  | true =>
   obtain rfl := g7 rfl
   unfold aoR
   exact uT rfl (uF (decide_eq_false (show ¬ (e' > (j : Int)) by omega)) (uC _ hm rfl))
  | false =>
   unfold aoR
   dsimp only
   rw [List.take_length]
   exact uF rfl (uF (decide_eq_false (show ¬ (e' > (j : Int)) by omega)) (uC _ hm rfl))
 ·left
  have he' : e' = ((j + e : Nat) : Int) := by omega
  subst he'
  obtain ⟨s, hs, hs1, hs2, hs3, hs4⟩ : ∃ s : Nat, (if (j : Int) > w64 (((j + e : Nat) : Int) - 4) then (j : Int) else w64 (((j + e : Nat) : Int) - 4)) = ((j + s : Nat) : Int) ∧ s ≤ e ∧ e - s ≤ 4 ∧ (s = 0 ∨ s + 4 = e) ∧ s < e := by
   rw [aaA (x := ((j + e : Nat) : Int) - 4) (by omega)]
   rcases Nat.lt_or_ge e 4 with h9 | h9
   ·exact ⟨0, by rw [if_pos (by omega)]; rfl, by omega, by omega, Or.inl rfl, by omega⟩
   ·exact ⟨e - 4, by rw [if_neg (by omega)]; omega, by omega, by omega, Or.inr (by omega), by omega⟩
  have hseg := aLq (s := t) hs1 g3
  have hv := aDh (ao9 (auB hd e) s)
  rw [auW hs1 g3] at hv
  have hv4 : (10 : Nat) ^ (e - s) ≤ 10 ^ 4 := Nat.pow_le_pow_right (by omega) hs2
  have hw4 : w64 (((j + e : Nat) : Int) - 4) = ((j + e : Nat) : Int) - 4 := aaA (by omega)
  generalize hX : num ((t.take e).drop s) = X at hseg hv
  have hD : Dg 10000 (l ++ [(X : Int)]) := aeG g4 (al5 (by omega) (by omega))
  have hV1 : V 10000 (l ++ [(X : Int)]) + 10000 ^ (l ++ [(X : Int)]).length * (num (t.take s) : Int) = z.natAbs := by
   rw [adX, ayU, ← g5, hseg, List.length_append, List.length_singleton, Int.pow_succ]
   rcases hs3 with h0 | h0
   ·subst h0; simp [aFs]
   ·rw [show e - s = 4 by omega]
    have : (((num (t.take s) * 10 ^ 4 + X : Nat)) : Int) = (num (t.take s) : Int) * 10000 + X := by simp
    rw [this]
    grind
  have inv : (((j + e : Nat) : Int) - 4 = ((j + s : Nat) : Int) ∨ (s = 0 ∧ ((j + e : Nat) : Int) - 4 ≤ j ∧ -10 ≤ ((j + e : Nat) : Int) - 4)) := by omega
  refine ⟨(((j + e : Nat) : Int) - 4, false, l ++ [(X : Int)], ()), ?_, ⟨s, inv, by omega, hD, hV1, by simp; omega, by simp⟩, by simp only; omega, (by first | exact True.intro | rfl)⟩
  cases f with
  | false =>
   simp only [aoR]
   refine uF rfl (uT sd (uO (((j + s : Nat) : Int), 0, ()) (by repeat (first | refine uV ?_ | refine uB ?_ | refine uN sd ?_ | refine uT sd ?_ | refine uF sd ?_ | refine uN (by simp) ?_); rw [hs]; rfl) ?_))
   refine aaN (fun i : Int × Int × Unit => ∃ q : Nat, s ≤ q ∧ q ≤ e ∧ i = (((j + q : Nat) : Int), (num ((t.take q).drop s) : Int), ())) (fun i => (((j + e : Nat) : Int) - i.1).toNat) (fun _ => (Sum.inl (((j + e : Nat) : Int) - 4, false, l ++ [(X : Int)], ()) : (Int × Bool × List Int × Unit) ⊕ (PlT × Unit))) ?_ _ ⟨s, Nat.le_refl _, hs1, by rw [List.drop_of_length_le (by simp; omega)]; rfl⟩
   rintro i ⟨q, h1, h2, rfl⟩
   rcases Nat.lt_or_ge q e with hq | hq
   ·left
    refine ⟨(((j + (q + 1) : Nat) : Int), (num ((t.take (q + 1)).drop s) : Int), ()), ?_, ⟨q + 1, by omega, by omega, rfl⟩, by simp only; omega, (by first | exact True.intro | rfl)⟩
    simp only [aA1, aaM, aCy hd hget h1 hq g3 hs2]
    refine uT sd (uN ⟨by omega, by exact sn⟩ ?_)
    repeat (first | refine uV ?_ | refine uB ?_ | refine uN sd ?_ | refine uT sd ?_ | refine uF sd ?_ | refine uN (by simp) ?_)
    rw [aaK, aaA (x := ((j + q : Nat) : Int) + 1) (by omega)]; rfl
   ·right
    have hqe : q = e := by omega
    subst hqe
    simp only [aA1, hX, List.take_length, hw4]
    refine uF sd (uN (by omega) ?_)
    repeat (first | refine uV ?_ | refine uB ?_ | refine uN sd ?_ | refine uT sd ?_ | refine uF sd ?_ | refine uN (by simp) ?_)
    rfl
  | true =>
   obtain rfl := g7 rfl
   simp only [aoR]
   refine uT rfl (uT sd (uO (((j + s : Nat) : Int), 0, ()) (by repeat (first | refine uV ?_ | refine uB ?_ | refine uN sd ?_ | refine uT sd ?_ | refine uF sd ?_ | refine uN (by simp) ?_); rw [hs]; rfl) ?_))
   refine aaN (fun i : Int × Int × Unit => ∃ q : Nat, s ≤ q ∧ q ≤ e ∧ i = (((j + q : Nat) : Int), (num ((t.take q).drop s) : Int), ())) (fun i => (((j + e : Nat) : Int) - i.1).toNat) (fun _ => (Sum.inl (((j + e : Nat) : Int) - 4, false, [(X : Int)], ()) : (Int × Bool × List Int × Unit) ⊕ (PlT × Unit))) ?_ _ ⟨s, Nat.le_refl _, hs1, by rw [List.drop_of_length_le (by simp; omega)]; rfl⟩
   rintro i ⟨q, h1, h2, rfl⟩
   rcases Nat.lt_or_ge q e with hq | hq
   ·left
    refine ⟨(((j + (q + 1) : Nat) : Int), (num ((t.take (q + 1)).drop s) : Int), ()), ?_, ⟨q + 1, by omega, by omega, rfl⟩, by simp only; omega, (by first | exact True.intro | rfl)⟩
    simp only [aA2, aaM, aCy hd hget h1 hq g3 hs2]
    refine uT sd (uN ⟨by omega, by exact sn⟩ ?_)
    repeat (first | refine uV ?_ | refine uB ?_ | refine uN sd ?_ | refine uT sd ?_ | refine uF sd ?_ | refine uN (by simp) ?_)
    rw [aaK, aaA (x := ((j + q : Nat) : Int) + 1) (by omega)]; rfl
   ·right
    have hqe : q = e := by omega
    subst hqe
    simp only [aA2, hX, hw4]
    refine uF sd (uN (by omega) ?_)
    repeat (first | refine uV ?_ | refine uB ?_ | refine uN sd ?_ | refine uT sd ?_ | refine uF sd ?_ | refine uN (by simp) ?_)
    rfl
theorem aAp {l : List Int} (h : Dg 10000 l) (k : Nat) : V 10000 (l.drop k) = V 10000 l / 10000 ^ k := by
 have h1 := ab6 10000 l k
 have h2 := ac3 (by omega) h k
 have h3 := aaT (by omega) (ab5 h k)
 rw [h1, Int.add_mul_ediv_left _ _ (by have := aA4 (show (1 : Int) ≤ 10000 by omega) k; omega), Int.ediv_eq_zero_of_lt h3 h2, Int.zero_add]
theorem aE7 {R b top first P : Int} (hP : 0 < P) (hb0 : 0 < b) (htop : 10000 ≤ top) (hb1 : top * P ≤ b) (hb2 : b < (top + 1) * P) (hf1 : first * P ≤ R) (hf2 : R < (first + 1) * P) (hR0 : 0 ≤ R) (hR : R < b * 10000) (hf0 : 0 ≤ first) :
  (first / (top + 1)) * b ≤ R ∧ R < (first / top + 1) * b ∧ first / top + 1 ≤ 10001 ∧ 0 ≤ first / (top + 1) ∧ first ≤ 100000000000000 * top := by
 have g1 := Int.emod_add_mul_ediv first (top + 1)
 have g2 := Int.emod_nonneg first (show top + 1 ≠ 0 by omega)
 have g3 := Int.emod_add_mul_ediv first top
 have g4 := Int.emod_lt_of_pos first (show 0 < top by omega)
 have g7 := Int.emod_nonneg first (show top ≠ 0 by omega)
 have g5 := Int.ediv_nonneg hf0 (show 0 ≤ top + 1 by omega)
 have g6 := Int.ediv_nonneg hf0 (show 0 ≤ top by omega)
 generalize first / (top + 1) = L at *
 generalize first / top = H at *
 generalize first % (top + 1) = m1 at *
 generalize first % top = m2 at *
 refine ⟨?_, ?_, ?_, g5, ?_⟩
 ·have a1 : L * b ≤ L * ((top + 1) * P) := Int.mul_le_mul_of_nonneg_left (by omega) g5
  have a2 : L * ((top + 1) * P) = ((top + 1) * L) * P := by grind
  have a3 : ((top + 1) * L) * P ≤ first * P := Int.mul_le_mul_of_nonneg_right (by omega) (by omega)
  omega
 ·have a1 : (H + 1) * (top * P) ≤ (H + 1) * b := Int.mul_le_mul_of_nonneg_left hb1 (by omega)
  have a2 : (H + 1) * (top * P) = (top * H + top) * P := by grind
  have a3 : (first + 1) * P ≤ (top * H + top) * P := Int.mul_le_mul_of_nonneg_right (by omega) (by omega)
  omega
 ·have a1 : first * P < ((top + 1) * 10000) * P := by
   have : b * 10000 < ((top + 1) * P) * 10000 := by omega
   have e : ((top + 1) * P) * 10000 = ((top + 1) * 10000) * P := by grind
   omega
  have a2 : first < (top + 1) * 10000 := Int.lt_of_mul_lt_mul_right a1 (by omega)
  have a3 : top * H < top * 10001 := by omega
  have := Int.lt_of_mul_lt_mul_left a3 (by omega)
  omega
 ·have a1 : first * P < ((top + 1) * 10000) * P := by
   have : b * 10000 < ((top + 1) * P) * 10000 := by omega
   have e : ((top + 1) * P) * 10000 = ((top + 1) * 10000) * P := by grind
   omega
  have a2 : first < (top + 1) * 10000 := Int.lt_of_mul_lt_mul_right a1 (by omega)
  omega
theorem aCJ (m o : List Int) (y) (h : ajC (m, o, ()) = some y) : (aqZ m o).toO = some y := by
 obtain ⟨⟨a, b⟩, hn, hx, rfl⟩ := aaD h
 obtain ⟨rfl, hx2⟩ := Prod.mk.inj hx; obtain ⟨rfl, -⟩ := Prod.mk.inj hx2; dsimp only
 obtain ⟨la, lb, hb0⟩ := hn
 simp only at la lb hb0
 clear h hx hx2
 have hda := adA a
 have hdb := adA b
 have hVa := ahK a
 have hVb := ahK b
 have hbl : 1 ≤ (dig b).length := by
  rcases Nat.eq_zero_or_pos (dig b).length with h5 | h5
  ·exact absurd (dig_nil_iff.1 (List.length_eq_zero_iff.1 h5)) hb0
  ·exact h5
 unfold aqZ
 by_cases h1 : (dig b).length = 1
 ·-- one digit
  refine uT sd (uN ⟨by simp [asT], by exact sn⟩ ?_)
  have hb1 : b < 10000 := by have := dig_length_le_iff.1 (Nat.le_of_eq h1); simpa using this
  have hdb1 : dig b = [(b : Int)] := aMs hb0 hb1
  have hg : gi (dig b) 0 0 = (b : Int) := by rw [hdb1]; rfl
  rw [hg]
  refine uC _ (aNh (by omega) (by omega) hb1) ?_
  have hm := Nat.mod_lt a (show 0 < b by omega)
  generalize a % b = r at hm ⊢
  refine uC (dig r, ()) (af8 (al5 (show (0 : Int) ≤ (r : Int) by omega) (show (r : Int) < 10000 by omega)) (by simp) (by simp [V])) rfl
 obtain ⟨n, hnl⟩ : ∃ n, (dig b).length = n + 2 := ⟨(dig b).length - 2, by omega⟩
 have w1 : w64 (len (dig b) - 1) = ((n + 1 : Nat) : Int) := by rw [aaC, hnl, aaA (by omega)]; omega
 have w2 : w64 (((n + 1 : Nat) : Int) - 1) = ((n : Nat) : Int) := by rw [aaA (by omega)]; omega
 have bge : 10000 ^ (n + 1) ≤ b := by have := avC (B := 10000) (by omega) hb0; rw [show (atV 10000 b).length = n + 2 from hnl] at this; exact this
 refine uF sd ?_
 simp only [w1]
 by_cases h2 : (dig a).length ≤ n + 1
 ·-- the dividend is shorter
  refine uT sd (uN (by omega) ?_)
  have hab : a < b := Nat.lt_of_lt_of_le (dig_length_le_iff.1 h2) bge
  rw [aaK, Nat.div_eq_of_lt hab, Nat.mod_eq_of_lt hab, dig_zero]
  simp
 have hq : ∃ M, (dig a).length = M + (n + 1) ∧ 0 < M := ⟨(dig a).length - (n + 1), by omega, by omega⟩
 obtain ⟨M, hM, hM0⟩ := hq
 have w3 : w64 (len (dig a) - ((n + 1 : Nat) : Int)) = (M : Int) := by rw [aaC, hM, aaA (by omega)]; omega
 refine uF sd ?_
 simp only [w2, w3]
 refine uN sd (uN sd (uN (by omega) (uN sd ?_)))
 simp only [Int.toNat_natCast]
 have htk : List.take ((dig a).length - M) ((dig a).drop M) = (dig a).drop M := List.take_of_length_le (by simp)
 simp only [htk]
 have htk2 : List.take (0 + ((dig a).drop M).length) (List.take 0 ([] : List Int) ++ (dig a).drop M) = (dig a).drop M := by rw [Nat.zero_add, List.take_zero, List.nil_append, List.take_length]
 simp only [htk2]
 refine uN (by simp; omega) ?_
 have w4 : w64 ((M : Int) - 1) = (M : Int) - 1 := aaA (by omega)
 refine uO ((M : Int) - 1, (dig a).drop M, List.replicate M 0, ()) ?_ ?_
 ·repeat (first | refine uV ?_ | refine uB ?_ | refine uN sd ?_ | refine uT sd ?_ | refine uF sd ?_ | refine uN (by simp) ?_)
  rw [aaK, w4]
 -- the first two digits of the divisor
 have dB1 := aa3 (by omega) hdb (n + 1)
 have dB0 := aa3 (by omega) hdb n
 have hBtop : 1 ≤ (dig b).getD (n + 1) 0 := by
  have hc := aHm b
  unfold Cn at hc
  rw [List.getLast?_eq_getElem?, hnl, show n + 2 - 1 = n + 1 by omega, List.getElem?_eq_getElem (by omega)] at hc
  rw [aiK (by omega)] at *
  rcases Int.lt_or_le 0 (dig b)[n + 1] with h | h
  ·exact h
  ·exact absurd (by congr 1; omega) hc
 have htopV : V 10000 ((dig b).drop n) = (dig b).getD (n + 1) 0 * 10000 + (dig b).getD n 0 := by
  have e1 := aaU 10000 (dig b) n
  have e2 := aaU 10000 (dig b) (n + 1)
  have e3 := acT 10000 (l := dig b) (k := n + 1 + 1) (by omega)
  omega
 have htop2 := aAp hdb n
 rw [hVb] at htop2
 have hwtop : w64 (w64 (gi (dig b) ((n + 1 : Nat) : Int) 0 * 10000) + gi (dig b) (n : Int) 0) = (dig b).getD (n + 1) 0 * 10000 + (dig b).getD n 0 := by
  rw [aaM, aaM, aaA (x := (dig b).getD (n + 1) 0 * 10000) (by omega), aaA (by omega)]
 have hwtop1 : w64 ((dig b).getD (n + 1) 0 * 10000 + (dig b).getD n 0 + 1) = (dig b).getD (n + 1) 0 * 10000 + (dig b).getD n 0 + 1 := aaA (by omega)
 have htop3 : 10000 ≤ (dig b).getD (n + 1) 0 * 10000 + (dig b).getD n 0 ∧ (dig b).getD (n + 1) 0 * 10000 + (dig b).getD n 0 < 100000000 := by omega
 rw [← htopV] at htop3
 have hP : (0 : Int) < 10000 ^ n := Int.pow_pos (by omega)
 have hbt1 : V 10000 ((dig b).drop n) * 10000 ^ n ≤ (b : Int) := by
  rw [htop2]; exact Int.ediv_mul_le _ (by omega)
 have hbt2 : (b : Int) < (V 10000 ((dig b).drop n) + 1) * 10000 ^ n := by
  rw [htop2]; exact Int.lt_ediv_add_one_mul_self _ hP
 rw [← htopV] at hwtop hwtop1
 generalize htv : V 10000 ((dig b).drop n) = top at *
 clear htopV htop2 dB1 dB0 hBtop htv
 have hR0 : V 10000 ((dig a).drop M) < (b : Int) := by
  have := aJK (by omega) (acK hda M)
  rw [List.length_drop, show (dig a).length - M = n + 1 by omega] at this
  have hb2 : ((10000 ^ (n + 1) : Nat) : Int) ≤ (b : Int) := Int.ofNat_le.2 bge
  rw [Int.natCast_pow] at hb2
  exact Int.lt_of_lt_of_le this hb2
 have hcR0 : Cn ((dig a).drop M) := by
  have hc := aHm a
  unfold Cn at hc ⊢
  rw [List.getLast?_drop, if_neg (by omega)]
  exact hc
 refine aaN (fun i : Int × List Int × List Int × Unit => ∃ (k : Nat) (R : Nat), k ≤ M ∧ i.1 = (k : Int) - 1 ∧ i.2.1 = dig R ∧ R < b ∧ i.2.2.1.length = M ∧ Dg 10000 i.2.2.1 ∧ V 10000 ((dig a).drop k) = V 10000 (i.2.2.1.drop k) * b + R) (fun i => (i.1 + 1).toNat) (fun _ => (dig (a / b), dig (a % b), ())) ?_ _ ?_
 case refine_2 =>
  obtain ⟨R, hR⟩ := Int.eq_ofNat_of_zero_le (aaT (by omega) (acK hda M))
  refine ⟨M, R, Nat.le_refl _, rfl, aBJ (acK hda M) hcR0 hR, by omega, by simp, af9 (by omega) _, ?_⟩
  rw [hR, acT _ (by simp)]; simp
 rintro ⟨i, r, q, u⟩ ⟨k, R, g1, g2, g3, g4, g5, g6, g7⟩
 dsimp only at g2 g3 g5 g6 g7
 subst g2 g3
 cases k with
 | zero =>
  right
  simp only [List.drop_zero, hVa] at g7
  obtain ⟨v, hv⟩ := Int.eq_ofNat_of_zero_le (aaT (by omega) g6)
  rw [hv] at g7
  have h8 : a = v * b + R := by
   have : (a : Int) = ((v * b + R : Nat) : Int) := by simpa using g7
   exact Int.ofNat.inj this
  have h9 : a / b = v := by rw [h8, Nat.add_comm, Nat.add_mul_div_right _ _ (by omega), Nat.div_eq_of_lt (by omega), Nat.zero_add]
  have h10 : a % b = R := by rw [h8, Nat.add_comm, Nat.add_mul_mod_self_right, Nat.mod_eq_of_lt (by omega)]
  simp only [anO, w1, w3, Int.toNat_natCast]
  refine uF sd (uC (dig v, ()) ?_ ?_)
  ·rw [List.take_of_length_le (by omega)]
   exact af8 g6 (by omega) hv
  ·rw [aaK, h9, h10]
 | succ j =>
  left
  have e6 : ((j + 1 : Nat) : Int) - 1 = (j : Int) := by omega
  rw [e6]
  have da := aa3 (by omega) hda j
  obtain ⟨d, hd⟩ := Int.eq_ofNat_of_zero_le da.1
  have lR : (dig R).length ≤ n + 2 := by rw [← hnl]; exact ab2 (by omega)
  -- the next rest
  obtain ⟨R', hR'⟩ : ∃ R', R' = d + 10000 * R := ⟨_, rfl⟩
  have hR'b : R' < b * 10000 := by omega
  have hcut : acM ((dig a).getD j 0 :: dig R, ()) = some (dig R', ()) := by
   rw [hd]
   refine af8 (aCe ⟨by omega, by omega⟩ (adA R)) (by simp; omega) ?_
   simp only [V, ahK, hR']; simp
  have lR' : (dig R').length ≤ n + 3 := by
   rw [dig_length_le_iff]
   have := dig_length_le_iff.1 (Nat.le_of_eq hnl)
   rw [show n + 3 = (n + 2) + 1 by omega, Nat.pow_succ]
   exact Nat.lt_of_lt_of_le hR'b (Nat.mul_le_mul_right _ (Nat.le_of_lt this))
  have hdR := adA R'
  have hVR := ahK R'
  -- its first three digits
  have hf := aAp hdR n
  rw [hVR] at hf
  have hf1 : V 10000 ((dig R').drop n) * 10000 ^ n ≤ (R' : Int) := by rw [hf]; exact Int.ediv_mul_le _ (by omega)
  have hf2 : (R' : Int) < (V 10000 ((dig R').drop n) + 1) * 10000 ^ n := by rw [hf]; exact Int.lt_ediv_add_one_mul_self _ hP
  have hf0 := aaT (by omega) (acK hdR n)
  obtain ⟨k1, k2, k3, k4, k5⟩ := aE7 hP (by omega) htop3.1 hbt1 hbt2 hf1 hf2 (by omega) (by omega) hf0
  have hfirst : ac1 (fun i1 => (aeJ (dig a) (dig b) ((j : Int), dig R, q, ()) (dig R', ()) i1).toO) (((n + 2 : Nat) : Int), 0, ()) = ac1 (fun i1 => (aeJ (dig a) (dig b) ((j : Int), dig R, q, ()) (dig R', ()) i1).toO) ((n : Int) - 1, V 10000 ((dig R').drop n), ()) := by
   have st : ∀ (t : Nat) (v : Int), n ≤ t → t ≤ n + 2 → v = V 10000 ((dig R').drop (t + 1)) → (aeJ (dig a) (dig b) ((j : Int), dig R, q, ()) (dig R', ()) ((t : Int), v, ())).toO = some (.inl ((t : Int) - 1, V 10000 ((dig R').drop t), ())) := by
    intro t v ht1 ht2 hv
    have e1 := aaU 10000 (dig R') t
    have e2 := aa3 (by omega) hdR t
    have e3 := aaT (by omega) (acK hdR (t + 1))
    have e4 : V 10000 ((dig R').drop (t + 1)) < 10000 ^ 2 := by
     have := aJK (by omega) (acK hdR (t + 1))
     have h7 : (10000 : Int) ^ ((dig R').drop (t + 1)).length ≤ 10000 ^ 2 := aE9 (by omega) (by rw [List.length_drop]; omega)
     omega
    subst hv
    simp only [aeJ, w1, w2, aaM]
    refine uT sd ?_
    by_cases ct : t < (dig R').length
    ·refine uT sd (uN sd ?_)
     repeat (first | refine uV ?_ | refine uB ?_ | refine uN sd ?_ | refine uT sd ?_ | refine uF sd ?_ | refine uN (by simp) ?_)
     rw [aaK, aaA (x := (t : Int) - 1) (by omega), aaA (x := V 10000 ((dig R').drop (t + 1)) * 10000) (by omega), aaA (by omega), e1, Int.add_comm, Int.mul_comm]
    ·refine uF sd ?_
     repeat (first | refine uV ?_ | refine uB ?_ | refine uN sd ?_ | refine uT sd ?_ | refine uF sd ?_ | refine uN (by simp) ?_)
     rw [ahD (by omega)] at e1
     rw [aaK, aaA (x := (t : Int) - 1) (by omega), aaA (by omega), e1, Int.zero_add, Int.mul_comm]
   have s1 := st (n + 2) 0 (by omega) (by omega) (by rw [acT _ (by omega)])
   rw [show (((n + 2 : Nat) : Int)) - 1 = ((n + 1 : Nat) : Int) by omega] at s1
   rw [acO s1]
   have s2 := st (n + 1) _ (by omega) (by omega) rfl
   rw [show (((n + 1 : Nat) : Int)) - 1 = ((n : Nat) : Int) by omega] at s2
   rw [acO s2]
   rw [acO (st n _ (by omega) (by omega) rfl)]
  -- the search
  obtain ⟨Q, hQ⟩ : ∃ Q : Nat, Q = R' / b := ⟨_, rfl⟩
  have hQm := Nat.mod_add_div R' b
  have hQl := Nat.mod_lt R' (show 0 < b by omega)
  rw [← hQ] at hQm
  have hQ4 : Q < 10000 := by
   rw [hQ, Nat.div_lt_iff_lt_mul (by omega), Nat.mul_comm]; exact hR'b
  have hRQ : (R' : Int) = (Q : Int) * b + ((R' % b : Nat) : Int) := by
   have : (R' : Int) = ((R' % b + b * Q : Nat) : Int) := by rw [hQm]
   rw [this]; simp; rw [Int.mul_comm]; omega
  have res : ac1 (fun i1 => (aeJ (dig a) (dig b) ((j : Int), dig R, q, ()) (dig R', ()) i1).toO) (((n + 2 : Nat) : Int), 0, ()) = some (Sum.inl ((j : Int) - 1, dig (R' % b), q.set j (Q : Int), ())) := by
   rw [hfirst]
   refine acA ?_
   simp only [aeJ, w1, w2, hwtop, hwtop1]
   refine uF sd (uN (by omega) (uN (by omega) ?_))
   have hd1 : Int.tdiv (V 10000 ((dig R').drop n)) top = V 10000 ((dig R').drop n) / top := Int.tdiv_eq_ediv_of_nonneg hf0
   have hd2 : Int.tdiv (V 10000 ((dig R').drop n)) (top + 1) = V 10000 ((dig R').drop n) / (top + 1) := Int.tdiv_eq_ediv_of_nonneg hf0
   simp only [hd1, hd2]
   have hn1 := Int.ediv_nonneg hf0 (show 0 ≤ top by omega)
   have hlow : V 10000 ((dig R').drop n) / (top + 1) ≤ Q := by
    have : V 10000 ((dig R').drop n) / (top + 1) * b < ((Q : Int) + 1) * b := by
     rw [Int.add_mul]; omega
    have := Int.lt_of_mul_lt_mul_right this (by omega)
    omega
   have hhigh : (Q : Int) < V 10000 ((dig R').drop n) / top + 1 := by
    have : (Q : Int) * b < (V 10000 ((dig R').drop n) / top + 1) * b := by omega
    exact Int.lt_of_mul_lt_mul_right this (by omega)
   have wH : w64 (w64 (V 10000 ((dig R').drop n) / top) + 1) = V 10000 ((dig R').drop n) / top + 1 := by
    rw [aaA (x := V 10000 ((dig R').drop n) / top) (by omega), aaA (by omega)]
   have wL : w64 (V 10000 ((dig R').drop n) / (top + 1)) = V 10000 ((dig R').drop n) / (top + 1) := aaA (by omega)
   simp only [wH, wL]
   generalize V 10000 ((dig R').drop n) / top + 1 = H at *
   generalize V 10000 ((dig R').drop n) / (top + 1) = L at *
   refine uO (H, L, ()) (by repeat (first | refine uV ?_ | refine uB ?_ | refine uN sd ?_ | refine uT sd ?_ | refine uF sd ?_ | refine uN (by simp) ?_); rfl) ?_
   refine aaN (fun i2 : Int × Int × Unit => 0 ≤ i2.2.1 ∧ i2.2.1 ≤ Q ∧ (Q : Int) < i2.1 ∧ i2.1 ≤ 10001) (fun i2 => (i2.1 - i2.2.1).toNat) (fun _ => (.inr (.inl ((j : Int) - 1, dig (R' % b), q.set j (Q : Int), ())) : (Int × Int × Unit) ⊕ ((Int × List Int × List Int × Unit) ⊕ (List Int × List Int × Unit)))) ?_ _ ⟨k4, hlow, hhigh, k3⟩
   rintro ⟨hi, lo, u3⟩ ⟨c1, c2, c3, c4⟩
   dsimp only at c1 c2 c3 c4
   have wd : w64 (hi - lo) = hi - lo := aaA (by omega)
   simp only [au3, wd]
   by_cases hgap : hi - lo > 1
   ·left
    have wm : w64 (Int.tdiv (w64 (lo + hi)) 2) = (lo + hi) / 2 := by
     rw [aaA (x := lo + hi) (by omega), Int.tdiv_eq_ediv_of_nonneg (by omega), aaA (by omega)]
    simp only [wm]
    obtain ⟨mm, hmm⟩ := Int.eq_ofNat_of_zero_le (show 0 ≤ (lo + hi) / 2 by omega)
    rw [hmm]
    have hmB : mm ≤ 10000 ∧ 1 ≤ mm := by omega
    have hprod : abR (dig b, [(mm : Int)], ()) = some (dig (b * mm), ()) := by
     refine al1 hdb ?_ (by omega) (by simp) (by rw [hVb]; simp [V])
     by_cases cm : mm = 10000
     ·right; rw [cm]; rfl
     ·left; exact al5 (by omega) (by omega)
    have lbm : (dig (b * mm)).length ≤ 1000000000000 := by
     have : (dig (b * mm)).length ≤ (dig b).length + 2 := by
      rw [dig_length_le_iff, Nat.pow_add]
      have q1 := dig_length_le_iff.1 (Nat.le_refl (dig b).length)
      exact Nat.mul_lt_mul'' q1 (by omega)
     omega
    have hcutp : acM (dig (b * mm), ()) = some (dig (b * mm), ()) := af8 (adA _) lbm (ahK _)
    obtain ⟨o1, o2⟩ := aGX (b * mm) R'
    have hle : aPm (dig (b * mm)) (dig R') ≤ 0 ↔ b * mm ≤ R' := by omega
    have hmQ : b * mm ≤ R' ↔ mm ≤ Q := by
     rw [hQ, Nat.le_div_iff_mul_le (by omega), Nat.mul_comm]
    by_cases cm : mm ≤ Q
    ·refine ⟨(hi, (mm : Int), ()), ?_, ⟨by dsimp only; omega, by dsimp only; omega, c3, c4⟩, by dsimp only; omega, (by first | exact True.intro | rfl)⟩
     refine uT (decide_eq_true hgap) (uV ?_)
     refine uC _ hprod (uC _ hcutp (uC _ (asF _ _ (adA _) (adA _) lbm (by omega)) (uT (decide_eq_true (hle.2 (hmQ.2 cm))) ?_)))
     repeat (first | refine uV ?_ | refine uB ?_ | refine uN sd ?_ | refine uT sd ?_ | refine uF sd ?_ | refine uN (by simp) ?_)
     rfl
    ·refine ⟨((mm : Int), lo, ()), ?_, ⟨c1, c2, by dsimp only; omega, by dsimp only; omega⟩, by dsimp only; omega, (by first | exact True.intro | rfl)⟩
     refine uT (decide_eq_true hgap) (uV ?_)
     refine uC _ hprod (uC _ hcutp (uC _ (asF _ _ (adA _) (adA _) lbm (by omega)) (uF (decide_eq_false (fun h => cm (hmQ.1 (hle.1 h)))) ?_)))
     repeat (first | refine uV ?_ | refine uB ?_ | refine uN sd ?_ | refine uT sd ?_ | refine uF sd ?_ | refine uN (by simp) ?_)
     rfl
   ·right
    have hlQ : lo = Q := by omega
    subst hlQ
    refine uF (decide_eq_false hgap) ?_
    simp only [w1, w3, Int.toNat_natCast]
    refine uN ⟨by omega, by omega⟩ ?_
    have hprod : abR (dig b, [(Q : Int)], ()) = some (dig (b * Q), ()) := al1 hdb (Or.inl (al5 (by omega) (by omega))) (by omega) (by simp) (by rw [hVb]; simp [V])
    have hdiff : abA (dig R', dig (b * Q), ()) = some (dig (R' % b), ()) := by
     have := al2 (a := dig R') (b := dig (b * Q)) (n := R' % b) (adA _) (adA _) (by omega) (ab2 (by omega)) (by rw [ahK, ahK]; omega) (by rw [ahK, ahK]; omega)
     exact this
    refine uC _ hprod (uC _ hdiff ?_)
    repeat (first | refine uV ?_ | refine uB ?_ | refine uN sd ?_ | refine uT sd ?_ | refine uF sd ?_ | refine uN (by simp) ?_)
    rw [aaK, aaA (x := (j : Int) - 1) (by omega), Nat.zero_add]
  refine ⟨((j : Int) - 1, dig (R' % b), q.set j (Q : Int), ()), ?_, ⟨j, R' % b, by omega, rfl, rfl, hQl, by simp; omega, aiE g6 ⟨by omega, by omega⟩ _, ?_⟩, by dsimp only; omega, (by first | exact True.intro | rfl)⟩
  ·simp only [anO, aaM, w1]
   have htk3 : List.take (1 + (dig R).length) ([(dig a).getD j 0] ++ dig R) = (dig a).getD j 0 :: dig R := by
    rw [List.take_of_length_le (by simp; omega)]; rfl
   simp only [htk3]
   have w5 : w64 (((n + 1 : Nat) : Int) + 1) = ((n + 2 : Nat) : Int) := by rw [aaA (by omega)]; omega
   simp only [w5]
   refine uT sd (uN sd (uN (by omega) (uC _ hcut ?_)))
   refine uO (((n + 2 : Nat) : Int), 0, ()) (by repeat (first | refine uV ?_ | refine uB ?_ | refine uN sd ?_ | refine uT sd ?_ | refine uF sd ?_ | refine uN (by simp) ?_); rfl) ?_
   exact res
  ·dsimp only
   rw [aaU 10000 (dig a) j, hd, g7, aaU 10000 (q.set j _) j, anX (by omega), ahG _ (by omega)]
   have : (d : Int) + 10000 * (V 10000 (q.drop (j + 1)) * b + R) = 10000 * (V 10000 (q.drop (j + 1)) * b) + R' := by rw [hR']; simp; grind
   rw [this, hRQ]
   grind
set_option maxRecDepth 100000
open Go Go.Vg Go.Proofs
noncomputable section
def aEY : LTab := []
def anN (n : Bool × List Int × Unit) (d : Bool × List Int × Unit) : TT (((Bool × List Int × Unit) × (Bool × List Int × Unit) × Unit) × Unit) :=
 .ite (d.1)
 (.call (ajD ((n.1, n.2.1, ()), ())) akX fun y =>
 .call (ajD ((d.1, d.2.1, ()), ())) akX fun y1 =>
 .call (aeT ((y.1.1, y.1.2.1, ()), (y1.1.1, y1.1.2.1, ()), ())) akX fun y2 =>
 .call (afU ((y.1.1, y.1.2.1, ()), (y2.1.1, y2.1.2.1, ()), ())) aRt fun y3 =>
 .call (afU ((y1.1.1, y1.1.2.1, ()), (y2.1.1, y2.1.2.1, ()), ())) aRt fun y4 =>
 .ok ((((y3.1.1, y3.1.2.1, ()), (y4.1.1, y4.1.2.1, ()), ()), ())))
 (.call (aeT ((n.1, n.2.1, ()), (d.1, d.2.1, ()), ())) akX fun y5 =>
 .call (afU ((n.1, n.2.1, ()), (y5.1.1, y5.1.2.1, ()), ())) aRt fun y6 =>
 .call (afU ((d.1, d.2.1, ()), (y5.1.1, y5.1.2.1, ()), ())) aRt fun y7 =>
 .ok ((((y6.1.1, y6.1.2.1, ()), (y7.1.1, y7.1.2.1, ()), ()), ())))
def aH6 : LTab := []
def ay9 (n : Int) (d : Int) : TT (((Bool × List Int × Unit) × (Bool × List Int × Unit) × Unit) × Unit) :=
 .call (acE (n, ())) akX fun y =>
 .call (acE (d, ())) akX fun y1 =>
 .call (ahN (y.1, y1.1, ())) aPw fun y2 =>
 .ok ((((y2.1.1.1, y2.1.1.2.1, ()), (y2.1.2.1.1, y2.1.2.1.2.1, ()), ()), ()))
def aH5 : LTab := []
def aqY (a : List UInt8 × List UInt8 × Unit) : TT (Bool × Unit) :=
 .call (afT (a.1, ())) Dd1 fun y =>
 .ite (!y.1)
 (.ok ((false, ())))
 (.call (afT (a.2.1, ())) Dd1 fun y1 =>
 .ite (!y1.1)
 (.ok ((false, ())))
 (.call (aoG (a.1, ())) akX fun y2 =>
 .call (aoG (a.2.1, ())) akX fun y3 =>
 .ite (y3.1.1)
 (.ok ((false, ())))
 (.ite (len y3.1.2.1 == 0)
 (.ok ((false, ())))
 (.call (aeT ((y2.1.1, y2.1.2.1, ()), (y3.1.1, y3.1.2.1, ()), ())) akX fun y4 =>
 .call (alW (y4.1, ())) Dd2 fun y5 =>
 .ok ((y5.1 == #[49].toList, ()))))))
def aPN : LTab := []
def aKJ (a : List UInt8 × List UInt8 × Unit) : TT (((Bool × List Int × Unit) × (Bool × List Int × Unit) × Unit) × Unit) :=
 .call (aoG (a.1, ())) akX fun y =>
 .call (aoG (a.2.1, ())) akX fun y1 =>
 .ok ((((y.1.1, y.1.2.1, ()), (y1.1.1, y1.1.2.1, ()), ()), ()))
def aNR : LTab := []
def aGO (r : (Bool × List Int × Unit) × (Bool × List Int × Unit) × Unit) : TT ((List UInt8 × List UInt8 × Unit) × Int × Unit) :=
 .call (ap7 ((r.1.1, r.1.2.1, ()), ())) aGy fun y =>
 .call (ap7 ((r.2.1.1, r.2.1.2.1, ()), ())) aGy fun y1 =>
 .ite (y.2.1 != 0)
 (.ok (((#[].toList, #[].toList, ()), 6, ())))
 (.ite (y1.2.1 != 0)
 (.ok (((#[].toList, #[].toList, ()), 6, ())))
 (.ok (((y.1, y1.1, ()), 0, ()))))
def aKH (a : (Bool × List Int × Unit) × (Bool × List Int × Unit) × Unit) (b : (Bool × List Int × Unit) × (Bool × List Int × Unit) × Unit) : TT (((Bool × List Int × Unit) × (Bool × List Int × Unit) × Unit) × Unit) :=
 .call (aeS ((a.1.1, a.1.2.1, ()), (b.2.1.1, b.2.1.2.1, ()), ())) akX fun y =>
 .call (aeS ((b.1.1, b.1.2.1, ()), (a.2.1.1, a.2.1.2.1, ()), ())) akX fun y1 =>
 .call (agK (y.1, y1.1, ())) akX fun y2 =>
 .call (aeS ((a.2.1.1, a.2.1.2.1, ()), (b.2.1.1, b.2.1.2.1, ()), ())) akX fun y3 =>
 .call (ahN ((y2.1.1, y2.1.2.1, ()), y3.1, ())) aPw fun y4 =>
 .ok ((((y4.1.1.1, y4.1.1.2.1, ()), (y4.1.2.1.1, y4.1.2.1.2.1, ()), ()), ()))
def aH8 : LTab := []
def azA (a : (Bool × List Int × Unit) × (Bool × List Int × Unit) × Unit) (b : (Bool × List Int × Unit) × (Bool × List Int × Unit) × Unit) : TT (Int × Unit) :=
 .call (aeS ((a.1.1, a.1.2.1, ()), (b.2.1.1, b.2.1.2.1, ()), ())) akX fun y =>
 .call (aeS ((b.1.1, b.1.2.1, ()), (a.2.1.1, a.2.1.2.1, ()), ())) akX fun y1 =>
 .call (amW (y.1, y1.1, ())) Dd6 fun y2 =>
 .ok ((y2.1, ()))
def aPM : LTab := []
def aEX (n : Int) (d : Int) : TT ((List UInt8 × List UInt8 × Unit) × Int × Unit) :=
 .ite (d == 0)
 (.ok (((#[].toList, #[].toList, ()), 7, ())))
 (.call (amT (n, d, ())) aPw fun y =>
 .call (ap4 (y.1, ())) afI fun y1 =>
 .ok (((y1.1.1, y1.1.2.1, ()), y1.2.1, ())))
def aNS : LTab := []
def aGP (a : List UInt8 × List UInt8 × Unit) (b : List UInt8 × List UInt8 × Unit) : TT (Int × Int × Unit) :=
 .call (adY ((a.1, a.2.1, ()), ())) Dd1 fun y =>
 .ite (!y.1)
 (.ok ((0, 20, ())))
 (.call (adY ((b.1, b.2.1, ()), ())) Dd1 fun y1 =>
 .ite (!y1.1)
 (.ok ((0, 20, ())))
 (.call (aoF ((a.1, a.2.1, ()), ())) aPw fun y2 =>
 .call (aoF ((b.1, b.2.1, ()), ())) aPw fun y3 =>
 .call (amU (y2.1, y3.1, ())) Dd6 fun y4 =>
 .ok ((y4.1, 0, ()))))
def aNT (a : List UInt8 × List UInt8 × Unit) (b : List UInt8 × List UInt8 × Unit) : TT ((List UInt8 × List UInt8 × Unit) × Int × Unit) :=
 .call (adY ((a.1, a.2.1, ()), ())) Dd1 fun y =>
 .ite (!y.1)
 (.ok (((#[].toList, #[].toList, ()), 20, ())))
 (.call (adY ((b.1, b.2.1, ()), ())) Dd1 fun y1 =>
 .ite (!y1.1)
 (.ok (((#[].toList, #[].toList, ()), 20, ())))
 (.call (aoF ((a.1, a.2.1, ()), ())) aPw fun y2 =>
 .call (aoF ((b.1, b.2.1, ()), ())) aPw fun y3 =>
 .call (axJ (y2.1, y3.1, ())) aPw fun y4 =>
 .call (ap4 (y4.1, ())) afI fun y5 =>
 .ok (((y5.1.1, y5.1.2.1, ()), y5.2.1, ()))))
end
theorem aGM {p q : Rat × Rat} (h : (ra p.1, ra p.2, ()) = (ra q.1, ra q.2, ())) : p = q := by
 obtain ⟨h1, h2⟩ := Prod.mk.inj h
 obtain ⟨h2, -⟩ := Prod.mk.inj h2
 exact Prod.ext (aKG h1) (aKG h2)
theorem atD (n d : Int) (hd : d ≠ 0) : ∃ s : Int, s.natAbs = n.natAbs ∧ Rat.divInt n d = mkRat s d.natAbs ∧ s = (if d < 0 then -n else n) := by
 rcases Int.lt_or_le d 0 with c | c
 ·refine ⟨-n, by omega, ?_, by rw [if_pos c]⟩
  rw [← Rat.neg_divInt_neg, ← Rat.divInt_ofNat]
  congr 1; omega
 ·refine ⟨n, rfl, ?_, by rw [if_neg (by omega)]⟩
  rw [← Rat.divInt_ofNat]
  congr 1; omega
theorem aJA {k : Nat} {n d : Int} (hd : d ≠ 0) (h1 : Bd k n.natAbs) (h2 : Bd k d.natAbs) : BdQ k (Rat.divInt n d) := by
 obtain ⟨s, e1, e2, -⟩ := atD n d hd
 obtain ⟨g, t, hg, g0, e0, f1, f2⟩ := aeK s (d := d.natAbs) (by omega)
 rw [e2]
 refine ⟨?_, ?_⟩
 ·rw [f1, ← acS e0 g0, e1]; exact aaS _ h1
 ·rw [f2]; exact aaS _ h2
theorem axS {n d : Int} (h1 : Bd 6 n.natAbs) (h2 : Bd 6 d.natAbs) (h3 : d ≠ 0) : ahN (pl n, pl d, ()) = some (ra (Rat.divInt n d), ()) := aaI (enc := fun x : Int × Int => (pl x.1, pl x.2, ())) (n, d) ⟨h1, h2, h3⟩ (fun b hb => ajW hb)
theorem aFw {s : Int} {d : Nat} (hd : d ≠ 0) (h1 : Bd 6 s.natAbs) (h2 : Bd 6 d) : ∃ g : Nat, g = Nat.gcd s.natAbs d ∧ g ≠ 0 ∧ Bd 6 g ∧ s / (g : Int) = (mkRat s d).num ∧ (d : Int) / (g : Int) = ((mkRat s d).den : Int) := by
 obtain ⟨g, t, hg, g0, e0, f1, f2⟩ := aeK s hd
 refine ⟨g, hg, g0, by rw [hg]; exact aaY h1 h2, ?_, ?_⟩
 ·rw [f1, e0, Int.mul_ediv_cancel_left _ (by omega)]
 ·rw [f2]; simp
theorem aAZ (x x' : PlT) (y) (h : ahN (x, x', ()) = some y) : (anN x x').toO = some y := by
 obtain ⟨⟨n, d⟩, hp, hx, rfl⟩ := aaD h
 obtain ⟨rfl, hx2⟩ := Prod.mk.inj hx; obtain ⟨rfl, -⟩ := Prod.mk.inj hx2; dsimp only
 obtain ⟨l1, l2, l3⟩ := hp
 dsimp only at l1 l2 l3
 obtain ⟨s, e1, e2, e3⟩ := atD n d l3
 obtain ⟨g, hg, g0, bg, q1, q2⟩ := aFw (s := s) (d := d.natAbs) (by omega) (by rw [e1]; exact l1) l2
 rw [e2]
 unfold anN
 dsimp only
 have hgcd : Nat.gcd s.natAbs d.natAbs = g := hg.symm
 have g0' : (g : Int) ≠ 0 := by omega
 by_cases c : d < 0
 ·rw [if_pos c] at e3
  subst e3
  refine uT (decide_eq_true c) ?_
  refine uC _ (axU (aaH l1 (by omega))) (uC _ (axU (aaH l2 (by omega))) ?_)
  have hdv := al3 (a := -n) (b := -d) (aaV (aaH l1 (by omega))) (aaV (aaH l2 (by omega)))
  rw [Int.natAbs_neg d, hgcd] at hdv
  refine uC _ hdv ?_
  refine uC _ (am2 (b := (g : Int)) (aaV l1) bg g0') ?_
  refine uC _ (am2 (b := (g : Int)) (aaV l2) bg g0') ?_
  rw [q1, show -d = (d.natAbs : Int) by omega, q2]; rfl
 ·rw [if_neg c] at e3
  subst e3
  refine uF (decide_eq_false c) ?_
  have hdv := al3 (a := s) (b := d) (aaH l1 (by omega)) (aaH l2 (by omega))
  rw [hgcd] at hdv
  refine uC _ hdv ?_
  refine uC _ (am2 (b := (g : Int)) l1 bg g0') ?_
  refine uC _ (am2 (b := (g : Int)) l2 bg g0') ?_
  rw [q1, show d = (d.natAbs : Int) by omega, Int.natAbs_natCast, q2]; rfl
theorem aDv {n : Int} (h : aa9 n) : Bd 0 n.natAbs := aaG (by have := h.1; have := h.2; omega)
theorem aJN {n d : Int} (h1 : aa9 n) (h2 : aa9 d) (h3 : d ≠ 0) : amT (n, d, ()) = some (ra (Rat.divInt n d), ()) := aaI (enc := fun x : Int × Int => (x.1, x.2, ())) (n, d) ⟨h1, h2, h3⟩ (fun b hb => by
 obtain ⟨e1, e2⟩ := Prod.mk.inj hb
 obtain ⟨e2, -⟩ := Prod.mk.inj e2
 exact Prod.ext e1 e2)
theorem aCG (n d : Int) (y) (h : amT (n, d, ()) = some y) : (ay9 n d).toO = some y := by
 obtain ⟨⟨n', d'⟩, hp, hx, rfl⟩ := aaD h
 obtain ⟨rfl, hx2⟩ := Prod.mk.inj hx; obtain ⟨rfl, -⟩ := Prod.mk.inj hx2; dsimp only
 obtain ⟨l1, l2, l3⟩ := hp
 exact uC _ (aiD l1) (uC _ (aiD l2) (uC _ (axS (aaH (aDv l1) (by omega)) (aaH (aDv l2) (by omega)) l3) rfl))
theorem am1 {s : FxT} (h : shF s) : adY (s, ()) = some ((rdF s).isSome, ()) := by unfold adY; rw [if_pos h]
theorem aCF (a : FxT) (y) (h : adY (a, ()) = some y) : (aqY a).toO = some y := by
 unfold adY at h
 split at h
 case isFalse => cases h
 case isTrue hl =>
 injection h with h
 subst h
 obtain ⟨s, t, u⟩ := a
 obtain ⟨l1, l2⟩ := hl
 dsimp only at l1 l2 ⊢
 have hs := aPk s t
 unfold aqY
 refine uC _ (aAv l1) ?_
 cases hn : rdW s with
 | none =>
  rw [hn] at hs
  rw [show rdF (s, t, u) = none from hs]
  exact uT rfl rfl
 | some n =>
  refine uF rfl (uC _ (aAv l2) ?_)
  cases hd : rdW t with
  | none =>
   rw [hn, hd] at hs
   rw [show rdF (s, t, u) = none from hs]
   exact uT rfl rfl
  | some d =>
   rw [hn, hd] at hs
   dsimp only at hs
   obtain ⟨f1, rfl⟩ := aeH hn
   obtain ⟨f2, rfl⟩ := aeH hd
   have b1 := apW f1
   have b2 := apW f2
   refine uF rfl (uC _ (aB9 f1) (uC _ (aB9 f2) ?_))
   dsimp only
   by_cases hp : 0 < d
   case neg =>
    rw [dif_neg (fun h => hp h.1)] at hs
    rw [show rdF (dec n, dec d, u) = none from hs]
    by_cases c : d < 0
    ·exact uT (decide_eq_true c) rfl
    ·have : d = 0 := by omega
     subst this
     exact uF rfl (uT (by rw [Int.natAbs_zero, dig_zero]; rfl) rfl)
   refine uF sd (uF ?_ ?_)
   ·rw [beq_eq_false_iff_ne, aaC]
    intro h
    have := dig_nil_iff.1 (List.length_eq_zero_iff.1 (show (dig d.natAbs).length = 0 by omega))
    omega
   have hdv := al3 (a := n) (b := d) (aaH b1 (by omega)) (aaH b2 (by omega))
   refine uC _ hdv (uC _ (aEn (aaH (aaY b1 b2) (by omega))) ?_)
   have h1 : aa2 1 = #[49].toList := by rw [abG (by omega)]; rfl
   rw [aaK, ad5]
   by_cases hcop : n.natAbs.Coprime d.natAbs
   ·rw [dif_pos ⟨hp, hcop⟩] at hs
    rw [show rdF (dec n, dec d, u) = some _ from hs]
    have : Nat.gcd n.natAbs d.natAbs = 1 := hcop
    rw [this, h1]; rfl
   ·rw [dif_neg (fun h => hcop h.2)] at hs
    rw [show rdF (dec n, dec d, u) = none from hs]
    have : (aa2 (Nat.gcd n.natAbs d.natAbs) == #[49].toList) = false := by
     rw [beq_eq_false_iff_ne]
     exact fun h => hcop (ah4 (h.trans h1.symm))
    rw [this]; rfl
theorem aB8 {q : Rat} (h : adE q) : aoF (fx q, ()) = some (ra q, ()) := aaI (enc := fun x : Rat => (fx x, ())) q h (fun b hb => ai1 (Prod.mk.inj hb).1)
theorem aKK (a : FxT) (y) (h : aoF (a, ()) = some y) : (aKJ a).toO = some y := by
 obtain ⟨q, hp, hx, rfl⟩ := aaD h
 obtain ⟨rfl, -⟩ := Prod.mk.inj hx
 refine uC _ (aB9 hp.1) (uC (pl q.den, ()) ?_ rfl)
 have := aB9 hp.2
 rwa [ad5] at this
theorem aHy {q : Rat} (h : BdQ 6 q) : ap4 (ra q, ()) = some (wrF q) := aaI (enc := fun x : Rat => (ra x, ())) q h (fun b hb => aKG (Prod.mk.inj hb).1)
theorem aH7 (x : RaT) (y) (h : ap4 (x, ()) = some y) : (aGO x).toO = some y := by
 obtain ⟨q, hp, hx, rfl⟩ := aaD h
 obtain ⟨rfl, -⟩ := Prod.mk.inj hx
 refine uC _ (aHz hp.1) (uC _ (aHz (z := (q.den : Int)) hp.2) ?_)
 by_cases c1 : Fit q.num
 ·rw [aiF c1]
  by_cases c2 : Fit q.den
  ·rw [aEy ⟨c1, c2⟩, aiF c2]
   refine uF rfl (uF rfl ?_)
   rw [aaK, ad5]
  ·rw [aAA (fun h => c2 h.2), aqP c2]
   exact uF rfl (uT rfl rfl)
 ·rw [aqP c1, aAA (fun h => c1 h.1)]
  exact uT rfl rfl
theorem aNg {p q : Rat} (h1 : BdQ 3 p) (h2 : BdQ 3 q) : axJ (ra p, ra q, ()) = some (ra (p + q), ()) := aaI (enc := fun x : Rat × Rat => (ra x.1, ra x.2, ())) (p, q) ⟨h1, h2⟩ (fun b hb => aGM hb)
theorem aPL (x x' : RaT) (y) (h : axJ (x, x', ()) = some y) : (aKH x x').toO = some y := by
 obtain ⟨⟨p, q⟩, hp, hx, rfl⟩ := aaD h
 obtain ⟨rfl, hx2⟩ := Prod.mk.inj hx; obtain ⟨rfl, -⟩ := Prod.mk.inj hx2; dsimp only
 obtain ⟨⟨p1, p2⟩, q1, q2⟩ := hp
 dsimp only at p1 p2 q1 q2
 have t1 := aaB p1 (aaP q2)
 have t2 := aaB q1 (aaP p2)
 have t3 := aaB (aaP p2) (aaP q2)
 refine uC _ (ajO (aaH p1 (by omega)) (aaP (aaH q2 (by omega)))) ?_
 refine uC _ (ajO (aaH q1 (by omega)) (aaP (aaH p2 (by omega)))) ?_
 refine uC _ (aqK (aaH t1 (by omega)) (aaH t2 (by omega))) ?_
 refine uC _ (ajO (a := (p.den : Int)) (b := (q.den : Int)) (aaP (aaH p2 (by omega))) (aaP (aaH q2 (by omega)))) ?_
 have hd : (p.den : Int) * (q.den : Int) ≠ 0 := by
  have := Nat.mul_ne_zero p.den_nz q.den_nz
  rw [← Int.natCast_mul]; omega
 refine uC _ (axS (aaH (aaE t1 t2) (by omega)) (aaH t3 (by omega)) hd) ?_
 have : Rat.divInt (p.num * q.den + q.num * p.den) ((p.den : Int) * q.den) = p + q := by
  rw [← Int.natCast_mul, Rat.divInt_ofNat, Rat.add_def']
 rw [this]; rfl
theorem aJO {p q : Rat} (h1 : BdQ 3 p) (h2 : BdQ 3 q) : amU (ra p, ra q, ()) = some (aoK p q, ()) := aaI (enc := fun x : Rat × Rat => (ra x.1, ra x.2, ())) (p, q) ⟨h1, h2⟩ (fun b hb => aGM hb)
theorem aCH (x x' : RaT) (y) (h : amU (x, x', ()) = some y) : (azA x x').toO = some y := by
 obtain ⟨⟨p, q⟩, hp, hx, rfl⟩ := aaD h
 obtain ⟨rfl, hx2⟩ := Prod.mk.inj hx; obtain ⟨rfl, -⟩ := Prod.mk.inj hx2; dsimp only
 obtain ⟨⟨p1, p2⟩, q1, q2⟩ := hp
 dsimp only at p1 p2 q1 q2
 refine uC _ (ajO (aaH p1 (by omega)) (aaP (aaH q2 (by omega)))) ?_
 refine uC _ (ajO (aaH q1 (by omega)) (aaP (aaH p2 (by omega)))) ?_
 refine uC _ (aJQ (aaH (aaB p1 (aaP q2)) (by omega)) (aaH (aaB q1 (aaP p2)) (by omega))) ?_
 rw [aK1, Int.sub_eq_add_neg]; rfl
theorem aKI (n d : Int) (y) (h : axK (n, d, ()) = some y) : (aEX n d).toO = some y := by
 unfold axK alY at h
 split at h
 case isFalse => cases h
 case isTrue hp =>
 obtain ⟨i1, i2⟩ := hp
 dsimp only at i1 i2 h
 unfold ofQ at h
 unfold aEX
 by_cases c : d = 0
 ·rw [if_pos c] at h
  exact uT (by rw [c]; rfl) h
 ·rw [if_neg c] at h
  refine uF (by simpa using c) (uC _ (aJN i1 i2 c) (uC _ (aHy (aJA c (aaH (aDv i1) (by omega)) (aaH (aDv i2) (by omega)))) h))
theorem aQE (a b : FxT) (y) (h : aHw (a, b, ()) = some y) : (aNT a b).toO = some y := by
 unfold aHw at h
 split at h
 case isFalse => cases h
 case isTrue hp =>
 obtain ⟨s1, s2⟩ := hp
 unfold adO aNo at h
 dsimp only at h s1 s2
 refine uC _ (am1 s1) ?_
 cases ha : rdF a with
 | none => simp only [ha] at h; exact uT rfl h
 | some p =>
  refine uF rfl (uC _ (am1 s2) ?_)
  cases hb : rdF b with
  | none => simp only [ha, hb] at h; exact uT rfl h
  | some q =>
   simp only [ha, hb] at h
   refine uF rfl ?_
   have b1 := agD ha
   have b2 := agD hb
   obtain ⟨f1, rfl⟩ := agP ha
   obtain ⟨f2, rfl⟩ := agP hb
   refine uC _ (aB8 f1) (uC _ (aB8 f2) ?_)
   exact uC _ (aNg (aeE b1 (by omega)) (aeE b2 (by omega))) (uC _ (aHy (aeE (aGl b1 b2) (by omega))) h)
theorem aH9 (a b : FxT) (y) (h : amV (a, b, ()) = some y) : (aGP a b).toO = some y := by
 unfold amV at h
 split at h
 case isFalse => cases h
 case isTrue hp =>
 obtain ⟨s1, s2⟩ := hp
 unfold afX at h
 dsimp only at h s1 s2
 refine uC _ (am1 s1) ?_
 cases ha : rdF a with
 | none => simp only [ha] at h; exact uT rfl h
 | some p =>
  refine uF rfl (uC _ (am1 s2) ?_)
  cases hb : rdF b with
  | none => simp only [ha, hb] at h; exact uT rfl h
  | some q =>
   simp only [ha, hb] at h
   refine uF rfl ?_
   have b1 := agD ha
   have b2 := agD hb
   obtain ⟨f1, rfl⟩ := agP ha
   obtain ⟨f2, rfl⟩ := agP hb
   exact uC _ (aB8 f1) (uC _ (aB8 f2) (uC _ (aJO (aeE b1 (by omega)) (aeE b2 (by omega))) h))
set_option maxRecDepth 100000
open Go Go.Vg Go.Proofs
noncomputable section
def aFK : LTab := [(177, 8186, 49153, { tag := 0, ι := (Int) × (List Int) × (List Int) × Unit, vs := .dat (.s 12) (Ty.int IntKind.i64) <| .row 41 (Ty.int IntKind.u32) <| .row 26 (Ty.int IntKind.u32) <| .nil, ks := [4, 11, 10, 9, 8, 5], kh := [41, 26], fresh := 0 }), (209, 63, 95232, { tag := 1, ι := (Int) × Unit, vs := .dat (.s 8) (Ty.int IntKind.u64) <| .nil, ks := [5, 4, 0, 1], kh := [41, 26], fresh := 0 }), (209, 252, 95232, { tag := 2, ι := (Int) × (Int) × Unit, vs := .dat (.s 9) (Ty.int IntKind.u64) <| .dat (.s 8) (Ty.int IntKind.u64) <| .nil, ks := [6, 5, 4, 0, 1], kh := [41, 26], fresh := 0 }), (209, 2042, 100352, { tag := 3, ι := (Int) × (Int) × (Int) × (List Int) × Unit, vs := .dat (.s 77) (Ty.int IntKind.i64) <| .dat (.s 11) (Ty.int IntKind.i64) <| .dat (.s 10) (Ty.int IntKind.u64) <| .row 26 (Ty.int IntKind.u32) <| .nil, ks := [76, 75, 8, 5, 4, 0, 1], kh := [41, 26], fresh := 0 }), (209, 65454, 118784, { tag := 4, ι := (Int) × (Int) × (List Int) × Unit, vs := .dat (.s 125) (Ty.int IntKind.i64) <| .dat (.s 15) (Ty.int IntKind.u32) <| .row 26 (Ty.int IntKind.u32) <| .nil, ks := [124, 123, 8, 5, 4, 0], kh := [41, 26], fresh := 0 })]
def ahE (i1 : (Int) × (Int) × Unit) (y3 : List Int × Unit) (i : Int × List Int × List Int × Unit) : TT (((Int) × (Int) × Unit) ⊕ (((Int) × Unit) ⊕ (((Int) × (List Int) × (List Int) × Unit) ⊕ (List Int × List Int × Unit)))) :=
 .ite (decide (abO (i1.1 + abO (gi y3.1 (w64 (len y3.1 - 1)) 0)) ≥ 1000000000))
 (.tt <| .lt (abO (i1.2.1 - 1) : Int) fun z5 => .triv (Qq z5 ∧ Qq (len y3.1) ∧ Qq (0 : Int) ∧ (Qq 26 ∧ Qq (0 + Int.toNat i.1) ∧ Qq (Int.toNat (w64 (w64 (i.1 + len y3.1) + 1)) - Int.toNat i.1) ∧ Qq true) ∧ Qq y3.1 ∧ True) tv <| .triv ((Qq (189 : TypeId) ∧ Qq i.2.1) ∧ Qq true ∧ (Qq (189 : TypeId) ∧ Qq i.2.2.1) ∧ Qq true ∧ True) tv <| .ok (.inr (.inl ((z5, ())))))
 (.tt <| .lt (abO (i1.1 + abO (gi y3.1 (w64 (len y3.1 - 1)) 0)) : Int) fun z6 => .lt (abO (i1.2.1 - 1) : Int) fun z7 => .triv (Qq z7 ∧ Qq z6 ∧ Qq (abO (gi y3.1 (w64 (len y3.1 - 1)) 0) : Int) ∧ Qq (len y3.1) ∧ Qq (0 : Int) ∧ (Qq 26 ∧ Qq (0 + Int.toNat i.1) ∧ Qq (Int.toNat (w64 (w64 (i.1 + len y3.1) + 1)) - Int.toNat i.1) ∧ Qq true) ∧ Qq y3.1 ∧ True) tv <| .triv ((Qq (189 : TypeId) ∧ Qq i.2.1) ∧ Qq true ∧ (Qq (189 : TypeId) ∧ Qq i.2.2.1) ∧ Qq true ∧ True) tv <| .ok (.inl ((z6, z7, ()))))
def agI (m : List Int) (o : List Int) (y : Int × Unit) (y3 : List Int × Unit) (y4 : List Int × Unit) (i : Int × List Int × List Int × Unit) (i1 : (Int) × (Int) × Unit) : TT (((Int) × (Int) × Unit) ⊕ (((Int) × Unit) ⊕ (((Int) × (List Int) × (List Int) × Unit) ⊕ (List Int × List Int × Unit)))) :=
 .ite (decide (i1.2.1 ≥ 1000000000))
 (ahE i1 y3 i)
 (.need (inb (w64 (len y3.1 - 2)) (len y3.1)) <| .need (inb (w64 (len y3.1 - 2)) (↑(Int.toNat (w64 (w64 (i.1 + len y3.1) + 1)) - Int.toNat i.1) : Int)) <| .ite (decide (abO (i1.2.1 * abO (gi y3.1 (w64 (len y3.1 - 2)) 0)) > abO (abO (i1.1 * 1000000000) + abO (List.getD i.2.2.1 (0 + Int.toNat i.1 + Int.toNat (w64 (len y3.1 - 2))) 0))))
  (ahE i1 y3 i)
  (.tt <| .lt (i1.2.1 : Int) fun z11 => .triv (Qq z11 ∧ Qq (len y3.1) ∧ Qq (0 : Int) ∧ (Qq 26 ∧ Qq (0 + Int.toNat i.1) ∧ Qq (Int.toNat (w64 (w64 (i.1 + len y3.1) + 1)) - Int.toNat i.1) ∧ Qq true) ∧ Qq y3.1 ∧ True) tv <| .triv ((Qq (189 : TypeId) ∧ Qq i.2.1) ∧ Qq true ∧ (Qq (189 : TypeId) ∧ Qq i.2.2.1) ∧ Qq true ∧ True) tv <| .ok (.inr (.inl ((z11, ()))))))
def ahZ (m : List Int) (o : List Int) (y : Int × Unit) (y3 : List Int × Unit) (y4 : List Int × Unit) (i : Int × List Int × List Int × Unit) (j : Int × Unit) (i2 : Int × Int × Int × List Int × Unit) (i3 : (Int) × (Int) × (List Int) × Unit) : TT (((Int) × (Int) × (List Int) × Unit) ⊕ (((Int) × (Int) × (Int) × (List Int) × Unit) ⊕ (((Int) × (List Int) × (List Int) × Unit) ⊕ (List Int × List Int × Unit)))) :=
 .ite (decide (i3.1 < len y3.1))
 (.need (inb i3.1 (len y3.1)) <| .need (inb i3.1 (↑(Int.toNat (w64 (w64 (i.1 + len y3.1) + 1)) - Int.toNat i.1) : Int)) <| .ite (decide (adS (adS (List.getD i3.2.2.1 (0 + Int.toNat i.1 + Int.toNat i3.1) 0 + gi y3.1 i3.1 0) + i3.2.1) ≥ 1000000000))
 (.need (inb i3.1 (↑(Int.toNat (w64 (w64 (i.1 + len y3.1) + 1)) - Int.toNat i.1) : Int)) <| .tt <| .lt (w64 (i3.1 + 1) : Int) fun z20 => .lt (List.set i3.2.2.1 (0 + Int.toNat i.1 + Int.toNat i3.1) (adS (adS (adS (List.getD i3.2.2.1 (0 + Int.toNat i.1 + Int.toNat i3.1) 0 + gi y3.1 i3.1 0) + i3.2.1) - 1000000000)) : List Int) fun z21 => .triv (Qq (1 : Int) ∧ Qq z20 ∧ Qq (len y3.1) ∧ Qq y3.1 ∧ Qq (abO (j.1 - 1)) ∧ Qq (len y3.1) ∧ Qq (0 : Int) ∧ (Qq 26 ∧ Qq (0 + Int.toNat i.1) ∧ Qq (Int.toNat (w64 (w64 (i.1 + len y3.1) + 1)) - Int.toNat i.1) ∧ Qq true) ∧ True) tv <| .triv ((Qq (189 : TypeId) ∧ Qq i.2.1) ∧ Qq true ∧ (Qq (189 : TypeId) ∧ Qq z21) ∧ Qq true ∧ True) tv <| .ok (.inl ((z20, 1, z21, ()))))
 (.need (inb i3.1 (↑(Int.toNat (w64 (w64 (i.1 + len y3.1) + 1)) - Int.toNat i.1) : Int)) <| .tt <| .lt (w64 (i3.1 + 1) : Int) fun z22 => .lt (List.set i3.2.2.1 (0 + Int.toNat i.1 + Int.toNat i3.1) (adS (adS (List.getD i3.2.2.1 (0 + Int.toNat i.1 + Int.toNat i3.1) 0 + gi y3.1 i3.1 0) + i3.2.1)) : List Int) fun z23 => .triv (Qq (0 : Int) ∧ Qq z22 ∧ Qq (len y3.1) ∧ Qq y3.1 ∧ Qq (abO (j.1 - 1)) ∧ Qq (len y3.1) ∧ Qq (0 : Int) ∧ (Qq 26 ∧ Qq (0 + Int.toNat i.1) ∧ Qq (Int.toNat (w64 (w64 (i.1 + len y3.1) + 1)) - Int.toNat i.1) ∧ Qq true) ∧ True) tv <| .triv ((Qq (189 : TypeId) ∧ Qq i.2.1) ∧ Qq true ∧ (Qq (189 : TypeId) ∧ Qq z23) ∧ Qq true ∧ True) tv <| .ok (.inl ((z22, 0, z23, ())))))
 (.need (inb (len y3.1) (↑(Int.toNat (w64 (w64 (i.1 + len y3.1) + 1)) - Int.toNat i.1) : Int)) <| .need (inb i.1 (↑(Int.toNat (w64 (w64 (len m - len y3.1) + 1))) : Int)) <| .tt <| .lt (w64 (i.1 - 1) : Int) fun z24 => .lt (List.set i.2.1 (0 + Int.toNat i.1) (adS (abO (j.1 - 1))) : List Int) fun z25 => .lt (List.set i3.2.2.1 (0 + Int.toNat i.1 + Int.toNat (len y3.1)) 0 : List Int) fun z26 => .triv (Qq z24 ∧ (Qq 41 ∧ Qq 0 ∧ Qq (Int.toNat (w64 (w64 (len m - len y3.1) + 1))) ∧ Qq true) ∧ Qq (len y3.1) ∧ (Qq 26 ∧ Qq 0 ∧ Qq (Int.toNat (w64 (len m + 1))) ∧ Qq true) ∧ Qq y3.1 ∧ Qq (adS (Int.tdiv 1000000000 (adS (gi o (w64 (len o - 1)) 0 + 1))) : Int) ∧ True ∧ True) tv <| .triv ((Qq (189 : TypeId) ∧ Qq z25) ∧ Qq true ∧ (Qq (189 : TypeId) ∧ Qq z26) ∧ Qq true ∧ True) tv <| .ok (.inr (.inr (.inl ((z24, z25, z26, ()))))))
def agH (m : List Int) (o : List Int) (y : Int × Unit) (y3 : List Int × Unit) (y4 : List Int × Unit) (i : Int × List Int × List Int × Unit) (j : Int × Unit) (i2 : (Int) × (Int) × (Int) × (List Int) × Unit) : TT (((Int) × (Int) × (Int) × (List Int) × Unit) ⊕ (((Int) × (List Int) × (List Int) × Unit) ⊕ (List Int × List Int × Unit))) :=
 .ite (decide (i2.1 < len y3.1))
 (.need (inb i2.1 (len y3.1)) <| .need (inb i2.1 (↑(Int.toNat (w64 (w64 (i.1 + len y3.1) + 1)) - Int.toNat i.1) : Int)) <| .triv (asT Int 1000000000 ≠ 0) (by decide) <| .triv (asT Int 1000000000 ≠ 0) (by decide) <| .ite (decide (w64 (w64 (w64 (List.getD i2.2.2.2.1 (0 + Int.toNat i.1 + Int.toNat i2.1) 0) - i2.2.1) - w64 (Int.tmod (abO (i2.2.2.1 + abO (j.1 * abO (gi y3.1 i2.1 0)))) 1000000000)) < 0))
 (.need (inb i2.1 (↑(Int.toNat (w64 (w64 (i.1 + len y3.1) + 1)) - Int.toNat i.1) : Int)) <| .tt <| .lt (w64 (i2.1 + 1) : Int) fun z13 => .lt (abO (Int.tdiv (abO (i2.2.2.1 + abO (j.1 * abO (gi y3.1 i2.1 0)))) 1000000000) : Int) fun z14 => .lt (List.set i2.2.2.2.1 (0 + Int.toNat i.1 + Int.toNat i2.1) (adS (w64 (w64 (w64 (w64 (List.getD i2.2.2.2.1 (0 + Int.toNat i.1 + Int.toNat i2.1) 0) - i2.2.1) - w64 (Int.tmod (abO (i2.2.2.1 + abO (j.1 * abO (gi y3.1 i2.1 0)))) 1000000000)) + 1000000000))) : List Int) fun z15 => .triv (Qq z14 ∧ Qq (1 : Int) ∧ Qq z13 ∧ Qq (len y3.1) ∧ Qq y3.1 ∧ Qq j.1 ∧ Qq (len y3.1) ∧ Qq (0 : Int) ∧ (Qq 26 ∧ Qq (0 + Int.toNat i.1) ∧ Qq (Int.toNat (w64 (w64 (i.1 + len y3.1) + 1)) - Int.toNat i.1) ∧ Qq true) ∧ Qq y3.1 ∧ True) tv <| .triv ((Qq (189 : TypeId) ∧ Qq i.2.1) ∧ Qq true ∧ (Qq (189 : TypeId) ∧ Qq z15) ∧ Qq true ∧ True) tv <| .ok (.inl ((z13, 1, z14, z15, ()))))
 (.need (inb i2.1 (↑(Int.toNat (w64 (w64 (i.1 + len y3.1) + 1)) - Int.toNat i.1) : Int)) <| .tt <| .lt (w64 (i2.1 + 1) : Int) fun z16 => .lt (abO (Int.tdiv (abO (i2.2.2.1 + abO (j.1 * abO (gi y3.1 i2.1 0)))) 1000000000) : Int) fun z17 => .lt (List.set i2.2.2.2.1 (0 + Int.toNat i.1 + Int.toNat i2.1) (adS (w64 (w64 (w64 (List.getD i2.2.2.2.1 (0 + Int.toNat i.1 + Int.toNat i2.1) 0) - i2.2.1) - w64 (Int.tmod (abO (i2.2.2.1 + abO (j.1 * abO (gi y3.1 i2.1 0)))) 1000000000)))) : List Int) fun z18 => .triv (Qq z17 ∧ Qq (0 : Int) ∧ Qq z16 ∧ Qq (len y3.1) ∧ Qq y3.1 ∧ Qq j.1 ∧ Qq (len y3.1) ∧ Qq (0 : Int) ∧ (Qq 26 ∧ Qq (0 + Int.toNat i.1) ∧ Qq (Int.toNat (w64 (w64 (i.1 + len y3.1) + 1)) - Int.toNat i.1) ∧ Qq true) ∧ Qq y3.1 ∧ True) tv <| .triv ((Qq (189 : TypeId) ∧ Qq i.2.1) ∧ Qq true ∧ (Qq (189 : TypeId) ∧ Qq z18) ∧ Qq true ∧ True) tv <| .ok (.inl ((z16, 0, z17, z18, ())))))
 (.need (inb (len y3.1) (↑(Int.toNat (w64 (w64 (i.1 + len y3.1) + 1)) - Int.toNat i.1) : Int)) <| .ite (decide (w64 (w64 (List.getD i2.2.2.2.1 (0 + Int.toNat i.1 + Int.toNat (len y3.1)) 0) - i2.2.1) < w64 i2.2.2.1))
 (.loop 4 (.tt <| .lt (i2.2.2.2.1 : List Int) fun z19 => .triv (Qq (0 : Int) ∧ Qq (0 : Int) ∧ Qq (len y3.1) ∧ Qq y3.1 ∧ Qq (abO (j.1 - 1)) ∧ Qq (len y3.1) ∧ Qq (0 : Int) ∧ (Qq 26 ∧ Qq (0 + Int.toNat i.1) ∧ Qq (Int.toNat (w64 (w64 (i.1 + len y3.1) + 1)) - Int.toNat i.1) ∧ Qq true) ∧ True) tv <| .triv ((Qq (189 : TypeId) ∧ Qq i.2.1) ∧ Qq true ∧ (Qq (189 : TypeId) ∧ Qq z19) ∧ Qq true ∧ True) tv <| .ok ((0, 0, z19, ()))) (ahZ m o y y3 y4 i j i2))
 (.need (inb (len y3.1) (↑(Int.toNat (w64 (w64 (i.1 + len y3.1) + 1)) - Int.toNat i.1) : Int)) <| .need (inb i.1 (↑(Int.toNat (w64 (w64 (len m - len y3.1) + 1))) : Int)) <| .tt <| .lt (w64 (i.1 - 1) : Int) fun z27 => .lt (List.set i.2.1 (0 + Int.toNat i.1) (adS j.1) : List Int) fun z28 => .lt (List.set i2.2.2.2.1 (0 + Int.toNat i.1 + Int.toNat (len y3.1)) 0 : List Int) fun z29 => .triv (Qq z27 ∧ (Qq 41 ∧ Qq 0 ∧ Qq (Int.toNat (w64 (w64 (len m - len y3.1) + 1))) ∧ Qq true) ∧ Qq (len y3.1) ∧ (Qq 26 ∧ Qq 0 ∧ Qq (Int.toNat (w64 (len m + 1))) ∧ Qq true) ∧ Qq y3.1 ∧ Qq (adS (Int.tdiv 1000000000 (adS (gi o (w64 (len o - 1)) 0 + 1))) : Int) ∧ True ∧ True) tv <| .triv ((Qq (189 : TypeId) ∧ Qq z28) ∧ Qq true ∧ (Qq (189 : TypeId) ∧ Qq z29) ∧ Qq true ∧ True) tv <| .ok (.inr (.inl ((z27, z28, z29, ()))))))
def as8 (m : List Int) (o : List Int) (y : Int × Unit) (y3 : List Int × Unit) (y4 : List Int × Unit) (i : Int × List Int × List Int × Unit) (j : (Int) × Unit) : TT (((Int) × (List Int) × (List Int) × Unit) ⊕ (List Int × List Int × Unit)) :=
 .loop 3 (.tt <| .lt (i.2.2.1 : List Int) fun z12 => .triv (Qq (0 : Int) ∧ Qq (0 : Int) ∧ Qq (0 : Int) ∧ Qq (len y3.1) ∧ Qq y3.1 ∧ Qq j.1 ∧ Qq (len y3.1) ∧ Qq (0 : Int) ∧ (Qq 26 ∧ Qq (0 + Int.toNat i.1) ∧ Qq (Int.toNat (w64 (w64 (i.1 + len y3.1) + 1)) - Int.toNat i.1) ∧ Qq true) ∧ Qq y3.1 ∧ True) tv <| .triv ((Qq (189 : TypeId) ∧ Qq i.2.1) ∧ Qq true ∧ (Qq (189 : TypeId) ∧ Qq z12) ∧ Qq true ∧ True) tv <| .ok ((0, 0, 0, z12, ()))) (agH m o y y3 y4 i j)
def ah0 (m : List Int) (o : List Int) (y : Int × Unit) (y3 : List Int × Unit) (y4 : List Int × Unit) (i : (Int) × (List Int) × (List Int) × Unit) : TT (((Int) × (List Int) × (List Int) × Unit) ⊕ (List Int × List Int × Unit)) :=
 .ite (decide (i.1 ≥ 0))
 (.need (inc (w64 (w64 (i.1 + len y3.1) + 1)) (↑(Int.toNat (w64 (len m + 1))) : Int)) <| .need (inc i.1 (↑(Int.toNat (w64 (w64 (i.1 + len y3.1) + 1))) : Int)) <| .tt <| .tt <| .need (inb (w64 (len y3.1 - 1)) (len y3.1)) <| .need (inb (len y3.1) (↑(Int.toNat (w64 (w64 (i.1 + len y3.1) + 1)) - Int.toNat i.1) : Int)) <| .need (inb (w64 (len y3.1 - 1)) (↑(Int.toNat (w64 (w64 (i.1 + len y3.1) + 1)) - Int.toNat i.1) : Int)) <| .need (abO (gi y3.1 (w64 (len y3.1 - 1)) 0) ≠ 0) <| .need (abO (gi y3.1 (w64 (len y3.1 - 1)) 0) ≠ 0) <| .join 1 (ι := (Int) × Unit) (.loop 2 (.tt <| .lt (Int.tmod (abO (abO (abO (List.getD i.2.2.1 (0 + Int.toNat i.1 + Int.toNat (len y3.1)) 0) * 1000000000) + abO (List.getD i.2.2.1 (0 + Int.toNat i.1 + Int.toNat (w64 (len y3.1 - 1))) 0))) (abO (gi y3.1 (w64 (len y3.1 - 1)) 0)) : Int) fun z3 => .lt (abO (Int.tdiv (abO (abO (abO (List.getD i.2.2.1 (0 + Int.toNat i.1 + Int.toNat (len y3.1)) 0) * 1000000000) + abO (List.getD i.2.2.1 (0 + Int.toNat i.1 + Int.toNat (w64 (len y3.1 - 1))) 0))) (abO (gi y3.1 (w64 (len y3.1 - 1)) 0))) : Int) fun z4 => .triv (Qq z4 ∧ Qq z3 ∧ Qq (abO (gi y3.1 (w64 (len y3.1 - 1)) 0) : Int) ∧ Qq (len y3.1) ∧ Qq (0 : Int) ∧ (Qq 26 ∧ Qq (0 + Int.toNat i.1) ∧ Qq (Int.toNat (w64 (w64 (i.1 + len y3.1) + 1)) - Int.toNat i.1) ∧ Qq true) ∧ Qq y3.1 ∧ True) tv <| .triv ((Qq (189 : TypeId) ∧ Qq i.2.1) ∧ Qq true ∧ (Qq (189 : TypeId) ∧ Qq i.2.2.1) ∧ Qq true ∧ True) tv <| .ok ((z3, z4, ()))) (agI m o y y3 y4 i)) (as8 m o y y3 y4 i))
 (.need (inc (len y3.1) (↑(Int.toNat (w64 (len m + 1))) : Int)) <| .call (acF (List.take (Int.toNat (len y3.1)) i.2.2.1, ())) Dd0 fun y5 =>
 .call (ajG (y5.1, adS (Int.tdiv 1000000000 (adS (gi o (w64 (len o - 1)) 0 + 1))), ())) aRK fun y6 =>
 .call (acF (List.take (Int.toNat (w64 (w64 (len m - len y3.1) + 1))) i.2.1, ())) Dd0 fun y7 =>
 .ok (.inr ((y7.1, y6.1, ()))))
def aj2 (m : List Int) (o : List Int) : TT (List Int × List Int × Unit) :=
 .call (adM (m, o, ())) Dd6 fun y =>
 .ite (decide (y.1 < 0))
 (.ok (([], m, ())))
 (.ite (len o == 1)
 (.need (asT Int 0 ≤ 0 ∧ 0 < len o) <| .call (ajG (m, gi o 0 0, ())) aRK fun y1 =>
 .call (abM (abO y1.2.1, ())) Dd0 fun y2 =>
 .ok ((y1.1, y2.1, ())))
 (.need (inb (w64 (len o - 1)) (len o)) <| .need (adS (gi o (w64 (len o - 1)) 0 + 1) ≠ 0) <| .call (acC (o, [adS (Int.tdiv 1000000000 (adS (gi o (w64 (len o - 1)) 0 + 1)))], ())) Dd0 fun y3 =>
 .need (0 ≤ w64 (len m + 1) ∧ w64 (len m + 1) ≤ w64 (len m + 1) ∧ w64 (len m + 1) * (↑4 : Int) ≤ 140737488355328) <| .call (acC (m, [adS (Int.tdiv 1000000000 (adS (gi o (w64 (len o - 1)) 0 + 1)))], ())) Dd0 fun y4 =>
 .need (0 ≤ w64 (w64 (len m - len y3.1) + 1) ∧ w64 (w64 (len m - len y3.1) + 1) ≤ w64 (w64 (len m - len y3.1) + 1) ∧ w64 (w64 (len m - len y3.1) + 1) * (↑4 : Int) ≤ 140737488355328) <| .loop 0 (.tt <| .lt (w64 (len m - len y3.1) : Int) fun z => .lt (List.replicate (Int.toNat (w64 (z + 1))) 0 : List Int) fun z1 => .lt (over (List.replicate (Int.toNat (w64 (len m + 1))) 0) 0 (List.take (Int.toNat (w64 (len m + 1))) y4.1) : List Int) fun z2 => .triv (Qq z ∧ (Qq 41 ∧ Qq 0 ∧ Qq (Int.toNat (w64 (z + 1))) ∧ Qq true) ∧ Qq (len y3.1) ∧ (Qq 26 ∧ Qq 0 ∧ Qq (Int.toNat (w64 (len m + 1))) ∧ Qq true) ∧ Qq y3.1 ∧ Qq (adS (Int.tdiv 1000000000 (adS (gi o (w64 (len o - 1)) 0 + 1))) : Int) ∧ True ∧ True) tv <| .triv ((Qq (189 : TypeId) ∧ Qq z1) ∧ Qq true ∧ (Qq (189 : TypeId) ∧ Qq z2) ∧ Qq true ∧ True) tv <| .ok ((z, z1, z2, ()))) (ah0 m o y y3 y4)))
def aEB : LTab := [(247, 8186, 49153, { tag := 0, ι := (Int) × (List Int) × (List Int) × Unit, vs := .dat (.s 12) (Ty.int IntKind.i64) <| .row 41 (Ty.int IntKind.u32) <| .row 26 (Ty.int IntKind.u32) <| .nil, ks := [4, 11, 10, 9, 8, 5], kh := [41, 26], fresh := 0 }), (269, 63, 95232, { tag := 1, ι := (Int) × Unit, vs := .dat (.s 8) (Ty.int IntKind.u64) <| .nil, ks := [5, 4, 0, 1], kh := [41, 26], fresh := 0 }), (269, 252, 95232, { tag := 2, ι := (Int) × (Int) × Unit, vs := .dat (.s 9) (Ty.int IntKind.u64) <| .dat (.s 8) (Ty.int IntKind.u64) <| .nil, ks := [6, 5, 4, 0, 1], kh := [41, 26], fresh := 0 }), (269, 2042, 100352, { tag := 3, ι := (Int) × (Int) × (Int) × (List Int) × Unit, vs := .dat (.s 77) (Ty.int IntKind.i64) <| .dat (.s 11) (Ty.int IntKind.i64) <| .dat (.s 10) (Ty.int IntKind.u64) <| .row 26 (Ty.int IntKind.u32) <| .nil, ks := [76, 75, 8, 5, 4, 0, 1], kh := [41, 26], fresh := 0 }), (269, 65454, 118784, { tag := 4, ι := (Int) × (Int) × (List Int) × Unit, vs := .dat (.s 125) (Ty.int IntKind.i64) <| .dat (.s 15) (Ty.int IntKind.u32) <| .row 26 (Ty.int IntKind.u32) <| .nil, ks := [124, 123, 8, 5, 4, 0], kh := [41, 26], fresh := 0 })]
end
theorem aMh {H v1 V P U Q : Int} (hP : 0 < P) (h1 : 0 < v1) (hV : v1 * P ≤ V) (hU : U < (H + 1) * P) (hQ : Q * V ≤ U) (hQ0 : 0 ≤ Q) : Q ≤ H / v1 := by
 rw [Int.le_ediv_iff_mul_le h1]
 have a1 : Q * (v1 * P) ≤ Q * V := Int.mul_le_mul_of_nonneg_left hV hQ0
 have a2 : Q * v1 * P < (H + 1) * P := by rw [Int.mul_assoc]; omega
 have := Int.lt_of_mul_lt_mul_right a2 (by omega)
 omega
theorem aOQ {q r H v1 v2 V P U Q u2 B : Int} (hV0 : 0 ≤ V) (hP : 0 < P) (hinv : q * v1 + r = H) (hV : (v1 * B + v2) * P ≤ V) (hU : U < (H * B + u2 + 1) * P) (hQ : Q * V ≤ U) (hq : 0 ≤ q) (h : q * v2 > r * B + u2) : Q ≤ q - 1 := by
 have a1 : H * B + u2 + 1 ≤ q * (v1 * B + v2) := by
  have : q * (v1 * B + v2) = (q * v1 + r) * B - r * B + q * v2 := by grind
  rw [this, hinv]; omega
 have a2 : (H * B + u2 + 1) * P ≤ (q * (v1 * B + v2)) * P := Int.mul_le_mul_of_nonneg_right a1 (by omega)
 have a3 : q * ((v1 * B + v2) * P) ≤ q * V := Int.mul_le_mul_of_nonneg_left hV hq
 rw [Int.mul_assoc] at a2
 have a4 : Q * V < q * V := by omega
 have := Int.lt_of_mul_lt_mul_right a4 hV0
 omega
theorem aHh {q r H v1 v2 V V3 P U u2 B Q : Int} (hP : 0 < P) (hinv : q * v1 + r = H) (hVe : V = (v1 * B + v2) * P + V3) (hV3 : V3 < P) (hV30 : 0 ≤ V3) (hU : (H * B + u2) * P ≤ U) (hq : 0 ≤ q) (hqB : q < B) (hVB : B * P ≤ V) (hUQ : U < (Q + 1) * V) (h : q * v2 ≤ r * B + u2) : q ≤ Q + 1 := by
 have a1 : q * (v1 * B + v2) ≤ H * B + u2 := by
  have : q * (v1 * B + v2) = (q * v1 + r) * B - r * B + q * v2 := by grind
  rw [this, hinv]; omega
 have a2 : (q * (v1 * B + v2)) * P ≤ (H * B + u2) * P := Int.mul_le_mul_of_nonneg_right a1 (by omega)
 have a3 : q * V3 ≤ B * P := by
  have b1 : q * V3 ≤ q * P := Int.mul_le_mul_of_nonneg_left (by omega) hq
  have b2 : q * P ≤ B * P := Int.mul_le_mul_of_nonneg_right (by omega) (by omega)
  omega
 have a4 : q * V = (q * (v1 * B + v2)) * P + q * V3 := by rw [hVe]; grind
 have a5 : q * V < (Q + 2) * V := by
  have : (Q + 2) * V = (Q + 1) * V + V := by grind
  omega
 have hVpos : 0 < V := by
  have : 0 < B * P := Int.mul_pos (by omega) hP
  omega
 have := Int.lt_of_mul_lt_mul_right a5 (by omega)
 omega
theorem aFM {u w : List Int} {j n : Nat} {Q Vv e U : Int} (hlen : w.length = u.length) (hjn : j + n < u.length) (hw : Dg 1000000000 w)
  (htk : w.take j = u.take j) (hdr : w.drop (j + n) = u.drop (j + n)) (hz : V 1000000000 (u.drop (j + n + 1)) = 0) (hU : U = V 1000000000 (u.drop j)) (hX0 : 0 ≤ U - Q * Vv) (hX1 : U - Q * Vv < 1000000000 ^ n)
  (hV : V 1000000000 w = V 1000000000 u - 1000000000 ^ j * (Q * Vv) + 1000000000 ^ (j + n) * e) :
  V 1000000000 (w.set (j + n) 0) = V 1000000000 u - 1000000000 ^ j * (Q * Vv) ∧ V 1000000000 ((w.set (j + n) 0).drop j) = U - Q * Vv ∧ e = u.getD (j + n) 0 := by
 have sw := ab6 1000000000 w j
 have su := ab6 1000000000 u j
 rw [htk] at sw
 have hPj : (0 : Int) < 1000000000 ^ j := Int.pow_pos (by omega)
 have hPn : (0 : Int) < 1000000000 ^ n := Int.pow_pos (by omega)
 have e1 : V 1000000000 (w.drop j) = U - Q * Vv + 1000000000 ^ n * e := by
  have : 1000000000 ^ j * V 1000000000 (w.drop j) = 1000000000 ^ j * (U - Q * Vv + 1000000000 ^ n * e) := by
   rw [Int.pow_add] at hV
   rw [hU]
   have : (1000000000 : Int) ^ j * (V 1000000000 (u.drop j) - Q * Vv + 1000000000 ^ n * e) = 1000000000 ^ j * V 1000000000 (u.drop j) - 1000000000 ^ j * (Q * Vv) + 1000000000 ^ j * 1000000000 ^ n * e := by grind
   omega
  exact Int.eq_of_mul_eq_mul_left (by omega) this
 have s2 := ab6 1000000000 (w.drop j) n
 rw [List.drop_drop, hdr] at s2
 have s3 := aaU 1000000000 u (j + n)
 rw [hz, Int.mul_zero, Int.add_zero] at s3
 rw [s3] at s2
 have l1 := ac3 (by omega) (acK hw j) n
 have l2 := aaT (by omega) (ab5 (acK hw j) n)
 have hget : w.getD (j + n) 0 = u.getD (j + n) 0 := by
  have h1 : (w.drop (j + n)).getD 0 0 = (u.drop (j + n)).getD 0 0 := by rw [hdr]
  simpa [List.getD_eq_getElem?_getD, List.getElem?_drop] using h1
 have he : e = u.getD (j + n) 0 := by
  have h1 : 1000000000 ^ n * (u.getD (j + n) 0 - e) = (U - Q * Vv) - V 1000000000 ((w.drop j).take n) := by
   rw [Int.mul_sub]; omega
  have h2 : u.getD (j + n) 0 - e < 1 := by
   have : 1000000000 ^ n * (u.getD (j + n) 0 - e) < 1000000000 ^ n * 1 := by omega
   exact Int.lt_of_mul_lt_mul_left this (by omega)
  have h3 : -1 < u.getD (j + n) 0 - e := by
   have : 1000000000 ^ n * (-1) < 1000000000 ^ n * (u.getD (j + n) 0 - e) := by omega
   exact Int.lt_of_mul_lt_mul_left this (by omega)
  omega
 refine ⟨?_, ?_, he⟩
 ·rw [axF _ (by omega), hget, hV, he, Int.mul_sub]
  omega
 ·have s4 : (w.set (j + n) 0).drop j = (w.drop j).set n 0 := by
   rw [List.drop_set, if_neg (by omega)]; congr 1; omega
  rw [s4, axF _ (by rw [List.length_drop]; omega)]
  have : (w.drop j).getD n 0 = u.getD (j + n) 0 := by
   rw [← hget]; simp [List.getD_eq_getElem?_getD, List.getElem?_drop]
  rw [this, e1, he, Int.mul_sub]
  omega
theorem aP6 {u w : List Int} {j n : Nat} {q Vv e U : Int} (hw : Dg 1000000000 w)
  (htk : w.take j = u.take j) (hdr : w.drop (j + n) = u.drop (j + n)) (hz : V 1000000000 (u.drop (j + n + 1)) = 0) (hU : U = V 1000000000 (u.drop j)) (hX0 : U - q * Vv < 0)
  (hV : V 1000000000 w = V 1000000000 u - 1000000000 ^ j * (q * Vv) + 1000000000 ^ (j + n) * e) : u.getD (j + n) 0 < e := by
 have sw := ab6 1000000000 w j
 have su := ab6 1000000000 u j
 rw [htk] at sw
 have hPj : (0 : Int) < 1000000000 ^ j := Int.pow_pos (by omega)
 have hPn : (0 : Int) < 1000000000 ^ n := Int.pow_pos (by omega)
 have e1 : V 1000000000 (w.drop j) = U - q * Vv + 1000000000 ^ n * e := by
  have : 1000000000 ^ j * V 1000000000 (w.drop j) = 1000000000 ^ j * (U - q * Vv + 1000000000 ^ n * e) := by
   rw [Int.pow_add] at hV
   rw [hU]
   have : (1000000000 : Int) ^ j * (V 1000000000 (u.drop j) - q * Vv + 1000000000 ^ n * e) = 1000000000 ^ j * V 1000000000 (u.drop j) - 1000000000 ^ j * (q * Vv) + 1000000000 ^ j * 1000000000 ^ n * e := by grind
   omega
  exact Int.eq_of_mul_eq_mul_left (by omega) this
 have s2 := ab6 1000000000 (w.drop j) n
 rw [List.drop_drop, hdr] at s2
 have s3 := aaU 1000000000 u (j + n)
 rw [hz, Int.mul_zero, Int.add_zero] at s3
 rw [s3] at s2
 have l2 := aaT (by omega) (ab5 (acK hw j) n)
 have : 1000000000 ^ n * u.getD (j + n) 0 < 1000000000 ^ n * e := by omega
 exact Int.lt_of_mul_lt_mul_left this (by omega)
theorem awF (l : List Int) {k j : Nat} (h : j ≤ k) (x : Int) : (l.set (k) x).take j = l.take j := by
 rw [List.take_set_of_le h]
theorem aLZ (m o : List Int) (y : Int × Unit) (y4 : List Int × Unit) (v ql u w0 : List Int) (j n : Nat) (q : Int) (i2 : Int × Int × Int × List Int × Unit) (hv : Dg 1000000000 v) (hn : v.length = n) (hN : w0.length ≤ 1000000000000) (hjn : j + n < w0.length) (hw : Dg 1000000000 w0) (hq : 1 ≤ q ∧ q < 1000000000) (hK : inb (j : Int) (↑(Int.toNat (w64 (w64 (len m - len v) + 1))) : Int)) :
  ∃ w' e, ac1 (fun i3 => (ahZ m o y (v, ()) y4 ((j : Int), ql, u, ()) (q, ()) i2 i3).toO) (0, 0, w0, ()) = some (.inr (.inl ((j : Int) - 1, ql.set j (q - 1), w'.set (j + n) 0, ()))) ∧ w'.length = w0.length ∧ Dg 1000000000 w' ∧ w'.take j = w0.take j ∧ w'.drop (j + n) = w0.drop (j + n) ∧ V 1000000000 w' = V 1000000000 w0 + 1000000000 ^ j * V 1000000000 v - 1000000000 ^ (j + n) * e := by
 have wa : w64 (w64 ((j : Int) + len v) + 1) = ((j + n + 1 : Nat) : Int) := by rw [aaC, hn, aaA (x := (j : Int) + n) (by omega), aaA (by omega)]; omega
 have wb : ((((j + n + 1 : Nat) : Int).toNat - (j : Int).toNat : Nat) : Int) = ((n + 1 : Nat) : Int) := by omega
 refine Exists.elim (adJ (R := fun i3 => (ahZ m o y (v, ()) y4 ((j : Int), ql, u, ()) (q, ()) i2 i3).toO) (fun i : Int × Int × List Int × Unit => ∃ k : Nat, k ≤ n ∧ i.1 = (k : Int) ∧ 0 ≤ i.2.1 ∧ i.2.1 ≤ 1 ∧ i.2.2.1.length = w0.length ∧ Dg 1000000000 i.2.2.1 ∧ i.2.2.1.take j = w0.take j ∧ i.2.2.1.drop (j + k) = w0.drop (j + k) ∧ V 1000000000 i.2.2.1 = V 1000000000 w0 + 1000000000 ^ j * V 1000000000 (v.take k) - 1000000000 ^ (j + k) * i.2.1) (fun i => ((n : Int) - i.1).toNat)
  (fun r => ∃ w' e, r = Sum.inr (Sum.inl ((j : Int) - 1, ql.set j (q - 1), w'.set (j + n) 0, ())) ∧ w'.length = w0.length ∧ Dg 1000000000 w' ∧ w'.take j = w0.take j ∧ w'.drop (j + n) = w0.drop (j + n) ∧ V 1000000000 w' = V 1000000000 w0 + 1000000000 ^ j * V 1000000000 v - 1000000000 ^ (j + n) * e) ?step (0, 0, w0, ()) ⟨0, by omega, rfl, by simp, by simp, rfl, hw, rfl, rfl, by simp [V]⟩) ?fin
 case fin =>
  rintro a ⟨h1, w', e, rfl, h3⟩
  exact ⟨w', e, h1, h3⟩
 rintro ⟨i, c, w, u5⟩ ⟨k, g1, g2, g3, g4, g5, g6, g7, g8, g9⟩
 dsimp only at g2 g3 g4 g5 g6 g7 g8 g9
 subst g2
 have dv := aa3 (by omega) hv k
 have dw := aa3 (by omega) g6 (j + k)
 have ev := aa5 1000000000 v k
 simp only [ahZ, aaM, wa, wb, Int.toNat_natCast, Nat.zero_add]
 rcases Nat.lt_or_ge k n with hk | hk
 ·left
  have w1 : adS (adS (w.getD (j + k) 0 + v.getD k 0) + c) = w.getD (j + k) 0 + v.getD k 0 + c := by rw [aa0 (x := w.getD (j + k) 0 + v.getD k 0) (by omega), aa0 (by omega)]
  have w5 : w64 ((k : Int) + 1) = ((k + 1 : Nat) : Int) := by rw [aaA (x := (k : Int) + 1) (by omega)]; omega
  simp only [w1, w5]
  have fin : ∀ x c' : Int, 0 ≤ x ∧ x < 1000000000 → 0 ≤ c' ∧ c' ≤ 1 → x + 1000000000 * c' = w.getD (j + k) 0 + v.getD k 0 + c → ∃ k_1 : Nat, k_1 ≤ n ∧ ((k + 1 : Nat) : Int) = (k_1 : Int) ∧ 0 ≤ c' ∧ c' ≤ 1 ∧ (w.set (j + k) x).length = w0.length ∧ Dg 1000000000 (w.set (j + k) x) ∧ (w.set (j + k) x).take j = w0.take j ∧ (w.set (j + k) x).drop (j + k_1) = w0.drop (j + k_1) ∧ V 1000000000 (w.set (j + k) x) = V 1000000000 w0 + 1000000000 ^ j * V 1000000000 (v.take k_1) - 1000000000 ^ (j + k_1) * c' := by
   intro x c' hx hc he
   refine ⟨k + 1, by omega, rfl, hc.1, hc.2, by simp; omega, aiE g6 hx _, by rw [awF _ (by omega), g7], ?_, ?_⟩
   ·rw [ahG _ (by omega), show j + (k + 1) = j + k + 1 by omega, ← List.drop_drop (i := 1), g8, List.drop_drop]
   ·rw [axF _ (by omega), g9, ev, show j + (k + 1) = j + k + 1 by omega, Int.pow_succ, Int.pow_add]
    have : (1000000000 : Int) ^ j * 1000000000 ^ k * (x + 1000000000 * c') = 1000000000 ^ j * 1000000000 ^ k * (w.getD (j + k) 0 + v.getD k 0 + c) := by rw [he]
    grind
  by_cases cc : w.getD (j + k) 0 + v.getD k 0 + c ≥ 1000000000
  ·refine ⟨(((k + 1 : Nat) : Int), 1, w.set (j + k) (w.getD (j + k) 0 + v.getD k 0 + c - 1000000000), ()), ?_, fin _ 1 (by omega) (by omega) (by omega), by dsimp only; omega⟩
   refine uT sd (uN sd (uN ⟨by omega, by omega⟩ (uT (decide_eq_true cc) (uN ⟨by omega, by omega⟩ ?_))))
   repeat (first | refine uV ?_ | refine uB ?_ | refine uN sd ?_ | refine uT sd ?_ | refine uF sd ?_ | refine uN (by simp) ?_)
   rw [aa0 (x := w.getD (j + k) 0 + v.getD k 0 + c - 1000000000) (by omega)]
   rfl
  ·refine ⟨(((k + 1 : Nat) : Int), 0, w.set (j + k) (w.getD (j + k) 0 + v.getD k 0 + c), ()), ?_, fin _ 0 (by omega) (by omega) (by omega), by dsimp only; omega⟩
   refine uT sd (uN sd (uN ⟨by omega, by omega⟩ (uF (decide_eq_false cc) (uN ⟨by omega, by omega⟩ ?_))))
   repeat (first | refine uV ?_ | refine uB ?_ | refine uN sd ?_ | refine uT sd ?_ | refine uF sd ?_ | refine uN (by simp) ?_)
   rfl
 ·right
  have hkn : k = n := by omega
  subst hkn
  rw [abE _ (by omega)] at g9
  refine ⟨_, ?_, w, c, rfl, g5, g6, g7, g8, g9⟩
  refine uF sd (uN ⟨by simp [len], by rw [aaC, hn]; omega⟩ (uN hK ?_))
  repeat (first | refine uV ?_ | refine uB ?_ | refine uN sd ?_ | refine uT sd ?_ | refine uF sd ?_ | refine uN (by simp) ?_)
  have w6 : adS (abO (q - 1)) = q - 1 := by rw [aaO (x := q - 1) (by omega), aa0 (by omega)]
  rw [aaK, w6, aaA (x := (j : Int) - 1) (by omega), aaC, hn, Int.toNat_natCast]
theorem arE {a b B : Int} (ha : 0 ≤ a ∧ a < B) (hb : 0 ≤ b ∧ b < B) : 0 ≤ a * b ∧ a * b ≤ (B - 1) * (B - 1) := by
 refine ⟨Int.mul_nonneg ha.1 hb.1, ?_⟩
 have h1 : a * b ≤ a * (B - 1) := Int.mul_le_mul_of_nonneg_left (by omega) ha.1
 have h2 : a * (B - 1) ≤ (B - 1) * (B - 1) := Int.mul_le_mul_of_nonneg_right (by omega) (by omega)
 omega
theorem aL0 (m o : List Int) (y : Int × Unit) (y4 : List Int × Unit) (v ql u : List Int) (j n : Nat) (q Q : Int) (hv : Dg 1000000000 v) (hn : v.length = n) (hN : u.length ≤ 1000000000000) (hjn : j + n < u.length) (hu : Dg 1000000000 u) (hq : 0 ≤ q ∧ q < 1000000000) (hK : inb (j : Int) (↑(Int.toNat (w64 (w64 (len m - len v) + 1))) : Int))
  (hz : V 1000000000 (u.drop (j + n + 1)) = 0) (hQ : q = Q ∨ q = Q + 1) (hX0 : 0 ≤ V 1000000000 (u.drop j) - Q * V 1000000000 v) (hX1 : V 1000000000 (u.drop j) - Q * V 1000000000 v < V 1000000000 v) (hQ0 : 0 ≤ Q) :
  ∃ u', ac1 (fun i2 => (agH m o y (v, ()) y4 ((j : Int), ql, u, ()) (q, ()) i2).toO) (0, 0, 0, u, ()) = some (.inl ((j : Int) - 1, ql.set j Q, u', ())) ∧ u'.length = u.length ∧ Dg 1000000000 u' ∧ V 1000000000 u' = V 1000000000 u - 1000000000 ^ j * (Q * V 1000000000 v) ∧ V 1000000000 (u'.drop j) = V 1000000000 (u.drop j) - Q * V 1000000000 v := by
 have wa : w64 (w64 ((j : Int) + len v) + 1) = ((j + n + 1 : Nat) : Int) := by rw [aaC, hn, aaA (x := (j : Int) + n) (by omega), aaA (by omega)]; omega
 have wb : ((((j + n + 1 : Nat) : Int).toNat - (j : Int).toNat : Nat) : Int) = ((n + 1 : Nat) : Int) := by omega
 have hVn : V 1000000000 v < 1000000000 ^ n := by have := aJK (by omega) hv; rwa [hn] at this
 refine Exists.elim (adJ (R := fun i2 => (agH m o y (v, ()) y4 ((j : Int), ql, u, ()) (q, ()) i2).toO) (fun i : Int × Int × Int × List Int × Unit => ∃ k : Nat, k ≤ n ∧ i.1 = (k : Int) ∧ 0 ≤ i.2.1 ∧ i.2.1 ≤ 1 ∧ 0 ≤ i.2.2.1 ∧ i.2.2.1 < 1000000000 ∧ i.2.2.2.1.length = u.length ∧ Dg 1000000000 i.2.2.2.1 ∧ i.2.2.2.1.take j = u.take j ∧ i.2.2.2.1.drop (j + k) = u.drop (j + k) ∧ V 1000000000 i.2.2.2.1 = V 1000000000 u - 1000000000 ^ j * (q * V 1000000000 (v.take k)) + 1000000000 ^ (j + k) * (i.2.1 + i.2.2.1)) (fun i => ((n : Int) - i.1).toNat)
  (fun r => ∃ u', r = Sum.inl ((j : Int) - 1, ql.set j Q, u', ()) ∧ u'.length = u.length ∧ Dg 1000000000 u' ∧ V 1000000000 u' = V 1000000000 u - 1000000000 ^ j * (Q * V 1000000000 v) ∧ V 1000000000 (u'.drop j) = V 1000000000 (u.drop j) - Q * V 1000000000 v) ?step (0, 0, 0, u, ()) ⟨0, by omega, rfl, by simp, by simp, by simp, by simp, rfl, hu, rfl, rfl, by simp [V]⟩) ?fin
 case fin =>
  rintro a ⟨h1, u', rfl, h3⟩
  exact ⟨u', h1, h3⟩
 rintro ⟨i, b, c, w, u5⟩ ⟨k, g1, g2, g3, g4, g5, g6, g7, g8, g9, g10, g11⟩
 dsimp only at g2 g3 g4 g5 g6 g7 g8 g9 g10 g11
 subst g2
 have dv := aa3 (by omega) hv k
 have dw := aa3 (by omega) g8 (j + k)
 have ev := aa5 1000000000 v k
 have hm := arE hq dv
 have hs : 0 ≤ c + q * v.getD k 0 := by omega
 simp only [agH, aaM, wa, wb, Int.toNat_natCast, Nat.zero_add]
 rcases Nat.lt_or_ge k n with hk | hk
 ·left
  have wv : abO (v.getD k 0) = v.getD k 0 := aaO (by omega)
  have wp : abO (c + abO (q * v.getD k 0)) = c + q * v.getD k 0 := by rw [aaO (x := q * v.getD k 0) (by omega), aaO (by omega)]
  have em := Int.emod_add_mul_ediv (c + q * v.getD k 0) 1000000000
  have e2 : 0 ≤ (c + q * v.getD k 0) % 1000000000 ∧ (c + q * v.getD k 0) % 1000000000 < 1000000000 := by omega
  have e3 : 0 ≤ (c + q * v.getD k 0) / 1000000000 ∧ (c + q * v.getD k 0) / 1000000000 < 1000000000 := by omega
  have tm : Int.tmod (c + q * v.getD k 0) 1000000000 = (c + q * v.getD k 0) % 1000000000 := Int.tmod_eq_emod_of_nonneg hs
  have td : Int.tdiv (c + q * v.getD k 0) 1000000000 = (c + q * v.getD k 0) / 1000000000 := Int.tdiv_eq_ediv_of_nonneg hs
  have wr : w64 (w64 (w64 (w.getD (j + k) 0) - b) - w64 ((c + q * v.getD k 0) % 1000000000)) = w.getD (j + k) 0 - b - (c + q * v.getD k 0) % 1000000000 := by
   rw [aaA (x := w.getD (j + k) 0) (by omega), aaA (x := w.getD (j + k) 0 - b) (by omega), aaA (x := (c + q * v.getD k 0) % 1000000000) (by omega), aaA (by omega)]
  have w5 : w64 ((k : Int) + 1) = ((k + 1 : Nat) : Int) := by rw [aaA (x := (k : Int) + 1) (by omega)]; omega
  have wd : abO ((c + q * v.getD k 0) / 1000000000) = (c + q * v.getD k 0) / 1000000000 := aaO (by omega)
  simp only [wv, wp, tm, td, wr, w5, wd]
  generalize (c + q * v.getD k 0) % 1000000000 = D at *
  generalize (c + q * v.getD k 0) / 1000000000 = C at *
  have fin : ∀ x b' : Int, 0 ≤ x ∧ x < 1000000000 → 0 ≤ b' ∧ b' ≤ 1 → x = w.getD (j + k) 0 - b - D + 1000000000 * b' → ∃ k_1 : Nat, k_1 ≤ n ∧ ((k + 1 : Nat) : Int) = (k_1 : Int) ∧ 0 ≤ b' ∧ b' ≤ 1 ∧ 0 ≤ C ∧ C < 1000000000 ∧ (w.set (j + k) x).length = u.length ∧ Dg 1000000000 (w.set (j + k) x) ∧ (w.set (j + k) x).take j = u.take j ∧ (w.set (j + k) x).drop (j + k_1) = u.drop (j + k_1) ∧ V 1000000000 (w.set (j + k) x) = V 1000000000 u - 1000000000 ^ j * (q * V 1000000000 (v.take k_1)) + 1000000000 ^ (j + k_1) * (b' + C) := by
   intro x b' hx hb he
   refine ⟨k + 1, by omega, rfl, hb.1, hb.2, e3.1, e3.2, by simp; omega, aiE g8 hx _, by rw [awF _ (by omega), g9], ?_, ?_⟩
   ·rw [ahG _ (by omega), show j + (k + 1) = j + k + 1 by omega, ← List.drop_drop (i := 1), g10, List.drop_drop]
   ·rw [axF _ (by omega), g11, ev, show j + (k + 1) = j + k + 1 by omega, Int.pow_succ, Int.pow_add, he]
    have : (1000000000 : Int) ^ j * 1000000000 ^ k * (D + 1000000000 * C) = 1000000000 ^ j * 1000000000 ^ k * (c + q * v.getD k 0) := by rw [em]
    grind
  by_cases cc : w.getD (j + k) 0 - b - D < 0
  ·refine ⟨(((k + 1 : Nat) : Int), 1, C, w.set (j + k) (w.getD (j + k) 0 - b - D + 1000000000), ()), ?_, fin _ 1 (by omega) (by omega) (by omega), by dsimp only; omega⟩
   refine uT sd (uN sd (uN ⟨by omega, by omega⟩ (uV (uV (uT (decide_eq_true cc) (uN ⟨by omega, by omega⟩ ?_))))))
   repeat (first | refine uV ?_ | refine uB ?_ | refine uN sd ?_ | refine uT sd ?_ | refine uF sd ?_ | refine uN (by simp) ?_)
   rw [aaA (x := w.getD (j + k) 0 - b - D + 1000000000) (by omega), aa0 (by omega)]
   rfl
  ·refine ⟨(((k + 1 : Nat) : Int), 0, C, w.set (j + k) (w.getD (j + k) 0 - b - D), ()), ?_, fin _ 0 (by omega) (by omega) (by omega), by dsimp only; omega⟩
   refine uT sd (uN sd (uN ⟨by omega, by omega⟩ (uV (uV (uF (decide_eq_false cc) (uN ⟨by omega, by omega⟩ ?_))))))
   repeat (first | refine uV ?_ | refine uB ?_ | refine uN sd ?_ | refine uT sd ?_ | refine uF sd ?_ | refine uN (by simp) ?_)
   rw [aa0 (x := w.getD (j + k) 0 - b - D) (by omega)]
   rfl
 ·right
  have hkn : k = n := by omega
  subst hkn
  rw [abE _ (by omega)] at g11
  have hun := aa3 (by omega) hu (j + k)
  have hget : w.getD (j + k) 0 = u.getD (j + k) 0 := by
   have h1 : (w.drop (j + k)).getD 0 0 = (u.drop (j + k)).getD 0 0 := by rw [g10]
   simpa [List.getD_eq_getElem?_getD, List.getElem?_drop] using h1
  have wl : len v = (k : Int) := by rw [aaC, hn]
  have wt : w64 (w64 (u.getD (j + k) 0) - b) = u.getD (j + k) 0 - b := by rw [aaA (x := u.getD (j + k) 0) (by omega), aaA (by omega)]
  have wc : w64 c = c := aaA (by omega)
  simp only [wl, Int.toNat_natCast, hget, wt, wc]
  by_cases cb : u.getD (j + k) 0 - b < c
  ·-- one too great
   have hq1 : q = Q + 1 := by
    rcases hQ with h | h
    ·subst h
     obtain ⟨-, -, he⟩ := aFM (Q := q) g7 hjn g8 g9 g10 hz rfl hX0 (by omega) g11
     omega
    ·exact h
   obtain ⟨w', e, r1, r2, r3, r4, r5, r6⟩ := aLZ m o y y4 v ql u w j k q ((k : Int), b, c, w, ()) hv hn (by omega) (by omega) g8 (by omega) hK
   obtain ⟨f1, f2, -⟩ := aFM (u := u) (w := w') (Q := Q) (Vv := V 1000000000 v) (e := b + c - e) (by rw [r2, g7]) hjn r3 (by rw [r4, g9]) (by rw [r5, g10]) hz rfl hX0 (by omega) (by
    rw [r6, g11, hq1]
    grind)
   refine ⟨_, ?_, w'.set (j + k) 0, rfl, by simp; omega, aiE r3 (by omega) _, f1, f2⟩
   refine uF sd (uN ⟨by omega, by omega⟩ (uT (decide_eq_true cb) ?_))
   refine uO (0, 0, w, ()) (by repeat (first | refine uV ?_ | refine uB ?_ | refine uN sd ?_ | refine uT sd ?_ | refine uF sd ?_ | refine uN (by simp) ?_); rfl) ?_
   rw [r1, hq1, Int.add_sub_cancel]
  ·have hq1 : q = Q := by
    rcases hQ with h | h
    ·exact h
    ·exfalso
     have := aP6 (q := q) g8 g9 g10 hz rfl (by rw [h, Int.add_mul]; omega) g11
     omega
   subst hq1
   obtain ⟨f1, f2, -⟩ := aFM (Q := q) g7 hjn g8 g9 g10 hz rfl hX0 (by omega) g11
   refine ⟨_, ?_, w.set (j + k) 0, rfl, by simp; omega, aiE g8 (by omega) _, f1, f2⟩
   refine uF sd (uN ⟨by omega, by omega⟩ (uF (decide_eq_false cb) (uN ⟨by omega, by omega⟩ (uN (by rw [wl] at hK; exact hK) ?_))))
   repeat (first | refine uV ?_ | refine uB ?_ | refine uN sd ?_ | refine uT sd ?_ | refine uF sd ?_ | refine uN (by simp) ?_)
   rw [aaK, aa0 (x := q) (by omega), aaA (x := (j : Int) - 1) (by omega)]
end Go.Vs
