/-
  Trees of what the functions compute, and their laws. Own work; no condition.
-/
import Derived.Test.YtakjojajnblpoaaGreatDoorClL4
import Derived.Test.YtakjojajnblpoaaGreatDoorProg
set_option linter.unusedVariables false
set_option linter.unusedSimpArgs false
namespace Go.Vs
open Go Go.Vg
theorem bd_le12 {k n : Nat} (h : Bd k n) (hk : k ≤ 8) : (dig n).length ≤ 1000000000000 := Nat.le_trans (bd_dig h hk) (by omega)
theorem L_r1_Turn {z : Int} (h : Bd 8 z.natAbs) : S_r1_Turn (pl z, ()) = some (pl (-z), ()) := spec_at (enc := fun x : Int => (pl x, ())) z h (fun b hb => pl_inj (Prod.mk.inj hb).1)
theorem r1_Turn_law (x : PlT) (y) (h : S_r1_Turn (x, ()) = some y) : (r1_Turn_t x).toO = some y := by
 obtain ⟨z, hp, hx, rfl⟩ := spec_some h
 obtain ⟨rfl, -⟩ := Prod.mk.inj hx
 refine uC (pl (-z), ()) (L_r1_madeD (bd_le12 hp (by omega)) (by omega) ?_) rfl
 by_cases h0 : z = 0
 ·left; omega
 ·right
  show (!decide (z < 0)) = decide (-z < 0)
  by_cases h1 : z < 0
  ·rw [decide_eq_true h1, decide_eq_false (by omega)]; rfl
  ·rw [decide_eq_false h1, decide_eq_true (by omega)]; rfl
theorem L_r1_sum {a b : Nat} (h1 : (dig a).length ≤ 1000000000000) (h2 : (dig b).length ≤ 1000000000000) : S_r1_sum (dig a, dig b, ()) = some (dig (a + b), ()) := spec_at (enc := fun p : Nat × Nat => (dig p.1, dig p.2, ())) (a, b) ⟨h1, h2⟩ (fun b hb => digdig_inj hb)
theorem L_r1_diffD {a b : Nat} (h1 : (dig a).length ≤ 1000000000000) (h : b ≤ a) : S_r1_difference (dig a, dig b, ()) = some (dig (a - b), ()) := L_r1_difference (dig_dg a) (dig_dg b) h1 (dig_length_mono h) (by rw [V_dig, V_dig]; omega) (by rw [V_dig, V_dig]; omega)
theorem L_r1_prodD {a b : Nat} (h1 : (dig a).length ≤ 400000000000) (h2 : (dig b).length ≤ 400000000000) : S_r1_product (dig a, dig b, ()) = some (dig (a * b), ()) := L_r1_product (dig_dg a) (Or.inl (dig_dg b)) h1 h2 (by rw [V_dig, V_dig]; simp)
theorem L_r1_Plus {a b : Int} (h1 : Bd 7 a.natAbs) (h2 : Bd 7 b.natAbs) : S_r1_Plus (pl a, pl b, ()) = some (pl (a + b), ()) := spec_at (enc := fun p : Int × Int => (pl p.1, pl p.2, ())) (a, b) ⟨h1, h2⟩ (fun b hb => plpl_inj hb)
theorem r1_Plus_law (x x' : PlT) (y) (h : S_r1_Plus (x, x', ()) = some y) : (r1_Plus_t x x').toO = some y := by
 obtain ⟨⟨a, b⟩, hp, hx, rfl⟩ := spec_some h
 obtain ⟨rfl, hx2⟩ := Prod.mk.inj hx; obtain ⟨rfl, -⟩ := Prod.mk.inj hx2; dsimp only
 obtain ⟨l1, l2⟩ := hp
 simp only at l1 l2
 have d1 := bd_le12 l1 (by omega)
 have d2 := bd_le12 l2 (by omega)
 have d3 := bd_le12 (bd_add l1 l2) (by omega)
 unfold r1_Plus_t
 dsimp only
 by_cases hs : (decide (a < 0) == decide (b < 0)) = true
 ·refine uT hs ?_
  have hs' : (a < 0 ↔ b < 0) := by simpa using hs
  refine uC _ (L_r1_sum d1 d2) ?_
  refine uC (pl (a + b), ()) (L_r1_madeD d3 (by omega) (Or.inr (decide_eq_decide.2 (by omega)))) rfl
 ·have hs' : ¬ (a < 0 ↔ b < 0) := by simpa using hs
  refine uF (by simpa using hs) ?_
  refine uC _ (L_r1_order _ _ (dig_dg _) (dig_dg _) d1 d2) ?_
  obtain ⟨o1, o2⟩ := ordD_dig a.natAbs b.natAbs
  by_cases hc : a.natAbs < b.natAbs
  ·refine uF (decide_eq_false (by have := o1.2 hc; dsimp only; omega)) ?_
   refine uC _ (L_r1_diffD d2 (by omega)) ?_
   have d4 : (dig (b.natAbs - a.natAbs)).length ≤ 1000000000000 := Nat.le_trans (dig_length_mono (Nat.sub_le _ _)) d2
   refine uC (pl (a + b), ()) (L_r1_madeD d4 (by omega) (Or.inr (decide_eq_decide.2 (by omega)))) rfl
  ·refine uT (decide_eq_true (by
    rcases Int.lt_or_le (ordD (dig a.natAbs) (dig b.natAbs)) 0 with h | h
    ·exact absurd (o1.1 h) hc
    ·exact h)) ?_
   refine uC _ (L_r1_diffD d1 (by omega)) ?_
   have d4 : (dig (a.natAbs - b.natAbs)).length ≤ 1000000000000 := Nat.le_trans (dig_length_mono (Nat.sub_le _ _)) d1
   refine uC (pl (a + b), ()) (L_r1_madeD d4 (by omega) ?_) rfl
   by_cases h0 : a + b = 0
   ·exact Or.inl h0
   ·exact Or.inr (decide_eq_decide.2 (by omega))
theorem L_r1_Minus {a b : Int} (h1 : Bd 7 a.natAbs) (h2 : Bd 7 b.natAbs) : S_r1_Minus (pl a, pl b, ()) = some (pl (a - b), ()) := spec_at (enc := fun p : Int × Int => (pl p.1, pl p.2, ())) (a, b) ⟨h1, h2⟩ (fun b hb => plpl_inj hb)
theorem r1_Minus_law (x x' : PlT) (y) (h : S_r1_Minus (x, x', ()) = some y) : (r1_Minus_t x x').toO = some y := by
 obtain ⟨⟨a, b⟩, hp, hx, rfl⟩ := spec_some h
 obtain ⟨rfl, hx2⟩ := Prod.mk.inj hx; obtain ⟨rfl, -⟩ := Prod.mk.inj hx2; dsimp only
 obtain ⟨l1, l2⟩ := hp
 refine uC _ (L_r1_Turn (bd_le l2 (by omega))) (uC _ (L_r1_Plus l1 (bd_neg l2)) ?_)
 rw [Int.sub_eq_add_neg]; rfl
theorem mul_sign {a b : Int} : a * b = 0 ∨ (!(decide (a < 0) == decide (b < 0))) = decide (a * b < 0) := by
 by_cases hz : a * b = 0
 ·exact Or.inl hz
 ·right
  have z1 : a ≠ 0 := fun h => hz (by rw [h]; simp)
  have z2 : b ≠ 0 := fun h => hz (by rw [h]; simp)
  rcases Int.lt_or_le a 0 with c1 | c1 <;> rcases Int.lt_or_le b 0 with c2 | c2
  ·have := Int.mul_pos_of_neg_of_neg c1 c2
   rw [decide_eq_true c1, decide_eq_true c2, decide_eq_false (by omega)]; rfl
  ·have := Int.mul_neg_of_neg_of_pos c1 (show 0 < b by omega)
   rw [decide_eq_true c1, decide_eq_false (by omega), decide_eq_true (by omega)]; rfl
  ·have := Int.mul_neg_of_pos_of_neg (show 0 < a by omega) c2
   rw [decide_eq_false (by omega), decide_eq_true c2, decide_eq_true (by omega)]; rfl
  ·have := Int.mul_pos (show 0 < a by omega) (show 0 < b by omega)
   rw [decide_eq_false (by omega), decide_eq_false (by omega), decide_eq_false (by omega)]; rfl
theorem L_r1_Times {a b : Int} (h1 : Bd 7 a.natAbs) (h2 : Bd 7 b.natAbs) : S_r1_Times (pl a, pl b, ()) = some (pl (a * b), ()) := spec_at (enc := fun p : Int × Int => (pl p.1, pl p.2, ())) (a, b) ⟨h1, h2⟩ (fun b hb => plpl_inj hb)
theorem r1_Times_law (x x' : PlT) (y) (h : S_r1_Times (x, x', ()) = some y) : (r1_Times_t x x').toO = some y := by
 obtain ⟨⟨a, b⟩, hp, hx, rfl⟩ := spec_some h
 obtain ⟨rfl, hx2⟩ := Prod.mk.inj hx; obtain ⟨rfl, -⟩ := Prod.mk.inj hx2; dsimp only
 obtain ⟨l1, l2⟩ := hp
 simp only at l1 l2
 have d1 := bd_dig l1 (by omega)
 have d2 := bd_dig l2 (by omega)
 refine uC _ (L_r1_prodD (Nat.le_trans d1 (by omega)) (Nat.le_trans d2 (by omega))) ?_
 refine uC (pl (a * b), ()) (L_r1_madeD (bd_le12 (bd_mul l1 l2) (by omega)) (by rw [Int.natAbs_mul]) mul_sign) rfl
theorem L_r1_Order {a b : Int} (h1 : Bd 7 a.natAbs) (h2 : Bd 7 b.natAbs) : S_r1_Order (pl a, pl b, ()) = some ((a - b).sign, ()) := spec_at (enc := fun p : Int × Int => (pl p.1, pl p.2, ())) (a, b) ⟨h1, h2⟩ (fun b hb => plpl_inj hb)
theorem r1_Order_law (x x' : PlT) (y) (h : S_r1_Order (x, x', ()) = some y) : (r1_Order_t x x').toO = some y := by
 obtain ⟨⟨a, b⟩, hp, hx, rfl⟩ := spec_some h
 obtain ⟨rfl, hx2⟩ := Prod.mk.inj hx; obtain ⟨rfl, -⟩ := Prod.mk.inj hx2; dsimp only
 obtain ⟨l1, l2⟩ := hp
 refine uC _ (L_r1_Minus l1 l2) ?_
 dsimp only
 rcases Int.lt_trichotomy (a - b) 0 with c | c | c
 ·rw [Int.sign_eq_neg_one_of_neg c]
  exact uT (decide_eq_true c) rfl
 ·rw [c]
  exact uF rfl (uF (decide_eq_false (by show ¬ (len (dig (Int.natAbs 0)) > 0); rw [Int.natAbs_zero, dig_zero]; decide)) rfl)
 ·rw [Int.sign_eq_one_of_pos c]
  refine uF sd (uT (decide_eq_true ?_) rfl)
  rw [len_eq]
  rcases Nat.eq_zero_or_pos (dig (a - b).natAbs).length with h | h
  ·have := dig_nil_iff.1 (List.length_eq_zero_iff.1 h); omega
  ·omega
theorem bd_pow10 {n : Nat} (h : n ≤ 500) : Bd 6 (10 ^ n) := by
 have : (mag (10 ^ n)).length ≤ 501 := by
  refine mag_le_of_decN ?_
  rw [decN_length_of (k := n) (Nat.le_refl _) (Nat.pow_lt_pow_right (by omega) (by omega))]; omega
 unfold Bd; omega
theorem L_r1_Raised {a : Int} {n : Nat} (h : (n ≤ 40 ∧ Bd 2 a.natAbs) ∨ (n ≤ 500 ∧ a = 10)) : S_r1_Raised (pl a, (n : Int), ()) = some (pl (a ^ n), ()) := by
 refine spec_at (enc := fun p : Int × Nat => (pl p.1, (p.2 : Int), ())) (a, n) h (fun b hb => ?_)
 obtain ⟨e1, e2⟩ := Prod.mk.inj hb
 obtain ⟨e2, -⟩ := Prod.mk.inj e2
 exact Prod.ext (pl_inj e1) (Int.ofNat.inj e2)
theorem bd_raised {a : Int} {n : Nat} (h : (n ≤ 40 ∧ Bd 2 a.natAbs) ∨ (n ≤ 500 ∧ a = 10)) (j : Nat) (hj : j ≤ n) : Bd 7 (a ^ j).natAbs := by
 rw [Int.natAbs_pow]
 rcases h with ⟨h1, h2⟩ | ⟨h1, rfl⟩
 ·exact bd_pow h2 (by omega)
 ·exact bd_le (bd_pow10 (by omega)) (by omega)
theorem r1_Raised_law (x : PlT) (k : Int) (y) (h : S_r1_Raised (x, k, ()) = some y) : (r1_Raised_t x k).toO = some y := by
 obtain ⟨⟨a, n⟩, hp, hx, rfl⟩ := spec_some h
 obtain ⟨rfl, hx2⟩ := Prod.mk.inj hx; obtain ⟨rfl, -⟩ := Prod.mk.inj hx2; dsimp only
 dsimp only at hp
 have hn : n ≤ 500 := by rcases hp with h | h <;> omega
 have ha : Bd 7 a.natAbs := by
  rcases hp with h | h
  ·exact bd_le h.2 (by omega)
  ·rw [h.2]; exact bd_le (bd_small (by omega)) (by omega)
 refine uC _ (L_r1_Integer ⟨by omega, by omega⟩) ?_
 refine uO (0, decide ((1 : Int) < 0), dig 1, ()) rfl ?_
 refine loopO_eq (fun i : Int × Bool × List Int × Unit => ∃ j : Nat, j ≤ n ∧ i = ((j : Int), pl (a ^ j))) (fun i => ((n : Int) - i.1).toNat) (fun _ => (pl (a ^ n), ())) ?_ _ ⟨0, by omega, by rw [Int.pow_zero]; rfl⟩
 rintro i ⟨j, hj, rfl⟩
 unfold r1_Raised_R1
 dsimp only
 rcases Nat.lt_or_ge j n with h1 | h1
 ·left
  refine ⟨(((j + 1 : Nat) : Int), pl (a ^ (j + 1))), ?_, ⟨j + 1, by omega, rfl⟩, by dsimp only; omega, (by first | exact True.intro | rfl)⟩
  refine uT sd (uC (pl (a ^ (j + 1)), ()) (by rw [Int.pow_succ]; exact L_r1_Times (bd_raised hp j hj) ha) ?_)
  repeat (first | refine uV ?_ | refine uB ?_ | refine uN sd ?_ | refine uT sd ?_ | refine uF sd ?_ | refine uN (by simp) ?_)
  rw [toO_ok, w64_id (x := (j : Int) + 1) (by omega)]; rfl
 ·right
  have : j = n := by omega
  subst this
  exact uF sd rfl
theorem L_r1_parts {a b : Nat} (h1 : (dig a).length ≤ 200000000000) (h2 : (dig b).length ≤ 200000000000) (h3 : b ≠ 0) : S_r1_parts (dig a, dig b, ()) = some (dig (a / b), dig (a % b), ()) := spec_at (enc := fun p : Nat × Nat => (dig p.1, dig p.2, ())) (a, b) ⟨h1, h2, h3⟩ (fun b hb => digdig_inj hb)
theorem L_r1_Divisor {a b : Int} (h1 : Bd 8 a.natAbs) (h2 : Bd 8 b.natAbs) : S_r1_Divisor (pl a, pl b, ()) = some (pl (Nat.gcd a.natAbs b.natAbs), ()) := spec_at (enc := fun p : Int × Int => (pl p.1, pl p.2, ())) (a, b) ⟨h1, h2⟩ (fun b hb => plpl_inj hb)
theorem r1_Divisor_law (x x' : PlT) (y) (h : S_r1_Divisor (x, x', ()) = some y) : (r1_Divisor_t x x').toO = some y := by
 obtain ⟨⟨a, b⟩, hp, hx, rfl⟩ := spec_some h
 obtain ⟨rfl, hx2⟩ := Prod.mk.inj hx; obtain ⟨rfl, -⟩ := Prod.mk.inj hx2; dsimp only
 obtain ⟨l1, l2⟩ := hp
 dsimp only at l1 l2
 have d1 := bd_dig l1 (by omega)
 have d2 := bd_dig l2 (by omega)
 refine uO (dig b.natAbs, dig a.natAbs, ()) rfl ?_
 have hres : (pl ((Nat.gcd a.natAbs b.natAbs : Nat) : Int), ()) = ((false, dig (Nat.gcd a.natAbs b.natAbs), ()), ()) := by
  unfold pl
  rw [decide_eq_false (by omega), Int.natAbs_natCast]
 rw [hres]
 refine loopO_eq (fun i : List Int × List Int × Unit => ∃ p q : Nat, i = (dig q, dig p, ()) ∧ (dig p).length ≤ 200000000000 ∧ (dig q).length ≤ 200000000000 ∧ Nat.gcd p q = Nat.gcd a.natAbs b.natAbs) (fun i => (V 10000 i.1).toNat) (fun _ => ((false, dig (Nat.gcd a.natAbs b.natAbs), ()), ())) ?_ _ ⟨a.natAbs, b.natAbs, rfl, d1, d2, rfl⟩
 rintro i ⟨p, q, rfl, lp, lq, hg⟩
 unfold r1_Divisor_R1
 dsimp only
 by_cases hq : q = 0
 ·right
  subst hq
  refine uF (by rw [dig_zero]; rfl) ?_
  rw [← hg, Nat.gcd_zero_right]; rfl
 ·left
  have hql : 1 ≤ (dig q).length := by
   rcases Nat.eq_zero_or_pos (dig q).length with h5 | h5
   ·exact absurd (dig_nil_iff.1 (List.length_eq_zero_iff.1 h5)) hq
   ·exact h5
  refine ⟨(dig (p % q), dig q, ()), ?_, ⟨q, p % q, rfl, lq, ?_, ?_⟩, ?_, (by first | exact True.intro | rfl)⟩
  ·refine uT sd (uC _ (L_r1_parts lp lq hq) ?_)
   repeat (first | refine uV ?_ | refine uB ?_ | refine uN sd ?_ | refine uT sd ?_ | refine uF sd ?_ | refine uN (by simp) ?_)
   rfl
  ·exact Nat.le_trans (dig_length_mono (Nat.le_of_lt (Nat.mod_lt p (show 0 < q by omega)))) lq
  ·rw [← hg, Nat.gcd_comm p q, Nat.gcd_rec q p, Nat.gcd_comm]
  ·simp only [V_dig, Int.toNat_natCast]
   exact Nat.mod_lt p (by omega)
theorem L_r1_Parts {a b : Int} (h1 : Bd 6 a.natAbs) (h2 : Bd 6 b.natAbs) (h3 : b ≠ 0) : S_r1_Parts (pl a, pl b, ()) = some (pl (a / b), pl (a % b), ()) := spec_at (enc := fun p : Int × Int => (pl p.1, pl p.2, ())) (a, b) ⟨h1, h2, h3⟩ (fun b hb => plpl_inj hb)
theorem tquot {a b : Int} (hb : b ≠ 0) : ∃ q r : Int, q.natAbs = a.natAbs / b.natAbs ∧ r.natAbs = a.natAbs % b.natAbs ∧ (q = 0 ∨ (!(decide (a < 0) == decide (b < 0))) = decide (q < 0)) ∧ (r = 0 ∨ decide (a < 0) = decide (r < 0)) ∧ (r < 0 → a / b = (if b < 0 then q + 1 else q - 1) ∧ a % b = r + b.natAbs) ∧ (¬ r < 0 → a / b = q ∧ a % b = r) := by
 refine ⟨Int.tdiv a b, Int.tmod a b, Int.natAbs_tdiv a b, Int.natAbs_tmod a b, ?_, ?_, ?_, ?_⟩
 ·by_cases hz : Int.tdiv a b = 0
  ·exact Or.inl hz
  ·right
   rcases Int.lt_or_le a 0 with c1 | c1 <;> rcases Int.lt_or_le b 0 with c2 | c2
   ·have : 0 ≤ Int.tdiv a b := by
     rw [← Int.neg_tdiv_neg]; exact Int.tdiv_nonneg (by omega) (by omega)
    rw [decide_eq_true c1, decide_eq_true c2, decide_eq_false (by omega)]; rfl
   ·have : Int.tdiv a b ≤ 0 := by
     have := Int.tdiv_nonneg (a := -a) (b := b) (by omega) c2
     rw [Int.neg_tdiv] at this; omega
    rw [decide_eq_true c1, decide_eq_false (by omega), decide_eq_true (by omega)]; rfl
   ·have : Int.tdiv a b ≤ 0 := by
     have := Int.tdiv_nonneg (a := a) (b := -b) c1 (by omega)
     rw [Int.tdiv_neg] at this; omega
    rw [decide_eq_false (by omega), decide_eq_true c2, decide_eq_true (by omega)]; rfl
   ·have := Int.tdiv_nonneg c1 c2
    rw [decide_eq_false (by omega), decide_eq_false (by omega), decide_eq_false (by omega)]; rfl
 ·by_cases hz : Int.tmod a b = 0
  ·exact Or.inl hz
  ·right
   refine decide_eq_decide.2 ?_
   rcases Int.lt_or_le a 0 with c1 | c1
   ·have : Int.tmod a b ≤ 0 := by
     have := Int.tmod_nonneg (a := -a) b (by omega)
     rw [Int.neg_tmod] at this; omega
    omega
   ·have := Int.tmod_nonneg (a := a) b c1
    omega
 ·intro hr
  have ha : a < 0 := by
   rcases Int.lt_or_le a 0 with c | c
   ·exact c
   ·have := Int.tmod_nonneg (a := a) b c; omega
  have h1 := Int.tmod_add_mul_tdiv a b
  have h2 : (Int.tmod a b).natAbs < b.natAbs := by rw [Int.natAbs_tmod]; exact Nat.mod_lt _ (by omega)
  generalize Int.tdiv a b = q at *
  generalize Int.tmod a b = r at *
  have key : ∀ q' r' : Int, r' + b * q' = a → 0 ≤ r' → r' < b.natAbs → a / b = q' ∧ a % b = r' := by
   intro q' r' e e1 e2
   have hr' : r' / b = 0 := by
    rcases Int.lt_or_le b 0 with c | c
    ·have : r' / (-(-b)) = -(r' / -b) := Int.ediv_neg _ _
     rw [Int.neg_neg] at this
     rw [this, Int.ediv_eq_zero_of_lt e1 (by omega)]; rfl
    ·exact Int.ediv_eq_zero_of_lt e1 (by omega)
   have d1 : a / b = q' := by rw [← e, Int.add_mul_ediv_left _ _ hb, hr', Int.zero_add]
   refine ⟨d1, ?_⟩
   have := Int.emod_add_mul_ediv a b
   rw [d1] at this
   omega
  rcases Int.lt_or_le b 0 with c | c
  ·rw [if_pos c]
   exact key _ _ (by rw [Int.mul_add]; omega) (by omega) (by omega)
  ·rw [if_neg (by omega)]
   exact key _ _ (by rw [Int.mul_sub]; omega) (by omega) (by omega)
 ·intro hr
  have h1 := Int.tmod_add_mul_tdiv a b
  have h2 : (Int.tmod a b).natAbs < b.natAbs := by rw [Int.natAbs_tmod]; exact Nat.mod_lt _ (by omega)
  generalize Int.tdiv a b = q at *
  generalize Int.tmod a b = r at *
  have hr' : r / b = 0 := by
   rcases Int.lt_or_le b 0 with c | c
   ·have : r / (-(-b)) = -(r / -b) := Int.ediv_neg _ _
    rw [Int.neg_neg] at this
    rw [this, Int.ediv_eq_zero_of_lt (by omega) (by omega)]; rfl
   ·exact Int.ediv_eq_zero_of_lt (by omega) (by omega)
  have d1 : a / b = q := by rw [← h1, Int.add_mul_ediv_left _ _ hb, hr', Int.zero_add]
  refine ⟨d1, ?_⟩
  have := Int.emod_add_mul_ediv a b
  rw [d1] at this
  omega
theorem r1_Parts_law (x x' : PlT) (y) (h : S_r1_Parts (x, x', ()) = some y) : (r1_Parts_t x x').toO = some y := by
 obtain ⟨⟨a, b⟩, hp, hx, rfl⟩ := spec_some h
 obtain ⟨rfl, hx2⟩ := Prod.mk.inj hx; obtain ⟨rfl, -⟩ := Prod.mk.inj hx2; dsimp only
 obtain ⟨l1, l2, l3⟩ := hp
 dsimp only at l1 l2 l3
 have d1 := bd_dig l1 (by omega)
 have d2 := bd_dig l2 (by omega)
 obtain ⟨q, r, hq, hr, sq, sr, hneg, hpos⟩ := tquot (a := a) l3
 have bq : Bd 6 q.natAbs := by rw [hq]; exact bd_div _ l1
 have br : Bd 6 r.natAbs := by rw [hr]; exact bd_mod _ l1
 have i1 : inI64 1 := ⟨by omega, by omega⟩
 have b1 : Bd 7 (1 : Int).natAbs := bd_le (bd_small (by decide)) (by omega)
 unfold r1_Parts_t
 dsimp only
 refine uC _ (L_r1_parts d1 d2 (by omega)) ?_
 refine uC (pl q, ()) (L_r1_madeD (by rw [← hq]; exact bd_le12 bq (by omega)) hq.symm sq) ?_
 refine uC (pl r, ()) (L_r1_madeD (by rw [← hr]; exact bd_le12 br (by omega)) hr.symm sr) ?_
 dsimp only
 by_cases c : r < 0
 ·obtain ⟨e1, e2⟩ := hneg c
  refine uT (decide_eq_true c) ?_
  have hpb : S_r1_Plus (pl r, (false, dig b.natAbs, ()), ()) = some (pl (r + b.natAbs), ()) := by
   have := L_r1_Plus (a := r) (b := (b.natAbs : Int)) (bd_le br (by omega)) (bd_le l2 (by omega))
   unfold pl at this ⊢
   rwa [decide_eq_false (show ¬ ((b.natAbs : Int) < 0) by omega), Int.natAbs_natCast] at this
  refine uC _ hpb ?_
  rw [e1, e2]
  by_cases c2 : b < 0
  ·rw [if_pos c2]
   exact uT (decide_eq_true c2) (uC _ (L_r1_Integer i1) (uC _ (L_r1_Plus (bd_le bq (by omega)) b1) rfl))
  ·rw [if_neg c2]
   exact uF (decide_eq_false c2) (uC _ (L_r1_Integer i1) (uC _ (L_r1_Minus (bd_le bq (by omega)) b1) rfl))
 ·obtain ⟨e1, e2⟩ := hpos c
  rw [e1, e2]
  exact uF (decide_eq_false c) rfl
end Go.Vs
namespace Go.Vs
open Go Go.Vg
theorem L_r1_Right {s : List UInt8} (h : s.length ≤ 1000000000000) : S_r1_Right (s, ()) = some ((rdW s).isSome, ()) := by unfold S_r1_Right; rw [if_pos h]
theorem r1_Right_law (a : List UInt8) (y) (h : S_r1_Right (a, ()) = some y) : (r1_Right_t a).toO = some y := by
 unfold S_r1_Right at h
 split at h
 case isFalse => cases h
 case isTrue hl =>
 injection h with h
 subst h
 dsimp only at hl ⊢
 obtain ⟨j, t, b, hj, hat, hc⟩ : ∃ (j : Nat) (t : List UInt8) (b : Bool), j ≤ a.length ∧ (a.drop j = t ∧ (b = true ↔ j = 1) ∧ j ≤ 1 ∧ (∃ d : TT ((Int × Unit) ⊕ (Bool × Unit)), True) ∧ ((TT.ite (decide (len a > 0)) (TT.need (asT Int 0 ≤ 0 ∧ 0 < len a) (TT.ite ((((gi a 0 0).toNat : Int)) == 45) (TT.ok (.inl (1, ()))) (TT.ok (.inl (0, ()))))) (TT.ok (.inl (0, ()))) : TT ((Int × Unit) ⊕ (Bool × Unit))).toO = some (.inl ((j : Int), ())))) ∧ S_cutPrefix (a, #[45].toList, ()) = some (t, b, ()) := by
  cases a with
  | nil => exact ⟨0, [], false, by simp, ⟨rfl, by simp, by omega, ⟨TT.bad, trivial⟩, uF rfl rfl⟩, rfl⟩
  | cons c a =>
   by_cases hcc : c = 45
   ·subst hcc
    refine ⟨1, a, true, by simp, ⟨rfl, by simp, by omega, ⟨TT.bad, trivial⟩, uT (by (try simp only [decide_eq_true_eq, decide_eq_false_iff_not, beq_iff_eq, bne_iff_ne, beq_eq_false_iff_ne, bne_eq_false_iff_eq, Bool.not_eq_true', Bool.not_eq_false']) <;> (try simp only [len_eq, inb, inc, ge_iff_le, gt_iff_lt, Int.toNat_natCast, asT, ne_eq]) <;> simp) (uN ⟨by simp [asT], by (try simp only [len_eq, inb, inc, ge_iff_le, gt_iff_lt, Int.toNat_natCast, asT, ne_eq]); simp⟩ (uT rfl rfl))⟩, ?_⟩
    simp [S_cutPrefix, List.isPrefixOf]
   ·refine ⟨0, c :: a, false, by simp, ⟨rfl, by simp, by omega, ⟨TT.bad, trivial⟩, uT (by (try simp only [decide_eq_true_eq, decide_eq_false_iff_not, beq_iff_eq, bne_iff_ne, beq_eq_false_iff_ne, bne_eq_false_iff_eq, Bool.not_eq_true', Bool.not_eq_false']) <;> (try simp only [len_eq, inb, inc, ge_iff_le, gt_iff_lt, Int.toNat_natCast, asT, ne_eq]) <;> simp) (uN ⟨by simp [asT], by (try simp only [len_eq, inb, inc, ge_iff_le, gt_iff_lt, Int.toNat_natCast, asT, ne_eq]); simp⟩ (uF ?_ rfl))⟩, ?_⟩
    ·rw [beq_eq_false_iff_ne]
     intro h
     exact hcc (UInt8.toNat_inj.1 (Int.ofNat.inj h))
    ·have : ¬ (45 = c) := fun h => hcc h.symm
     simp [S_cutPrefix, List.isPrefixOf, this]
 obtain ⟨ht, hb, hj1, -, hjoin⟩ := hat
 have htl : t.length = a.length - j := by rw [← ht]; simp
 have hget : ∀ k, a.getD (j + k) 0 = t.getD k 0 := by
  intro k; rw [← ht]; simp [List.getD_eq_getElem?_getD, List.getElem?_drop]
 have hnot : ¬ (isD t ∧ t ≠ [] ∧ t.length ≤ 600 ∧ (t.head? = some 48 → b = false ∧ t.length = 1)) → (rdW a).isSome = false := fun h => by rw [rdW_not hc h]; rfl
 have hyes : isD t → t ≠ [] → t.length ≤ 600 → (t.head? = some 48 → b = false ∧ t.length = 1) → (rdW a).isSome = true := fun h1 h2 h3 h4 => by
  obtain ⟨z, e1, -, -⟩ := rdW_yes hc h1 h2 h3 h4
  rw [e1]; rfl
 unfold r1_Right_t
 refine uL ((j : Int), ()) hjoin ?_
 unfold r1_Right_R1
 have hw : w64 (len a - (j : Int)) = (t.length : Int) := by rw [len_eq, w64_id (by omega)]; omega
 simp only [hw]
 by_cases c1 : t = []
 ·rw [hnot (fun h => h.2.1 c1)]
  exact uR _ (uT (by rw [c1]; rfl) rfl)
 have hlen : 1 ≤ t.length := List.length_pos_iff.2 c1
 by_cases c2 : t.length ≤ 600
 case neg =>
  rw [hnot (fun h => c2 h.2.2.1)]
  exact uR _ (uF sd (uT sd rfl))
 refine uL (false, ()) (uF sd (uF sd rfl)) ?_
 refine uO ((j : Int), ()) rfl ?_
 refine loopO_eq (fun i : Int × Unit => ∃ k : Nat, i.1 = ((j + k : Nat) : Int) ∧ k ≤ t.length ∧ isD (t.take k)) (fun i => ((a.length : Int) - i.1).toNat) (fun _ => ((rdW a).isSome, ())) ?_ _ ⟨0, rfl, by omega, by simp [isD]⟩
 rintro ⟨i, u⟩ ⟨k, h3, h4, h5⟩
 simp only at h3
 subst h3
 simp only [r1_Right_R3, gi_nat, hget]
 rcases Nat.lt_or_ge k t.length with hk | hk
 ·have e1 : t.getD k 0 = t[k] := by simp [hk]
  simp only [e1]
  by_cases d1 : t[k].toNat < 48
  ·right
   rw [hnot (fun h => by have := h.1 t[k] (List.getElem_mem hk); omega)]
   repeat (first | refine uV ?_ | refine uB ?_ | refine uN sd ?_ | refine uT sd ?_ | refine uF sd ?_ | refine uN (by simp) ?_)
   rfl
  by_cases d2 : t[k].toNat > 57
  ·right
   rw [hnot (fun h => by have := h.1 t[k] (List.getElem_mem hk); omega)]
   repeat (first | refine uV ?_ | refine uB ?_ | refine uN sd ?_ | refine uT sd ?_ | refine uF sd ?_ | refine uN (by simp) ?_)
   rfl
  ·left
   refine ⟨(((j + (k + 1) : Nat) : Int), ()), ?_, ⟨k + 1, rfl, by omega, ?_⟩, by simp only; omega, (by first | exact True.intro | rfl)⟩
   ·repeat (first | refine uV ?_ | refine uB ?_ | refine uN sd ?_ | refine uT sd ?_ | refine uF sd ?_ | refine uN (by simp) ?_)
    rw [toO_ok, w64_id (x := ((j + k : Nat) : Int) + 1) (by omega)]; rfl
   ·rw [List.take_succ_eq_append_getElem hk, isD_append]
    refine ⟨h5, fun c hc => ?_⟩
    have := List.mem_singleton.1 hc
    subst this
    omega
 ·right
  have hd : isD t := by rwa [List.take_of_length_le hk] at h5
  have hg0 : a.getD j 0 = t.getD 0 0 := hget 0
  simp only [hg0]
  refine uF sd (uN ⟨by omega, by exact sn⟩ ?_)
  cases hct : t with
  | nil => exact absurd hct c1
  | cons c r =>
   rw [← hct]
   have hg : t.getD 0 0 = c := by rw [hct]; rfl
   simp only [hg]
   have hh : t.head? = some c := by rw [hct]; rfl
   by_cases c0 : c = 48
   ·subst c0
    refine uF rfl ?_
    show some (Sum.inr (len a == 1, ())) = _
    by_cases hl1 : a.length = 1
    ·rw [hyes hd c1 c2 (fun _ => ⟨by
      cases b with
      | false => rfl
      | true => have := hb.1 rfl; omega, by omega⟩)]
     rw [show (len a == 1) = true by rw [beq_iff_eq, len_eq]; omega]
    ·rw [hnot (fun h => by
      obtain ⟨q1, q2⟩ := h.2.2.2 hh
      have : ¬ j = 1 := fun h => by rw [hb.2 h] at q1; cases q1
      omega)]
     rw [show (len a == 1) = false by rw [beq_eq_false_iff_ne, len_eq]; omega]
   ·rw [hyes hd c1 c2 (fun h => by rw [hh] at h; injection h with h; exact absurd h c0)]
    refine uT ?_ rfl
    rw [bne_iff_ne]
    intro h
    exact c0 (UInt8.toNat_inj.1 (Int.ofNat.inj h))
theorem seg4_step {a t : List UInt8} {j : Nat} (hd : isD t) (hget : ∀ k, a.getD (j + k) 0 = t.getD k 0) {s i e : Nat} (h1 : s ≤ i) (h2 : i < e) (h3 : e ≤ t.length) (h4 : e - s ≤ 4) : w64 (w64 ((num ((t.take i).drop s) : Int) * 10) + w64 (wu8 (((a.getD (j + i) 0).toNat : Int) - 48))) = (num ((t.take (i + 1)).drop s) : Int) := by
 have hi : i < t.length := by omega
 have e1 : t.getD i 0 = t[i] := by simp [hi]
 have e2 := hd t[i] (List.getElem_mem hi)
 have e3 := num_lt (isD_drop (isD_take hd i) s)
 rw [seg_len h1 (by omega)] at e3
 have e4 : (10 : Nat) ^ (i - s) ≤ 10 ^ 3 := Nat.pow_le_pow_right (by omega) (by omega)
 have e5 : dv t[i] = t[i].toNat - 48 := rfl
 rw [seg_succ h1 hi, num_snoc, hget, e1, e5]
 rw [wu8_id (x := (t[i].toNat : Int) - 48) (by omega), w64_id (x := (t[i].toNat : Int) - 48) (by omega), w64_id (x := (num ((t.take i).drop s) : Int) * 10) (by omega), w64_id (by omega)]
 omega
theorem L_r1_In {z : Int} (h : Fit z) : S_r1_In (dec z, ()) = some (pl z, ()) := spec_at (enc := fun x : Int => (dec x, ())) z h (fun b hb => dec_inj (Prod.mk.inj hb).1)
theorem r1_In_law (a : List UInt8) (y) (h : S_r1_In (a, ()) = some y) : (r1_In_t a).toO = some y := by
 obtain ⟨z, hp, hx, rfl⟩ := spec_some h
 obtain ⟨rfl, -⟩ := Prod.mk.inj hx
 clear h hx
 have hfit : (decN z.natAbs).length ≤ 600 := hp
 have hd := decN_isD z.natAbs
 have hn := num_decN z.natAbs
 have hne := decN_length_pos z.natAbs
 obtain ⟨j, hj, hget, hlen, hjoin⟩ : ∃ j : Nat, (j = if z < 0 then 1 else 0) ∧ (∀ k, (dec z).getD (j + k) 0 = (decN z.natAbs).getD k 0) ∧ (dec z).length = j + (decN z.natAbs).length ∧ ((TT.need (asT Int 0 ≤ 0 ∧ 0 < len (dec z)) (TT.ite ((((gi (dec z) 0 0).toNat : Int)) == 45) (TT.ok (.inl (1, ()))) (TT.ok (.inl (0, ())))) : TT ((Int × Unit) ⊕ (PlT × Unit))).toO = some (.inl ((j : Int), ()))) := by
  by_cases c : z < 0
  ·rw [dec_neg c]
   refine ⟨1, by rw [if_pos c], fun k => by rw [Nat.add_comm]; simp, by simp; omega, uN ⟨by simp [asT], by (try simp only [len_eq, inb, inc, ge_iff_le, gt_iff_lt, Int.toNat_natCast, asT, ne_eq]); simp⟩ (uT rfl rfl)⟩
  ·rw [dec_nonneg (by omega)]
   refine ⟨0, by rw [if_neg c], fun k => by rw [Nat.zero_add], by omega, uN ⟨by simp [asT], by exact sn⟩ (uF ?_ rfl)⟩
   have := decN_head_ne_minus z.natAbs
   cases hdn : decN z.natAbs with
   | nil => exact absurd hdn (decN_ne_nil _)
   | cons c l =>
    rw [hdn] at this
    show ((c.toNat : Int) == 45) = false
    rw [beq_eq_false_iff_ne]
    intro h
    have hc : c = 45 := UInt8.toNat_inj.1 (Int.ofNat.inj h)
    rw [hc] at this
    exact this rfl
 have hj1 : j ≤ 1 := by rw [hj]; split <;> omega
 have hjb : ((j : Int) == 1) = decide (z < 0) := by
  by_cases c : z < 0
  ·rw [decide_eq_true c, hj, if_pos c]; rfl
  ·rw [decide_eq_false c, hj, if_neg c]; rfl
 generalize decN z.natAbs = t at *
 generalize dec z = a at *
 unfold r1_In_t
 refine uL ((j : Int), ()) hjoin ?_
 refine uO ((a.length : Int), true, [], ()) rfl ?_
 refine loopO_eq (fun i : Int × Bool × List Int × Unit => ∃ e : Nat, (i.1 = ((j + e : Nat) : Int) ∨ (e = 0 ∧ i.1 ≤ j ∧ -10 ≤ i.1)) ∧ e ≤ t.length ∧ Dg 10000 i.2.2.1 ∧ V 10000 i.2.2.1 + 10000 ^ i.2.2.1.length * num (t.take e) = z.natAbs ∧ i.2.2.1.length + e ≤ t.length ∧ (i.2.1 = true → i.2.2.1 = [])) (fun i => (i.1 + 20).toNat) (fun _ => (pl z, ())) ?_ _ ⟨t.length, Or.inl (show (a.length : Int) = _ by omega), Nat.le_refl _, Dg_nil _, by simp [V]; omega, by simp, fun _ => rfl⟩
 rintro ⟨e', f, l, u⟩ ⟨e, g1, g3, g4, g5, g6, g7⟩
 simp only at g1 g4 g5 g6 g7
 rcases Nat.eq_zero_or_pos e with he | he
 ·right
  subst he
  have hle : e' ≤ j := by omega
  have hv : V 10000 l = z.natAbs := by simpa [num_nil] using g5
  have hm : S_r1_made ((j : Int) == 1, l, ()) = some (pl z, ()) := L_r1_made g4 (by omega) hv (Or.inr hjb)
  cases f with
  | true =>
   obtain rfl := g7 rfl
   unfold r1_In_R2
   exact uT rfl (uF (decide_eq_false (show ¬ (e' > (j : Int)) by omega)) (uC _ hm rfl))
  | false =>
   unfold r1_In_R2
   dsimp only
   rw [List.take_length]
   exact uF rfl (uF (decide_eq_false (show ¬ (e' > (j : Int)) by omega)) (uC _ hm rfl))
 ·left
  have he' : e' = ((j + e : Nat) : Int) := by omega
  subst he'
  obtain ⟨s, hs, hs1, hs2, hs3, hs4⟩ : ∃ s : Nat, (if (j : Int) > w64 (((j + e : Nat) : Int) - 4) then (j : Int) else w64 (((j + e : Nat) : Int) - 4)) = ((j + s : Nat) : Int) ∧ s ≤ e ∧ e - s ≤ 4 ∧ (s = 0 ∨ s + 4 = e) ∧ s < e := by
   rw [w64_id (x := ((j + e : Nat) : Int) - 4) (by omega)]
   rcases Nat.lt_or_ge e 4 with h9 | h9
   ·exact ⟨0, by rw [if_pos (by omega)]; rfl, by omega, by omega, Or.inl rfl, by omega⟩
   ·exact ⟨e - 4, by rw [if_neg (by omega)]; omega, by omega, by omega, Or.inr (by omega), by omega⟩
  have hseg := num_seg (s := t) hs1 g3
  have hv := num_lt (isD_drop (isD_take hd e) s)
  rw [seg_len hs1 g3] at hv
  have hv4 : (10 : Nat) ^ (e - s) ≤ 10 ^ 4 := Nat.pow_le_pow_right (by omega) hs2
  have hw4 : w64 (((j + e : Nat) : Int) - 4) = ((j + e : Nat) : Int) - 4 := w64_id (by omega)
  generalize hX : num ((t.take e).drop s) = X at hseg hv
  have hD : Dg 10000 (l ++ [(X : Int)]) := Dg_append g4 (Dg_one (by omega) (by omega))
  have hV1 : V 10000 (l ++ [(X : Int)]) + 10000 ^ (l ++ [(X : Int)]).length * (num (t.take s) : Int) = z.natAbs := by
   rw [V_append, V_one, ← g5, hseg, List.length_append, List.length_singleton, Int.pow_succ]
   rcases hs3 with h0 | h0
   ·subst h0; simp [num_nil]
   ·rw [show e - s = 4 by omega]
    have : (((num (t.take s) * 10 ^ 4 + X : Nat)) : Int) = (num (t.take s) : Int) * 10000 + X := by simp
    rw [this]
    grind
  have inv : (((j + e : Nat) : Int) - 4 = ((j + s : Nat) : Int) ∨ (s = 0 ∧ ((j + e : Nat) : Int) - 4 ≤ j ∧ -10 ≤ ((j + e : Nat) : Int) - 4)) := by omega
  refine ⟨(((j + e : Nat) : Int) - 4, false, l ++ [(X : Int)], ()), ?_, ⟨s, inv, by omega, hD, hV1, by simp; omega, by simp⟩, by simp only; omega, (by first | exact True.intro | rfl)⟩
  cases f with
  | false =>
   simp only [r1_In_R2]
   refine uF rfl (uT sd (uO (((j + s : Nat) : Int), 0, ()) (by repeat (first | refine uV ?_ | refine uB ?_ | refine uN sd ?_ | refine uT sd ?_ | refine uF sd ?_ | refine uN (by simp) ?_); rw [hs]; rfl) ?_))
   refine loopO_eq (fun i : Int × Int × Unit => ∃ q : Nat, s ≤ q ∧ q ≤ e ∧ i = (((j + q : Nat) : Int), (num ((t.take q).drop s) : Int), ())) (fun i => (((j + e : Nat) : Int) - i.1).toNat) (fun _ => (Sum.inl (((j + e : Nat) : Int) - 4, false, l ++ [(X : Int)], ()) : (Int × Bool × List Int × Unit) ⊕ (PlT × Unit))) ?_ _ ⟨s, Nat.le_refl _, hs1, by rw [List.drop_of_length_le (by simp; omega)]; rfl⟩
   rintro i ⟨q, h1, h2, rfl⟩
   rcases Nat.lt_or_ge q e with hq | hq
   ·left
    refine ⟨(((j + (q + 1) : Nat) : Int), (num ((t.take (q + 1)).drop s) : Int), ()), ?_, ⟨q + 1, by omega, by omega, rfl⟩, by simp only; omega, (by first | exact True.intro | rfl)⟩
    simp only [r1_In_R4, gi_nat, seg4_step hd hget h1 hq g3 hs2]
    refine uT sd (uN ⟨by omega, by exact sn⟩ ?_)
    repeat (first | refine uV ?_ | refine uB ?_ | refine uN sd ?_ | refine uT sd ?_ | refine uF sd ?_ | refine uN (by simp) ?_)
    rw [toO_ok, w64_id (x := ((j + q : Nat) : Int) + 1) (by omega)]; rfl
   ·right
    have hqe : q = e := by omega
    subst hqe
    simp only [r1_In_R4, hX, List.take_length, hw4]
    refine uF sd (uN (by omega) ?_)
    repeat (first | refine uV ?_ | refine uB ?_ | refine uN sd ?_ | refine uT sd ?_ | refine uF sd ?_ | refine uN (by simp) ?_)
    rfl
  | true =>
   obtain rfl := g7 rfl
   simp only [r1_In_R2]
   refine uT rfl (uT sd (uO (((j + s : Nat) : Int), 0, ()) (by repeat (first | refine uV ?_ | refine uB ?_ | refine uN sd ?_ | refine uT sd ?_ | refine uF sd ?_ | refine uN (by simp) ?_); rw [hs]; rfl) ?_))
   refine loopO_eq (fun i : Int × Int × Unit => ∃ q : Nat, s ≤ q ∧ q ≤ e ∧ i = (((j + q : Nat) : Int), (num ((t.take q).drop s) : Int), ())) (fun i => (((j + e : Nat) : Int) - i.1).toNat) (fun _ => (Sum.inl (((j + e : Nat) : Int) - 4, false, [(X : Int)], ()) : (Int × Bool × List Int × Unit) ⊕ (PlT × Unit))) ?_ _ ⟨s, Nat.le_refl _, hs1, by rw [List.drop_of_length_le (by simp; omega)]; rfl⟩
   rintro i ⟨q, h1, h2, rfl⟩
   rcases Nat.lt_or_ge q e with hq | hq
   ·left
    refine ⟨(((j + (q + 1) : Nat) : Int), (num ((t.take (q + 1)).drop s) : Int), ()), ?_, ⟨q + 1, by omega, by omega, rfl⟩, by simp only; omega, (by first | exact True.intro | rfl)⟩
    simp only [r1_In_R3, gi_nat, seg4_step hd hget h1 hq g3 hs2]
    refine uT sd (uN ⟨by omega, by exact sn⟩ ?_)
    repeat (first | refine uV ?_ | refine uB ?_ | refine uN sd ?_ | refine uT sd ?_ | refine uF sd ?_ | refine uN (by simp) ?_)
    rw [toO_ok, w64_id (x := ((j + q : Nat) : Int) + 1) (by omega)]; rfl
   ·right
    have hqe : q = e := by omega
    subst hqe
    simp only [r1_In_R3, hX, hw4]
    refine uF sd (uN (by omega) ?_)
    repeat (first | refine uV ?_ | refine uB ?_ | refine uN sd ?_ | refine uT sd ?_ | refine uF sd ?_ | refine uN (by simp) ?_)
    rfl
end Go.Vs
namespace Go.Vs
open Go Go.Vg
theorem V_drop_div {l : List Int} (h : Dg 10000 l) (k : Nat) : V 10000 (l.drop k) = V 10000 l / 10000 ^ k := by
 have h1 := V_splitD 10000 l k
 have h2 := V_take_lt (by omega) h k
 have h3 := V_nonneg (by omega) (Dg_take h k)
 rw [h1, Int.add_mul_ediv_left _ _ (by have := pow_pos' (show (1 : Int) ≤ 10000 by omega) k; omega), Int.ediv_eq_zero_of_lt h3 h2, Int.zero_add]
theorem quot_bounds {R b top first P : Int} (hP : 0 < P) (hb0 : 0 < b) (htop : 10000 ≤ top) (hb1 : top * P ≤ b) (hb2 : b < (top + 1) * P) (hf1 : first * P ≤ R) (hf2 : R < (first + 1) * P) (hR0 : 0 ≤ R) (hR : R < b * 10000) (hf0 : 0 ≤ first) :
  (first / (top + 1)) * b ≤ R ∧ R < (first / top + 1) * b ∧ first / top + 1 ≤ 10001 ∧ 0 ≤ first / (top + 1) ∧ first ≤ 100000000000000 * top := by
 have g1 := Int.emod_add_mul_ediv first (top + 1)
 have g2 := Int.emod_nonneg first (show top + 1 ≠ 0 by omega)
 have g3 := Int.emod_add_mul_ediv first top
 have g4 := Int.emod_lt_of_pos first (show 0 < top by omega)
 have g7 := Int.emod_nonneg first (show top ≠ 0 by omega)
 have g5 := Int.ediv_nonneg hf0 (show 0 ≤ top + 1 by omega)
 have g6 := Int.ediv_nonneg hf0 (show 0 ≤ top by omega)
 generalize first / (top + 1) = L at *
 generalize first / top = H at *
 generalize first % (top + 1) = m1 at *
 generalize first % top = m2 at *
 refine ⟨?_, ?_, ?_, g5, ?_⟩
 ·have a1 : L * b ≤ L * ((top + 1) * P) := Int.mul_le_mul_of_nonneg_left (by omega) g5
  have a2 : L * ((top + 1) * P) = ((top + 1) * L) * P := by grind
  have a3 : ((top + 1) * L) * P ≤ first * P := Int.mul_le_mul_of_nonneg_right (by omega) (by omega)
  omega
 ·have a1 : (H + 1) * (top * P) ≤ (H + 1) * b := Int.mul_le_mul_of_nonneg_left hb1 (by omega)
  have a2 : (H + 1) * (top * P) = (top * H + top) * P := by grind
  have a3 : (first + 1) * P ≤ (top * H + top) * P := Int.mul_le_mul_of_nonneg_right (by omega) (by omega)
  omega
 ·have a1 : first * P < ((top + 1) * 10000) * P := by
   have : b * 10000 < ((top + 1) * P) * 10000 := by omega
   have e : ((top + 1) * P) * 10000 = ((top + 1) * 10000) * P := by grind
   omega
  have a2 : first < (top + 1) * 10000 := Int.lt_of_mul_lt_mul_right a1 (by omega)
  have a3 : top * H < top * 10001 := by omega
  have := Int.lt_of_mul_lt_mul_left a3 (by omega)
  omega
 ·have a1 : first * P < ((top + 1) * 10000) * P := by
   have : b * 10000 < ((top + 1) * P) * 10000 := by omega
   have e : ((top + 1) * P) * 10000 = ((top + 1) * 10000) * P := by grind
   omega
  have a2 : first < (top + 1) * 10000 := Int.lt_of_mul_lt_mul_right a1 (by omega)
  omega
theorem r1_parts_law (m o : List Int) (y) (h : S_r1_parts (m, o, ()) = some y) : (r1_parts_t m o).toO = some y := by
 obtain ⟨⟨a, b⟩, hn, hx, rfl⟩ := spec_some h
 obtain ⟨rfl, hx2⟩ := Prod.mk.inj hx; obtain ⟨rfl, -⟩ := Prod.mk.inj hx2; dsimp only
 obtain ⟨la, lb, hb0⟩ := hn
 simp only at la lb hb0
 clear h hx hx2
 have hda := dig_dg a
 have hdb := dig_dg b
 have hVa := V_dig a
 have hVb := V_dig b
 have hbl : 1 ≤ (dig b).length := by
  rcases Nat.eq_zero_or_pos (dig b).length with h5 | h5
  ·exact absurd (dig_nil_iff.1 (List.length_eq_zero_iff.1 h5)) hb0
  ·exact h5
 unfold r1_parts_t
 by_cases h1 : (dig b).length = 1
 ·-- one digit
  refine uT sd (uN ⟨by simp [asT], by exact sn⟩ ?_)
  have hb1 : b < 10000 := by have := dig_length_le_iff.1 (Nat.le_of_eq h1); simpa using this
  have hdb1 : dig b = [(b : Int)] := dig_small hb0 hb1
  have hg : gi (dig b) 0 0 = (b : Int) := by rw [hdb1]; rfl
  rw [hg]
  refine uC _ (L_r1_once (by omega) (by omega) hb1) ?_
  have hm := Nat.mod_lt a (show 0 < b by omega)
  generalize a % b = r at hm ⊢
  refine uC (dig r, ()) (L_r1_cut (Dg_one (show (0 : Int) ≤ (r : Int) by omega) (show (r : Int) < 10000 by omega)) (by simp) (by simp [V])) rfl
 obtain ⟨n, hnl⟩ : ∃ n, (dig b).length = n + 2 := ⟨(dig b).length - 2, by omega⟩
 have w1 : w64 (len (dig b) - 1) = ((n + 1 : Nat) : Int) := by rw [len_eq, hnl, w64_id (by omega)]; omega
 have w2 : w64 (((n + 1 : Nat) : Int) - 1) = ((n : Nat) : Int) := by rw [w64_id (by omega)]; omega
 have bge : 10000 ^ (n + 1) ≤ b := by have := pow_le_digs (B := 10000) (by omega) hb0; rw [show (digs 10000 b).length = n + 2 from hnl] at this; exact this
 refine uF sd ?_
 simp only [w1]
 by_cases h2 : (dig a).length ≤ n + 1
 ·-- the dividend is shorter
  refine uT sd (uN (by omega) ?_)
  have hab : a < b := Nat.lt_of_lt_of_le (dig_length_le_iff.1 h2) bge
  rw [toO_ok, Nat.div_eq_of_lt hab, Nat.mod_eq_of_lt hab, dig_zero]
  simp
 have hq : ∃ M, (dig a).length = M + (n + 1) ∧ 0 < M := ⟨(dig a).length - (n + 1), by omega, by omega⟩
 obtain ⟨M, hM, hM0⟩ := hq
 have w3 : w64 (len (dig a) - ((n + 1 : Nat) : Int)) = (M : Int) := by rw [len_eq, hM, w64_id (by omega)]; omega
 refine uF sd ?_
 simp only [w2, w3]
 refine uN sd (uN sd (uN (by omega) (uN sd ?_)))
 simp only [Int.toNat_natCast]
 have htk : List.take ((dig a).length - M) ((dig a).drop M) = (dig a).drop M := List.take_of_length_le (by simp)
 simp only [htk]
 have htk2 : List.take (0 + ((dig a).drop M).length) (List.take 0 ([] : List Int) ++ (dig a).drop M) = (dig a).drop M := by rw [Nat.zero_add, List.take_zero, List.nil_append, List.take_length]
 simp only [htk2]
 refine uN (by simp; omega) ?_
 have w4 : w64 ((M : Int) - 1) = (M : Int) - 1 := w64_id (by omega)
 refine uO ((M : Int) - 1, (dig a).drop M, List.replicate M 0, ()) ?_ ?_
 ·repeat (first | refine uV ?_ | refine uB ?_ | refine uN sd ?_ | refine uT sd ?_ | refine uF sd ?_ | refine uN (by simp) ?_)
  rw [toO_ok, w4]
 -- the first two digits of the divisor
 have dB1 := Dg_getD (by omega) hdb (n + 1)
 have dB0 := Dg_getD (by omega) hdb n
 have hBtop : 1 ≤ (dig b).getD (n + 1) 0 := by
  have hc := dig_cn b
  unfold Cn at hc
  rw [List.getLast?_eq_getElem?, hnl, show n + 2 - 1 = n + 1 by omega, List.getElem?_eq_getElem (by omega)] at hc
  rw [getD_lt (by omega)] at *
  rcases Int.lt_or_le 0 (dig b)[n + 1] with h | h
  ·exact h
  ·exact absurd (by congr 1; omega) hc
 have htopV : V 10000 ((dig b).drop n) = (dig b).getD (n + 1) 0 * 10000 + (dig b).getD n 0 := by
  have e1 := V_drop_succD 10000 (dig b) n
  have e2 := V_drop_succD 10000 (dig b) (n + 1)
  have e3 := V_drop_ge 10000 (l := dig b) (k := n + 1 + 1) (by omega)
  omega
 have htop2 := V_drop_div hdb n
 rw [hVb] at htop2
 have hwtop : w64 (w64 (gi (dig b) ((n + 1 : Nat) : Int) 0 * 10000) + gi (dig b) (n : Int) 0) = (dig b).getD (n + 1) 0 * 10000 + (dig b).getD n 0 := by
  rw [gi_nat, gi_nat, w64_id (x := (dig b).getD (n + 1) 0 * 10000) (by omega), w64_id (by omega)]
 have hwtop1 : w64 ((dig b).getD (n + 1) 0 * 10000 + (dig b).getD n 0 + 1) = (dig b).getD (n + 1) 0 * 10000 + (dig b).getD n 0 + 1 := w64_id (by omega)
 have htop3 : 10000 ≤ (dig b).getD (n + 1) 0 * 10000 + (dig b).getD n 0 ∧ (dig b).getD (n + 1) 0 * 10000 + (dig b).getD n 0 < 100000000 := by omega
 rw [← htopV] at htop3
 have hP : (0 : Int) < 10000 ^ n := Int.pow_pos (by omega)
 have hbt1 : V 10000 ((dig b).drop n) * 10000 ^ n ≤ (b : Int) := by
  rw [htop2]; exact Int.ediv_mul_le _ (by omega)
 have hbt2 : (b : Int) < (V 10000 ((dig b).drop n) + 1) * 10000 ^ n := by
  rw [htop2]; exact Int.lt_ediv_add_one_mul_self _ hP
 rw [← htopV] at hwtop hwtop1
 generalize htv : V 10000 ((dig b).drop n) = top at *
 clear htopV htop2 dB1 dB0 hBtop htv
 have hR0 : V 10000 ((dig a).drop M) < (b : Int) := by
  have := V_lt (by omega) (Dg_drop hda M)
  rw [List.length_drop, show (dig a).length - M = n + 1 by omega] at this
  have hb2 : ((10000 ^ (n + 1) : Nat) : Int) ≤ (b : Int) := Int.ofNat_le.2 bge
  rw [Int.natCast_pow] at hb2
  exact Int.lt_of_lt_of_le this hb2
 have hcR0 : Cn ((dig a).drop M) := by
  have hc := dig_cn a
  unfold Cn at hc ⊢
  rw [List.getLast?_drop, if_neg (by omega)]
  exact hc
 refine loopO_eq (fun i : Int × List Int × List Int × Unit => ∃ (k : Nat) (R : Nat), k ≤ M ∧ i.1 = (k : Int) - 1 ∧ i.2.1 = dig R ∧ R < b ∧ i.2.2.1.length = M ∧ Dg 10000 i.2.2.1 ∧ V 10000 ((dig a).drop k) = V 10000 (i.2.2.1.drop k) * b + R) (fun i => (i.1 + 1).toNat) (fun _ => (dig (a / b), dig (a % b), ())) ?_ _ ?_
 case refine_2 =>
  obtain ⟨R, hR⟩ := Int.eq_ofNat_of_zero_le (V_nonneg (by omega) (Dg_drop hda M))
  refine ⟨M, R, Nat.le_refl _, rfl, dig_uniq (Dg_drop hda M) hcR0 hR, by omega, by simp, Dg_zeros (by omega) _, ?_⟩
  rw [hR, V_drop_ge _ (by simp)]; simp
 rintro ⟨i, r, q, u⟩ ⟨k, R, g1, g2, g3, g4, g5, g6, g7⟩
 dsimp only at g2 g3 g5 g6 g7
 subst g2 g3
 cases k with
 | zero =>
  right
  simp only [List.drop_zero, hVa] at g7
  obtain ⟨v, hv⟩ := Int.eq_ofNat_of_zero_le (V_nonneg (by omega) g6)
  rw [hv] at g7
  have h8 : a = v * b + R := by
   have : (a : Int) = ((v * b + R : Nat) : Int) := by simpa using g7
   exact Int.ofNat.inj this
  have h9 : a / b = v := by rw [h8, Nat.add_comm, Nat.add_mul_div_right _ _ (by omega), Nat.div_eq_of_lt (by omega), Nat.zero_add]
  have h10 : a % b = R := by rw [h8, Nat.add_comm, Nat.add_mul_mod_self_right, Nat.mod_eq_of_lt (by omega)]
  simp only [r1_parts_R1, w1, w3, Int.toNat_natCast]
  refine uF sd (uC (dig v, ()) ?_ ?_)
  ·rw [List.take_of_length_le (by omega)]
   exact L_r1_cut g6 (by omega) hv
  ·rw [toO_ok, h9, h10]
 | succ j =>
  left
  have e6 : ((j + 1 : Nat) : Int) - 1 = (j : Int) := by omega
  rw [e6]
  have da := Dg_getD (by omega) hda j
  obtain ⟨d, hd⟩ := Int.eq_ofNat_of_zero_le da.1
  have lR : (dig R).length ≤ n + 2 := by rw [← hnl]; exact dig_length_mono (by omega)
  -- the next rest
  obtain ⟨R', hR'⟩ : ∃ R', R' = d + 10000 * R := ⟨_, rfl⟩
  have hR'b : R' < b * 10000 := by omega
  have hcut : S_r1_cut ((dig a).getD j 0 :: dig R, ()) = some (dig R', ()) := by
   rw [hd]
   refine L_r1_cut (Dg_cons ⟨by omega, by omega⟩ (dig_dg R)) (by simp; omega) ?_
   simp only [V, V_dig, hR']; simp
  have lR' : (dig R').length ≤ n + 3 := by
   rw [dig_length_le_iff]
   have := dig_length_le_iff.1 (Nat.le_of_eq hnl)
   rw [show n + 3 = (n + 2) + 1 by omega, Nat.pow_succ]
   exact Nat.lt_of_lt_of_le hR'b (Nat.mul_le_mul_right _ (Nat.le_of_lt this))
  have hdR := dig_dg R'
  have hVR := V_dig R'
  -- its first three digits
  have hf := V_drop_div hdR n
  rw [hVR] at hf
  have hf1 : V 10000 ((dig R').drop n) * 10000 ^ n ≤ (R' : Int) := by rw [hf]; exact Int.ediv_mul_le _ (by omega)
  have hf2 : (R' : Int) < (V 10000 ((dig R').drop n) + 1) * 10000 ^ n := by rw [hf]; exact Int.lt_ediv_add_one_mul_self _ hP
  have hf0 := V_nonneg (by omega) (Dg_drop hdR n)
  obtain ⟨k1, k2, k3, k4, k5⟩ := quot_bounds hP (by omega) htop3.1 hbt1 hbt2 hf1 hf2 (by omega) (by omega) hf0
  have hfirst : loopO (fun i1 => (r1_parts_R2 (dig a) (dig b) ((j : Int), dig R, q, ()) (dig R', ()) i1).toO) (((n + 2 : Nat) : Int), 0, ()) = loopO (fun i1 => (r1_parts_R2 (dig a) (dig b) ((j : Int), dig R, q, ()) (dig R', ()) i1).toO) ((n : Int) - 1, V 10000 ((dig R').drop n), ()) := by
   have st : ∀ (t : Nat) (v : Int), n ≤ t → t ≤ n + 2 → v = V 10000 ((dig R').drop (t + 1)) → (r1_parts_R2 (dig a) (dig b) ((j : Int), dig R, q, ()) (dig R', ()) ((t : Int), v, ())).toO = some (.inl ((t : Int) - 1, V 10000 ((dig R').drop t), ())) := by
    intro t v ht1 ht2 hv
    have e1 := V_drop_succD 10000 (dig R') t
    have e2 := Dg_getD (by omega) hdR t
    have e3 := V_nonneg (by omega) (Dg_drop hdR (t + 1))
    have e4 : V 10000 ((dig R').drop (t + 1)) < 10000 ^ 2 := by
     have := V_lt (by omega) (Dg_drop hdR (t + 1))
     have h7 : (10000 : Int) ^ ((dig R').drop (t + 1)).length ≤ 10000 ^ 2 := powI_le (by omega) (by rw [List.length_drop]; omega)
     omega
    subst hv
    simp only [r1_parts_R2, w1, w2, gi_nat]
    refine uT sd ?_
    by_cases ct : t < (dig R').length
    ·refine uT sd (uN sd ?_)
     repeat (first | refine uV ?_ | refine uB ?_ | refine uN sd ?_ | refine uT sd ?_ | refine uF sd ?_ | refine uN (by simp) ?_)
     rw [toO_ok, w64_id (x := (t : Int) - 1) (by omega), w64_id (x := V 10000 ((dig R').drop (t + 1)) * 10000) (by omega), w64_id (by omega), e1, Int.add_comm, Int.mul_comm]
    ·refine uF sd ?_
     repeat (first | refine uV ?_ | refine uB ?_ | refine uN sd ?_ | refine uT sd ?_ | refine uF sd ?_ | refine uN (by simp) ?_)
     rw [getD_ge (by omega)] at e1
     rw [toO_ok, w64_id (x := (t : Int) - 1) (by omega), w64_id (by omega), e1, Int.zero_add, Int.mul_comm]
   have s1 := st (n + 2) 0 (by omega) (by omega) (by rw [V_drop_ge _ (by omega)])
   rw [show (((n + 2 : Nat) : Int)) - 1 = ((n + 1 : Nat) : Int) by omega] at s1
   rw [loopO_next s1]
   have s2 := st (n + 1) _ (by omega) (by omega) rfl
   rw [show (((n + 1 : Nat) : Int)) - 1 = ((n : Nat) : Int) by omega] at s2
   rw [loopO_next s2]
   rw [loopO_next (st n _ (by omega) (by omega) rfl)]
  -- the search
  obtain ⟨Q, hQ⟩ : ∃ Q : Nat, Q = R' / b := ⟨_, rfl⟩
  have hQm := Nat.mod_add_div R' b
  have hQl := Nat.mod_lt R' (show 0 < b by omega)
  rw [← hQ] at hQm
  have hQ4 : Q < 10000 := by
   rw [hQ, Nat.div_lt_iff_lt_mul (by omega), Nat.mul_comm]; exact hR'b
  have hRQ : (R' : Int) = (Q : Int) * b + ((R' % b : Nat) : Int) := by
   have : (R' : Int) = ((R' % b + b * Q : Nat) : Int) := by rw [hQm]
   rw [this]; simp; rw [Int.mul_comm]; omega
  have res : loopO (fun i1 => (r1_parts_R2 (dig a) (dig b) ((j : Int), dig R, q, ()) (dig R', ()) i1).toO) (((n + 2 : Nat) : Int), 0, ()) = some (Sum.inl ((j : Int) - 1, dig (R' % b), q.set j (Q : Int), ())) := by
   rw [hfirst]
   refine loopO_done ?_
   simp only [r1_parts_R2, w1, w2, hwtop, hwtop1]
   refine uF sd (uN (by omega) (uN (by omega) ?_))
   have hd1 : Int.tdiv (V 10000 ((dig R').drop n)) top = V 10000 ((dig R').drop n) / top := Int.tdiv_eq_ediv_of_nonneg hf0
   have hd2 : Int.tdiv (V 10000 ((dig R').drop n)) (top + 1) = V 10000 ((dig R').drop n) / (top + 1) := Int.tdiv_eq_ediv_of_nonneg hf0
   simp only [hd1, hd2]
   have hn1 := Int.ediv_nonneg hf0 (show 0 ≤ top by omega)
   have hlow : V 10000 ((dig R').drop n) / (top + 1) ≤ Q := by
    have : V 10000 ((dig R').drop n) / (top + 1) * b < ((Q : Int) + 1) * b := by
     rw [Int.add_mul]; omega
    have := Int.lt_of_mul_lt_mul_right this (by omega)
    omega
   have hhigh : (Q : Int) < V 10000 ((dig R').drop n) / top + 1 := by
    have : (Q : Int) * b < (V 10000 ((dig R').drop n) / top + 1) * b := by omega
    exact Int.lt_of_mul_lt_mul_right this (by omega)
   have wH : w64 (w64 (V 10000 ((dig R').drop n) / top) + 1) = V 10000 ((dig R').drop n) / top + 1 := by
    rw [w64_id (x := V 10000 ((dig R').drop n) / top) (by omega), w64_id (by omega)]
   have wL : w64 (V 10000 ((dig R').drop n) / (top + 1)) = V 10000 ((dig R').drop n) / (top + 1) := w64_id (by omega)
   simp only [wH, wL]
   generalize V 10000 ((dig R').drop n) / top + 1 = H at *
   generalize V 10000 ((dig R').drop n) / (top + 1) = L at *
   refine uO (H, L, ()) (by repeat (first | refine uV ?_ | refine uB ?_ | refine uN sd ?_ | refine uT sd ?_ | refine uF sd ?_ | refine uN (by simp) ?_); rfl) ?_
   refine loopO_eq (fun i2 : Int × Int × Unit => 0 ≤ i2.2.1 ∧ i2.2.1 ≤ Q ∧ (Q : Int) < i2.1 ∧ i2.1 ≤ 10001) (fun i2 => (i2.1 - i2.2.1).toNat) (fun _ => (.inr (.inl ((j : Int) - 1, dig (R' % b), q.set j (Q : Int), ())) : (Int × Int × Unit) ⊕ ((Int × List Int × List Int × Unit) ⊕ (List Int × List Int × Unit)))) ?_ _ ⟨k4, hlow, hhigh, k3⟩
   rintro ⟨hi, lo, u3⟩ ⟨c1, c2, c3, c4⟩
   dsimp only at c1 c2 c3 c4
   have wd : w64 (hi - lo) = hi - lo := w64_id (by omega)
   simp only [r1_parts_R3, wd]
   by_cases hgap : hi - lo > 1
   ·left
    have wm : w64 (Int.tdiv (w64 (lo + hi)) 2) = (lo + hi) / 2 := by
     rw [w64_id (x := lo + hi) (by omega), Int.tdiv_eq_ediv_of_nonneg (by omega), w64_id (by omega)]
    simp only [wm]
    obtain ⟨mm, hmm⟩ := Int.eq_ofNat_of_zero_le (show 0 ≤ (lo + hi) / 2 by omega)
    rw [hmm]
    have hmB : mm ≤ 10000 ∧ 1 ≤ mm := by omega
    have hprod : S_r1_product (dig b, [(mm : Int)], ()) = some (dig (b * mm), ()) := by
     refine L_r1_product hdb ?_ (by omega) (by simp) (by rw [hVb]; simp [V])
     by_cases cm : mm = 10000
     ·right; rw [cm]; rfl
     ·left; exact Dg_one (by omega) (by omega)
    have lbm : (dig (b * mm)).length ≤ 1000000000000 := by
     have : (dig (b * mm)).length ≤ (dig b).length + 2 := by
      rw [dig_length_le_iff, Nat.pow_add]
      have q1 := dig_length_le_iff.1 (Nat.le_refl (dig b).length)
      exact Nat.mul_lt_mul'' q1 (by omega)
     omega
    have hcutp : S_r1_cut (dig (b * mm), ()) = some (dig (b * mm), ()) := L_r1_cut (dig_dg _) lbm (V_dig _)
    obtain ⟨o1, o2⟩ := ordD_dig (b * mm) R'
    have hle : ordD (dig (b * mm)) (dig R') ≤ 0 ↔ b * mm ≤ R' := by omega
    have hmQ : b * mm ≤ R' ↔ mm ≤ Q := by
     rw [hQ, Nat.le_div_iff_mul_le (by omega), Nat.mul_comm]
    by_cases cm : mm ≤ Q
    ·refine ⟨(hi, (mm : Int), ()), ?_, ⟨by dsimp only; omega, by dsimp only; omega, c3, c4⟩, by dsimp only; omega, (by first | exact True.intro | rfl)⟩
     refine uT (decide_eq_true hgap) (uV ?_)
     refine uC _ hprod (uC _ hcutp (uC _ (L_r1_order _ _ (dig_dg _) (dig_dg _) lbm (by omega)) (uT (decide_eq_true (hle.2 (hmQ.2 cm))) ?_)))
     repeat (first | refine uV ?_ | refine uB ?_ | refine uN sd ?_ | refine uT sd ?_ | refine uF sd ?_ | refine uN (by simp) ?_)
     rfl
    ·refine ⟨((mm : Int), lo, ()), ?_, ⟨c1, c2, by dsimp only; omega, by dsimp only; omega⟩, by dsimp only; omega, (by first | exact True.intro | rfl)⟩
     refine uT (decide_eq_true hgap) (uV ?_)
     refine uC _ hprod (uC _ hcutp (uC _ (L_r1_order _ _ (dig_dg _) (dig_dg _) lbm (by omega)) (uF (decide_eq_false (fun h => cm (hmQ.1 (hle.1 h)))) ?_)))
     repeat (first | refine uV ?_ | refine uB ?_ | refine uN sd ?_ | refine uT sd ?_ | refine uF sd ?_ | refine uN (by simp) ?_)
     rfl
   ·right
    have hlQ : lo = Q := by omega
    subst hlQ
    refine uF (decide_eq_false hgap) ?_
    simp only [w1, w3, Int.toNat_natCast]
    refine uN ⟨by omega, by omega⟩ ?_
    have hprod : S_r1_product (dig b, [(Q : Int)], ()) = some (dig (b * Q), ()) := L_r1_product hdb (Or.inl (Dg_one (by omega) (by omega))) (by omega) (by simp) (by rw [hVb]; simp [V])
    have hdiff : S_r1_difference (dig R', dig (b * Q), ()) = some (dig (R' % b), ()) := by
     have := L_r1_difference (a := dig R') (b := dig (b * Q)) (n := R' % b) (dig_dg _) (dig_dg _) (by omega) (dig_length_mono (by omega)) (by rw [V_dig, V_dig]; omega) (by rw [V_dig, V_dig]; omega)
     exact this
    refine uC _ hprod (uC _ hdiff ?_)
    repeat (first | refine uV ?_ | refine uB ?_ | refine uN sd ?_ | refine uT sd ?_ | refine uF sd ?_ | refine uN (by simp) ?_)
    rw [toO_ok, w64_id (x := (j : Int) - 1) (by omega), Nat.zero_add]
  refine ⟨((j : Int) - 1, dig (R' % b), q.set j (Q : Int), ()), ?_, ⟨j, R' % b, by omega, rfl, rfl, hQl, by simp; omega, Dg_set g6 ⟨by omega, by omega⟩ _, ?_⟩, by dsimp only; omega, (by first | exact True.intro | rfl)⟩
  ·simp only [r1_parts_R1, gi_nat, w1]
   have htk3 : List.take (1 + (dig R).length) ([(dig a).getD j 0] ++ dig R) = (dig a).getD j 0 :: dig R := by
    rw [List.take_of_length_le (by simp; omega)]; rfl
   simp only [htk3]
   have w5 : w64 (((n + 1 : Nat) : Int) + 1) = ((n + 2 : Nat) : Int) := by rw [w64_id (by omega)]; omega
   simp only [w5]
   refine uT sd (uN sd (uN (by omega) (uC _ hcut ?_)))
   refine uO (((n + 2 : Nat) : Int), 0, ()) (by repeat (first | refine uV ?_ | refine uB ?_ | refine uN sd ?_ | refine uT sd ?_ | refine uF sd ?_ | refine uN (by simp) ?_); rfl) ?_
   exact res
  ·dsimp only
   rw [V_drop_succD 10000 (dig a) j, hd, g7, V_drop_succD 10000 (q.set j _) j, getD_set_eq (by omega), drop_set_lt _ (by omega)]
   have : (d : Int) + 10000 * (V 10000 (q.drop (j + 1)) * b + R) = 10000 * (V 10000 (q.drop (j + 1)) * b) + R' := by rw [hR']; simp; grind
   rw [this, hRQ]
   grind
end Go.Vs
set_option maxRecDepth 100000
namespace Go.Vs
open Go Go.Vg Go.Proofs
noncomputable section
def r2_Lowest_L : LTab := []
def r2_Lowest_t (n : Bool × List Int × Unit) (d : Bool × List Int × Unit) : TT (((Bool × List Int × Unit) × (Bool × List Int × Unit) × Unit) × Unit) :=
 .ite (d.1)
 (.call (S_r1_Turn ((n.1, n.2.1, ()), ())) Dd21 fun y =>
 .call (S_r1_Turn ((d.1, d.2.1, ()), ())) Dd21 fun y1 =>
 .call (S_r1_Divisor ((y.1.1, y.1.2.1, ()), (y1.1.1, y1.1.2.1, ()), ())) Dd21 fun y2 =>
 .call (S_r1_Parts ((y.1.1, y.1.2.1, ()), (y2.1.1, y2.1.2.1, ()), ())) Dd24 fun y3 =>
 .call (S_r1_Parts ((y1.1.1, y1.1.2.1, ()), (y2.1.1, y2.1.2.1, ()), ())) Dd24 fun y4 =>
 .ok ((((y3.1.1, y3.1.2.1, ()), (y4.1.1, y4.1.2.1, ()), ()), ())))
 (.call (S_r1_Divisor ((n.1, n.2.1, ()), (d.1, d.2.1, ()), ())) Dd21 fun y5 =>
 .call (S_r1_Parts ((n.1, n.2.1, ()), (y5.1.1, y5.1.2.1, ()), ())) Dd24 fun y6 =>
 .call (S_r1_Parts ((d.1, d.2.1, ()), (y5.1.1, y5.1.2.1, ()), ())) Dd24 fun y7 =>
 .ok ((((y6.1.1, y6.1.2.1, ()), (y7.1.1, y7.1.2.1, ()), ()), ())))
def r2_Quick_L : LTab := []
def r2_Quick_t (n : Int) (d : Int) : TT (((Bool × List Int × Unit) × (Bool × List Int × Unit) × Unit) × Unit) :=
 .call (S_r1_Integer (n, ())) Dd21 fun y =>
 .call (S_r1_Integer (d, ())) Dd21 fun y1 =>
 .call (S_r2_Lowest (y.1, y1.1, ())) Dd25 fun y2 =>
 .ok ((((y2.1.1.1, y2.1.1.2.1, ()), (y2.1.2.1.1, y2.1.2.1.2.1, ()), ()), ()))
def r2_Right_L : LTab := []
def r2_Right_t (a : List UInt8 × List UInt8 × Unit) : TT (Bool × Unit) :=
 .call (S_r1_Right (a.1, ())) Dd1 fun y =>
 .ite (!y.1)
 (.ok ((false, ())))
 (.call (S_r1_Right (a.2.1, ())) Dd1 fun y1 =>
 .ite (!y1.1)
 (.ok ((false, ())))
 (.call (S_r1_In (a.1, ())) Dd21 fun y2 =>
 .call (S_r1_In (a.2.1, ())) Dd21 fun y3 =>
 .ite (y3.1.1)
 (.ok ((false, ())))
 (.ite (len y3.1.2.1 == 0)
 (.ok ((false, ())))
 (.call (S_r1_Divisor ((y2.1.1, y2.1.2.1, ()), (y3.1.1, y3.1.2.1, ()), ())) Dd21 fun y4 =>
 .call (S_r1_Text (y4.1, ())) Dd2 fun y5 =>
 .ok ((y5.1 == #[49].toList, ()))))))
def r2_In_L : LTab := []
def r2_In_t (a : List UInt8 × List UInt8 × Unit) : TT (((Bool × List Int × Unit) × (Bool × List Int × Unit) × Unit) × Unit) :=
 .call (S_r1_In (a.1, ())) Dd21 fun y =>
 .call (S_r1_In (a.2.1, ())) Dd21 fun y1 =>
 .ok ((((y.1.1, y.1.2.1, ()), (y1.1.1, y1.1.2.1, ()), ()), ()))
def r2_Out_L : LTab := []
def r2_Out_t (r : (Bool × List Int × Unit) × (Bool × List Int × Unit) × Unit) : TT ((List UInt8 × List UInt8 × Unit) × Int × Unit) :=
 .call (S_r1_Out ((r.1.1, r.1.2.1, ()), ())) Dd11 fun y =>
 .call (S_r1_Out ((r.2.1.1, r.2.1.2.1, ()), ())) Dd11 fun y1 =>
 .ite (y.2.1 != 0)
 (.ok (((#[].toList, #[].toList, ()), 6, ())))
 (.ite (y1.2.1 != 0)
 (.ok (((#[].toList, #[].toList, ()), 6, ())))
 (.ok (((y.1, y1.1, ()), 0, ()))))
def r2_Plus_t (a : (Bool × List Int × Unit) × (Bool × List Int × Unit) × Unit) (b : (Bool × List Int × Unit) × (Bool × List Int × Unit) × Unit) : TT (((Bool × List Int × Unit) × (Bool × List Int × Unit) × Unit) × Unit) :=
 .call (S_r1_Times ((a.1.1, a.1.2.1, ()), (b.2.1.1, b.2.1.2.1, ()), ())) Dd21 fun y =>
 .call (S_r1_Times ((b.1.1, b.1.2.1, ()), (a.2.1.1, a.2.1.2.1, ()), ())) Dd21 fun y1 =>
 .call (S_r1_Plus (y.1, y1.1, ())) Dd21 fun y2 =>
 .call (S_r1_Times ((a.2.1.1, a.2.1.2.1, ()), (b.2.1.1, b.2.1.2.1, ()), ())) Dd21 fun y3 =>
 .call (S_r2_Lowest ((y2.1.1, y2.1.2.1, ()), y3.1, ())) Dd25 fun y4 =>
 .ok ((((y4.1.1.1, y4.1.1.2.1, ()), (y4.1.2.1.1, y4.1.2.1.2.1, ()), ()), ()))
def r2_Times_L : LTab := []
def r2_Times_t (a : (Bool × List Int × Unit) × (Bool × List Int × Unit) × Unit) (b : (Bool × List Int × Unit) × (Bool × List Int × Unit) × Unit) : TT (((Bool × List Int × Unit) × (Bool × List Int × Unit) × Unit) × Unit) :=
 .call (S_r1_Times ((a.1.1, a.1.2.1, ()), (b.1.1, b.1.2.1, ()), ())) Dd21 fun y =>
 .call (S_r1_Times ((a.2.1.1, a.2.1.2.1, ()), (b.2.1.1, b.2.1.2.1, ()), ())) Dd21 fun y1 =>
 .call (S_r2_Lowest (y.1, y1.1, ())) Dd25 fun y2 =>
 .ok ((((y2.1.1.1, y2.1.1.2.1, ()), (y2.1.2.1.1, y2.1.2.1.2.1, ()), ()), ()))
def r2_Order_L : LTab := []
def r2_Order_t (a : (Bool × List Int × Unit) × (Bool × List Int × Unit) × Unit) (b : (Bool × List Int × Unit) × (Bool × List Int × Unit) × Unit) : TT (Int × Unit) :=
 .call (S_r1_Times ((a.1.1, a.1.2.1, ()), (b.2.1.1, b.2.1.2.1, ()), ())) Dd21 fun y =>
 .call (S_r1_Times ((b.1.1, b.1.2.1, ()), (a.2.1.1, a.2.1.2.1, ()), ())) Dd21 fun y1 =>
 .call (S_r1_Order (y.1, y1.1, ())) Dd6 fun y2 =>
 .ok ((y2.1, ()))
def r2_Of_L : LTab := []
def r2_Of_t (n : Int) (d : Int) : TT ((List UInt8 × List UInt8 × Unit) × Int × Unit) :=
 .ite (d == 0)
 (.ok (((#[].toList, #[].toList, ()), 7, ())))
 (.call (S_r2_Quick (n, d, ())) Dd25 fun y =>
 .call (S_r2_Out (y.1, ())) Dd14 fun y1 =>
 .ok (((y1.1.1, y1.1.2.1, ()), y1.2.1, ())))
def r2_Add_t (a : List UInt8 × List UInt8 × Unit) (b : List UInt8 × List UInt8 × Unit) : TT ((List UInt8 × List UInt8 × Unit) × Int × Unit) :=
 .call (S_r2_Right ((a.1, a.2.1, ()), ())) Dd1 fun y =>
 .ite (!y.1)
 (.ok (((#[].toList, #[].toList, ()), 20, ())))
 (.call (S_r2_Right ((b.1, b.2.1, ()), ())) Dd1 fun y1 =>
 .ite (!y1.1)
 (.ok (((#[].toList, #[].toList, ()), 20, ())))
 (.call (S_r2_In ((a.1, a.2.1, ()), ())) Dd25 fun y2 =>
 .call (S_r2_In ((b.1, b.2.1, ()), ())) Dd25 fun y3 =>
 .call (S_r2_Plus (y2.1, y3.1, ())) Dd25 fun y4 =>
 .call (S_r2_Out (y4.1, ())) Dd14 fun y5 =>
 .ok (((y5.1.1, y5.1.2.1, ()), y5.2.1, ()))))
def r2_Mul_L : LTab := []
def r2_Mul_t (a : List UInt8 × List UInt8 × Unit) (b : List UInt8 × List UInt8 × Unit) : TT ((List UInt8 × List UInt8 × Unit) × Int × Unit) :=
 .call (S_r2_Right ((a.1, a.2.1, ()), ())) Dd1 fun y =>
 .ite (!y.1)
 (.ok (((#[].toList, #[].toList, ()), 20, ())))
 (.call (S_r2_Right ((b.1, b.2.1, ()), ())) Dd1 fun y1 =>
 .ite (!y1.1)
 (.ok (((#[].toList, #[].toList, ()), 20, ())))
 (.call (S_r2_In ((a.1, a.2.1, ()), ())) Dd25 fun y2 =>
 .call (S_r2_In ((b.1, b.2.1, ()), ())) Dd25 fun y3 =>
 .call (S_r2_Times (y2.1, y3.1, ())) Dd25 fun y4 =>
 .call (S_r2_Out (y4.1, ())) Dd14 fun y5 =>
 .ok (((y5.1.1, y5.1.2.1, ()), y5.2.1, ()))))
def r2_Raised_L : LTab := []
def r2_Raised_t (a : (Bool × List Int × Unit) × (Bool × List Int × Unit) × Unit) (n : Int) : TT (((Bool × List Int × Unit) × (Bool × List Int × Unit) × Unit) × Unit) :=
 .call (S_r1_Raised ((a.1.1, a.1.2.1, ()), n, ())) Dd21 fun y =>
 .call (S_r1_Raised ((a.2.1.1, a.2.1.2.1, ()), n, ())) Dd21 fun y1 =>
 .ok ((((y.1.1, y.1.2.1, ()), (y1.1.1, y1.1.2.1, ()), ()), ()))
def r2_Pow_L : LTab := []
def r2_Pow_t (a : List UInt8 × List UInt8 × Unit) (n : Int) : TT ((List UInt8 × List UInt8 × Unit) × Int × Unit) :=
 .call (S_r2_Right ((a.1, a.2.1, ()), ())) Dd1 fun y =>
 .ite (!y.1)
 (.ok (((#[].toList, #[].toList, ()), 20, ())))
 (.ite (decide (n < 0))
 (.ok (((#[].toList, #[].toList, ()), 2, ())))
 (.ite (decide (n > 40))
 (.ok (((#[].toList, #[].toList, ()), 2, ())))
 (.call (S_r2_In ((a.1, a.2.1, ()), ())) Dd25 fun y1 =>
 .call (S_r2_Raised (y1.1, n, ())) Dd25 fun y2 =>
 .call (S_r2_Out (y2.1, ())) Dd14 fun y3 =>
 .ok (((y3.1.1, y3.1.2.1, ()), y3.2.1, ())))))
def r3_Right_L : LTab := []
def r3_Right_t (b : Int × Int × Unit) : TT (Bool × Unit) :=
 .ite (decide (b.1 ≥ -1000000000000000000))
 (.ite (decide (b.1 ≤ b.2.1))
 (.ok ((decide (b.2.1 ≤ 1000000000000000000), ())))
 (.ok ((false, ()))))
 (.ok ((false, ())))
def r3_Value_L : LTab := []
def r3_Value_t (n : Int) : TT (((Bool × List Int × Unit) × (Bool × List Int × Unit) × Unit) × Unit) :=
 .call (S_r2_Quick (n, 1000000000000, ())) Dd25 fun y =>
 .ok ((((y.1.1.1, y.1.1.2.1, ()), (y.1.2.1.1, y.1.2.1.2.1, ()), ()), ()))
def r3_Has_L : LTab := []
def r3_Has_t (b : Int × Int × Unit) (a : List UInt8 × List UInt8 × Unit) : TT (Bool × Int × Unit) :=
 .call (S_r3_Right ((b.1, b.2.1, ()), ())) Dd1 fun y =>
 .ite (!y.1)
 (.ok ((false, 30, ())))
 (.call (S_r2_Right ((a.1, a.2.1, ()), ())) Dd1 fun y1 =>
 .ite (!y1.1)
 (.ok ((false, 20, ())))
 (.call (S_r2_In ((a.1, a.2.1, ()), ())) Dd25 fun y2 =>
 .call (S_r3_Value (b.1, ())) Dd25 fun y3 =>
 .call (S_r2_Order (y3.1, ((y2.1.1.1, y2.1.1.2.1, ()), (y2.1.2.1.1, y2.1.2.1.2.1, ()), ()), ())) Dd6 fun y4 =>
 .ite (decide (y4.1 ≤ 0))
 (.call (S_r3_Value (b.2.1, ())) Dd25 fun y5 =>
 .call (S_r2_Order (((y2.1.1.1, y2.1.1.2.1, ()), (y2.1.2.1.1, y2.1.2.1.2.1, ()), ()), y5.1, ())) Dd6 fun y6 =>
 .ok ((decide (y6.1 ≤ 0), 0, ())))
 (.ok ((false, 0, ())))))
end
end Go.Vs
namespace Go.Vs
open Go Go.Vg
theorem rara_inj {p q : Rat × Rat} (h : (ra p.1, ra p.2, ()) = (ra q.1, ra q.2, ())) : p = q := by
 obtain ⟨h1, h2⟩ := Prod.mk.inj h
 obtain ⟨h2, -⟩ := Prod.mk.inj h2
 exact Prod.ext (ra_inj h1) (ra_inj h2)
theorem divInt_parts (n d : Int) (hd : d ≠ 0) : ∃ s : Int, s.natAbs = n.natAbs ∧ Rat.divInt n d = mkRat s d.natAbs ∧ s = (if d < 0 then -n else n) := by
 rcases Int.lt_or_le d 0 with c | c
 ·refine ⟨-n, by omega, ?_, by rw [if_pos c]⟩
  rw [← Rat.neg_divInt_neg, ← Rat.divInt_ofNat]
  congr 1; omega
 ·refine ⟨n, rfl, ?_, by rw [if_neg (by omega)]⟩
  rw [← Rat.divInt_ofNat]
  congr 1; omega
theorem bdq_divInt {k : Nat} {n d : Int} (hd : d ≠ 0) (h1 : Bd k n.natAbs) (h2 : Bd k d.natAbs) : BdQ k (Rat.divInt n d) := by
 obtain ⟨s, e1, e2, -⟩ := divInt_parts n d hd
 obtain ⟨g, t, hg, g0, e0, f1, f2⟩ := mkRat_parts s (d := d.natAbs) (by omega)
 rw [e2]
 refine ⟨?_, ?_⟩
 ·rw [f1, ← abs_of_mul e0 g0, e1]; exact bd_div _ h1
 ·rw [f2]; exact bd_div _ h2
theorem L_r2_Lowest {n d : Int} (h1 : Bd 6 n.natAbs) (h2 : Bd 6 d.natAbs) (h3 : d ≠ 0) : S_r2_Lowest (pl n, pl d, ()) = some (ra (Rat.divInt n d), ()) := spec_at (enc := fun x : Int × Int => (pl x.1, pl x.2, ())) (n, d) ⟨h1, h2, h3⟩ (fun b hb => plpl_inj hb)
theorem lowest_core {s : Int} {d : Nat} (hd : d ≠ 0) (h1 : Bd 6 s.natAbs) (h2 : Bd 6 d) : ∃ g : Nat, g = Nat.gcd s.natAbs d ∧ g ≠ 0 ∧ Bd 6 g ∧ s / (g : Int) = (mkRat s d).num ∧ (d : Int) / (g : Int) = ((mkRat s d).den : Int) := by
 obtain ⟨g, t, hg, g0, e0, f1, f2⟩ := mkRat_parts s hd
 refine ⟨g, hg, g0, by rw [hg]; exact bd_gcd h1 h2, ?_, ?_⟩
 ·rw [f1, e0, Int.mul_ediv_cancel_left _ (by omega)]
 ·rw [f2]; simp
theorem r2_Lowest_law (x x' : PlT) (y) (h : S_r2_Lowest (x, x', ()) = some y) : (r2_Lowest_t x x').toO = some y := by
 obtain ⟨⟨n, d⟩, hp, hx, rfl⟩ := spec_some h
 obtain ⟨rfl, hx2⟩ := Prod.mk.inj hx; obtain ⟨rfl, -⟩ := Prod.mk.inj hx2; dsimp only
 obtain ⟨l1, l2, l3⟩ := hp
 dsimp only at l1 l2 l3
 obtain ⟨s, e1, e2, e3⟩ := divInt_parts n d l3
 obtain ⟨g, hg, g0, bg, q1, q2⟩ := lowest_core (s := s) (d := d.natAbs) (by omega) (by rw [e1]; exact l1) l2
 rw [e2]
 unfold r2_Lowest_t
 dsimp only
 have hgcd : Nat.gcd s.natAbs d.natAbs = g := hg.symm
 have g0' : (g : Int) ≠ 0 := by omega
 by_cases c : d < 0
 ·rw [if_pos c] at e3
  subst e3
  refine uT (decide_eq_true c) ?_
  refine uC _ (L_r1_Turn (bd_le l1 (by omega))) (uC _ (L_r1_Turn (bd_le l2 (by omega))) ?_)
  have hdv := L_r1_Divisor (a := -n) (b := -d) (bd_neg (bd_le l1 (by omega))) (bd_neg (bd_le l2 (by omega)))
  rw [Int.natAbs_neg d, hgcd] at hdv
  refine uC _ hdv ?_
  refine uC _ (L_r1_Parts (b := (g : Int)) (bd_neg l1) bg g0') ?_
  refine uC _ (L_r1_Parts (b := (g : Int)) (bd_neg l2) bg g0') ?_
  rw [q1, show -d = (d.natAbs : Int) by omega, q2]; rfl
 ·rw [if_neg c] at e3
  subst e3
  refine uF (decide_eq_false c) ?_
  have hdv := L_r1_Divisor (a := s) (b := d) (bd_le l1 (by omega)) (bd_le l2 (by omega))
  rw [hgcd] at hdv
  refine uC _ hdv ?_
  refine uC _ (L_r1_Parts (b := (g : Int)) l1 bg g0') ?_
  refine uC _ (L_r1_Parts (b := (g : Int)) l2 bg g0') ?_
  rw [q1, show d = (d.natAbs : Int) by omega, Int.natAbs_natCast, q2]; rfl
theorem i64_bd {n : Int} (h : inI64 n) : Bd 0 n.natAbs := bd_small (by have := h.1; have := h.2; omega)
theorem L_r2_Quick {n d : Int} (h1 : inI64 n) (h2 : inI64 d) (h3 : d ≠ 0) : S_r2_Quick (n, d, ()) = some (ra (Rat.divInt n d), ()) := spec_at (enc := fun x : Int × Int => (x.1, x.2, ())) (n, d) ⟨h1, h2, h3⟩ (fun b hb => by
 obtain ⟨e1, e2⟩ := Prod.mk.inj hb
 obtain ⟨e2, -⟩ := Prod.mk.inj e2
 exact Prod.ext e1 e2)
theorem r2_Quick_law (n d : Int) (y) (h : S_r2_Quick (n, d, ()) = some y) : (r2_Quick_t n d).toO = some y := by
 obtain ⟨⟨n', d'⟩, hp, hx, rfl⟩ := spec_some h
 obtain ⟨rfl, hx2⟩ := Prod.mk.inj hx; obtain ⟨rfl, -⟩ := Prod.mk.inj hx2; dsimp only
 obtain ⟨l1, l2, l3⟩ := hp
 exact uC _ (L_r1_Integer l1) (uC _ (L_r1_Integer l2) (uC _ (L_r2_Lowest (bd_le (i64_bd l1) (by omega)) (bd_le (i64_bd l2) (by omega)) l3) rfl))
theorem L_r2_Right {s : FxT} (h : shF s) : S_r2_Right (s, ()) = some ((rdF s).isSome, ()) := by unfold S_r2_Right; rw [if_pos h]
theorem r2_Right_law (a : FxT) (y) (h : S_r2_Right (a, ()) = some y) : (r2_Right_t a).toO = some y := by
 unfold S_r2_Right at h
 split at h
 case isFalse => cases h
 case isTrue hl =>
 injection h with h
 subst h
 obtain ⟨s, t, u⟩ := a
 obtain ⟨l1, l2⟩ := hl
 dsimp only at l1 l2 ⊢
 have hs := rdF_eq s t
 unfold r2_Right_t
 refine uC _ (L_r1_Right l1) ?_
 cases hn : rdW s with
 | none =>
  rw [hn] at hs
  rw [show rdF (s, t, u) = none from hs]
  exact uT rfl rfl
 | some n =>
  refine uF rfl (uC _ (L_r1_Right l2) ?_)
  cases hd : rdW t with
  | none =>
   rw [hn, hd] at hs
   rw [show rdF (s, t, u) = none from hs]
   exact uT rfl rfl
  | some d =>
   rw [hn, hd] at hs
   dsimp only at hs
   obtain ⟨f1, rfl⟩ := rdW_some hn
   obtain ⟨f2, rfl⟩ := rdW_some hd
   have b1 := bd_fit f1
   have b2 := bd_fit f2
   refine uF rfl (uC _ (L_r1_In f1) (uC _ (L_r1_In f2) ?_))
   dsimp only
   by_cases hp : 0 < d
   case neg =>
    rw [dif_neg (fun h => hp h.1)] at hs
    rw [show rdF (dec n, dec d, u) = none from hs]
    by_cases c : d < 0
    ·exact uT (decide_eq_true c) rfl
    ·have : d = 0 := by omega
     subst this
     exact uF rfl (uT (by rw [Int.natAbs_zero, dig_zero]; rfl) rfl)
   refine uF sd (uF ?_ ?_)
   ·rw [beq_eq_false_iff_ne, len_eq]
    intro h
    have := dig_nil_iff.1 (List.length_eq_zero_iff.1 (show (dig d.natAbs).length = 0 by omega))
    omega
   have hdv := L_r1_Divisor (a := n) (b := d) (bd_le b1 (by omega)) (bd_le b2 (by omega))
   refine uC _ hdv (uC _ (L_r1_Text (bd_le (bd_gcd b1 b2) (by omega))) ?_)
   have h1 : decN 1 = #[49].toList := by rw [decN_one (by omega)]; rfl
   rw [toO_ok, dec_nat]
   by_cases hcop : n.natAbs.Coprime d.natAbs
   ·rw [dif_pos ⟨hp, hcop⟩] at hs
    rw [show rdF (dec n, dec d, u) = some _ from hs]
    have : Nat.gcd n.natAbs d.natAbs = 1 := hcop
    rw [this, h1]; rfl
   ·rw [dif_neg (fun h => hcop h.2)] at hs
    rw [show rdF (dec n, dec d, u) = none from hs]
    have : (decN (Nat.gcd n.natAbs d.natAbs) == #[49].toList) = false := by
     rw [beq_eq_false_iff_ne]
     exact fun h => hcop (decN_inj (h.trans h1.symm))
    rw [this]; rfl
theorem L_r2_In {q : Rat} (h : FitQ q) : S_r2_In (fx q, ()) = some (ra q, ()) := spec_at (enc := fun x : Rat => (fx x, ())) q h (fun b hb => fx_inj (Prod.mk.inj hb).1)
theorem r2_In_law (a : FxT) (y) (h : S_r2_In (a, ()) = some y) : (r2_In_t a).toO = some y := by
 obtain ⟨q, hp, hx, rfl⟩ := spec_some h
 obtain ⟨rfl, -⟩ := Prod.mk.inj hx
 refine uC _ (L_r1_In hp.1) (uC (pl q.den, ()) ?_ rfl)
 have := L_r1_In hp.2
 rwa [dec_nat] at this
theorem L_r2_Out {q : Rat} (h : BdQ 6 q) : S_r2_Out (ra q, ()) = some (wrF q) := spec_at (enc := fun x : Rat => (ra x, ())) q h (fun b hb => ra_inj (Prod.mk.inj hb).1)
theorem r2_Out_law (x : RaT) (y) (h : S_r2_Out (x, ()) = some y) : (r2_Out_t x).toO = some y := by
 obtain ⟨q, hp, hx, rfl⟩ := spec_some h
 obtain ⟨rfl, -⟩ := Prod.mk.inj hx
 refine uC _ (L_r1_Out hp.1) (uC _ (L_r1_Out (z := (q.den : Int)) hp.2) ?_)
 by_cases c1 : Fit q.num
 ·rw [wrW_pos c1]
  by_cases c2 : Fit q.den
  ·rw [wrF_pos ⟨c1, c2⟩, wrW_pos c2]
   refine uF rfl (uF rfl ?_)
   rw [toO_ok, dec_nat]
  ·rw [wrF_neg (fun h => c2 h.2), wrW_neg c2]
   exact uF rfl (uT rfl rfl)
 ·rw [wrW_neg c1, wrF_neg (fun h => c1 h.1)]
  exact uT rfl rfl
theorem L_r2_Plus {p q : Rat} (h1 : BdQ 3 p) (h2 : BdQ 3 q) : S_r2_Plus (ra p, ra q, ()) = some (ra (p + q), ()) := spec_at (enc := fun x : Rat × Rat => (ra x.1, ra x.2, ())) (p, q) ⟨h1, h2⟩ (fun b hb => rara_inj hb)
theorem r2_Plus_law (x x' : RaT) (y) (h : S_r2_Plus (x, x', ()) = some y) : (r2_Plus_t x x').toO = some y := by
 obtain ⟨⟨p, q⟩, hp, hx, rfl⟩ := spec_some h
 obtain ⟨rfl, hx2⟩ := Prod.mk.inj hx; obtain ⟨rfl, -⟩ := Prod.mk.inj hx2; dsimp only
 obtain ⟨⟨p1, p2⟩, q1, q2⟩ := hp
 dsimp only at p1 p2 q1 q2
 have t1 := bd_absmul p1 (bd_nat q2)
 have t2 := bd_absmul q1 (bd_nat p2)
 have t3 := bd_absmul (bd_nat p2) (bd_nat q2)
 refine uC _ (L_r1_Times (bd_le p1 (by omega)) (bd_nat (bd_le q2 (by omega)))) ?_
 refine uC _ (L_r1_Times (bd_le q1 (by omega)) (bd_nat (bd_le p2 (by omega)))) ?_
 refine uC _ (L_r1_Plus (bd_le t1 (by omega)) (bd_le t2 (by omega))) ?_
 refine uC _ (L_r1_Times (a := (p.den : Int)) (b := (q.den : Int)) (bd_nat (bd_le p2 (by omega))) (bd_nat (bd_le q2 (by omega)))) ?_
 have hd : (p.den : Int) * (q.den : Int) ≠ 0 := by
  have := Nat.mul_ne_zero p.den_nz q.den_nz
  rw [← Int.natCast_mul]; omega
 refine uC _ (L_r2_Lowest (bd_le (bd_absadd t1 t2) (by omega)) (bd_le t3 (by omega)) hd) ?_
 have : Rat.divInt (p.num * q.den + q.num * p.den) ((p.den : Int) * q.den) = p + q := by
  rw [← Int.natCast_mul, Rat.divInt_ofNat, Rat.add_def']
 rw [this]; rfl
theorem L_r2_Times {p q : Rat} (h1 : BdQ 3 p) (h2 : BdQ 3 q) : S_r2_Times (ra p, ra q, ()) = some (ra (p * q), ()) := spec_at (enc := fun x : Rat × Rat => (ra x.1, ra x.2, ())) (p, q) ⟨h1, h2⟩ (fun b hb => rara_inj hb)
theorem r2_Times_law (x x' : RaT) (y) (h : S_r2_Times (x, x', ()) = some y) : (r2_Times_t x x').toO = some y := by
 obtain ⟨⟨p, q⟩, hp, hx, rfl⟩ := spec_some h
 obtain ⟨rfl, hx2⟩ := Prod.mk.inj hx; obtain ⟨rfl, -⟩ := Prod.mk.inj hx2; dsimp only
 obtain ⟨⟨p1, p2⟩, q1, q2⟩ := hp
 dsimp only at p1 p2 q1 q2
 refine uC _ (L_r1_Times (bd_le p1 (by omega)) (bd_le q1 (by omega))) ?_
 refine uC _ (L_r1_Times (a := (p.den : Int)) (b := (q.den : Int)) (bd_nat (bd_le p2 (by omega))) (bd_nat (bd_le q2 (by omega)))) ?_
 have hd : (p.den : Int) * (q.den : Int) ≠ 0 := by
  have := Nat.mul_ne_zero p.den_nz q.den_nz
  rw [← Int.natCast_mul]; omega
 refine uC _ (L_r2_Lowest (bd_le (bd_absmul p1 q1) (by omega)) (bd_le (bd_absmul (bd_nat p2) (bd_nat q2)) (by omega)) hd) ?_
 have : Rat.divInt (p.num * q.num) ((p.den : Int) * q.den) = p * q := by
  rw [← Int.natCast_mul, Rat.divInt_ofNat, Rat.mul_def']
 rw [this]; rfl
theorem L_r2_Order {p q : Rat} (h1 : BdQ 3 p) (h2 : BdQ 3 q) : S_r2_Order (ra p, ra q, ()) = some (ordQ p q, ()) := spec_at (enc := fun x : Rat × Rat => (ra x.1, ra x.2, ())) (p, q) ⟨h1, h2⟩ (fun b hb => rara_inj hb)
theorem r2_Order_law (x x' : RaT) (y) (h : S_r2_Order (x, x', ()) = some y) : (r2_Order_t x x').toO = some y := by
 obtain ⟨⟨p, q⟩, hp, hx, rfl⟩ := spec_some h
 obtain ⟨rfl, hx2⟩ := Prod.mk.inj hx; obtain ⟨rfl, -⟩ := Prod.mk.inj hx2; dsimp only
 obtain ⟨⟨p1, p2⟩, q1, q2⟩ := hp
 dsimp only at p1 p2 q1 q2
 refine uC _ (L_r1_Times (bd_le p1 (by omega)) (bd_nat (bd_le q2 (by omega)))) ?_
 refine uC _ (L_r1_Times (bd_le q1 (by omega)) (bd_nat (bd_le p2 (by omega)))) ?_
 refine uC _ (L_r1_Order (bd_le (bd_absmul p1 (bd_nat q2)) (by omega)) (bd_le (bd_absmul q1 (bd_nat p2)) (by omega))) ?_
 rw [ordQ_eq, Int.sub_eq_add_neg]; rfl
theorem r2_Of_law (n d : Int) (y) (h : S_r2_Of (n, d, ()) = some y) : (r2_Of_t n d).toO = some y := by
 unfold S_r2_Of S_f_Of at h
 split at h
 case isFalse => cases h
 case isTrue hp =>
 obtain ⟨i1, i2⟩ := hp
 dsimp only at i1 i2 h
 unfold ofQ at h
 unfold r2_Of_t
 by_cases c : d = 0
 ·rw [if_pos c] at h
  exact uT (by rw [c]; rfl) h
 ·rw [if_neg c] at h
  refine uF (by simpa using c) (uC _ (L_r2_Quick i1 i2 c) (uC _ (L_r2_Out (bdq_divInt c (bd_le (i64_bd i1) (by omega)) (bd_le (i64_bd i2) (by omega)))) h))
theorem r2_Add_law (a b : FxT) (y) (h : S_r2_Add (a, b, ()) = some y) : (r2_Add_t a b).toO = some y := by
 unfold S_r2_Add at h
 split at h
 case isFalse => cases h
 case isTrue hp =>
 obtain ⟨s1, s2⟩ := hp
 unfold S_f_Add op2F at h
 dsimp only at h s1 s2
 refine uC _ (L_r2_Right s1) ?_
 cases ha : rdF a with
 | none => simp only [ha] at h; exact uT rfl h
 | some p =>
  refine uF rfl (uC _ (L_r2_Right s2) ?_)
  cases hb : rdF b with
  | none => simp only [ha, hb] at h; exact uT rfl h
  | some q =>
   simp only [ha, hb] at h
   refine uF rfl ?_
   have b1 := rdF_bd ha
   have b2 := rdF_bd hb
   obtain ⟨f1, rfl⟩ := rdF_some ha
   obtain ⟨f2, rfl⟩ := rdF_some hb
   refine uC _ (L_r2_In f1) (uC _ (L_r2_In f2) ?_)
   exact uC _ (L_r2_Plus (bdq_le b1 (by omega)) (bdq_le b2 (by omega))) (uC _ (L_r2_Out (bdq_le (bdq_add b1 b2) (by omega))) h)
theorem r2_Mul_law (a b : FxT) (y) (h : S_r2_Mul (a, b, ()) = some y) : (r2_Mul_t a b).toO = some y := by
 unfold S_r2_Mul at h
 split at h
 case isFalse => cases h
 case isTrue hp =>
 obtain ⟨s1, s2⟩ := hp
 unfold S_f_Mul op2F at h
 dsimp only at h s1 s2
 refine uC _ (L_r2_Right s1) ?_
 cases ha : rdF a with
 | none => simp only [ha] at h; exact uT rfl h
 | some p =>
  refine uF rfl (uC _ (L_r2_Right s2) ?_)
  cases hb : rdF b with
  | none => simp only [ha, hb] at h; exact uT rfl h
  | some q =>
   simp only [ha, hb] at h
   refine uF rfl ?_
   have b1 := rdF_bd ha
   have b2 := rdF_bd hb
   obtain ⟨f1, rfl⟩ := rdF_some ha
   obtain ⟨f2, rfl⟩ := rdF_some hb
   refine uC _ (L_r2_In f1) (uC _ (L_r2_In f2) ?_)
   exact uC _ (L_r2_Times (bdq_le b1 (by omega)) (bdq_le b2 (by omega))) (uC _ (L_r2_Out (bdq_le (bdq_mul b1 b2) (by omega))) h)
theorem bdq_fit {q : Rat} (h : FitQ q) : BdQ 3 q := ⟨bd_le (bd_fit h.1) (by omega), bd_le (bd_fit h.2) (by omega)⟩
theorem L_r2_Raised {q : Rat} {n : Nat} (h1 : BdQ 2 q) (h2 : n ≤ 40) : S_r2_Raised (ra q, (n : Int), ()) = some (ra (q ^ n), ()) := by
 refine spec_at (enc := fun x : Rat × Nat => (ra x.1, (x.2 : Int), ())) (q, n) ⟨h1, h2⟩ (fun b hb => ?_)
 obtain ⟨e1, e2⟩ := Prod.mk.inj hb
 obtain ⟨e2, -⟩ := Prod.mk.inj e2
 exact Prod.ext (ra_inj e1) (Int.ofNat.inj e2)
theorem r2_Raised_law (x : RaT) (k : Int) (y) (h : S_r2_Raised (x, k, ()) = some y) : (r2_Raised_t x k).toO = some y := by
 obtain ⟨⟨q, n⟩, hp, hx, rfl⟩ := spec_some h
 obtain ⟨rfl, hx2⟩ := Prod.mk.inj hx; obtain ⟨rfl, -⟩ := Prod.mk.inj hx2; dsimp only
 obtain ⟨⟨h1, h2⟩, h3⟩ := hp
 refine uC _ (L_r1_Raised (Or.inl ⟨h3, h1⟩)) (uC _ (L_r1_Raised (a := (q.den : Int)) (Or.inl ⟨h3, h2⟩)) ?_)
 rw [← Int.natCast_pow]
 show some ((pl (q.num ^ n), pl ((q.den ^ n : Nat) : Int), ()), ()) = some (ra (q ^ n), ())
 unfold ra
 rw [Rat.num_pow, Rat.den_pow]
end Go.Vs
namespace Go.Vs
open Go Go.Vg
theorem r3_Right_law (b : BdT) (y) (h : S_r3_Right (b, ()) = some y) : (r3_Right_t b).toO = some y := by
 injection h with h
 subst h
 obtain ⟨lo, hi, u⟩ := b
 unfold r3_Right_t
 dsimp only
 by_cases h1 : lo ≥ -1000000000000000000
 ·refine uT (decide_eq_true h1) ?_
  by_cases h2 : lo ≤ hi
  ·refine uT (decide_eq_true h2) ?_
   rw [toO_ok]
   congr 2
   exact decide_eq_decide.2 ⟨fun h => ⟨h1, h2, h⟩, fun h => h.2.2⟩
  ·refine uF (decide_eq_false h2) ?_
   rw [toO_ok, decide_eq_false (fun h : okB lo hi => h2 h.2.1)]
 ·refine uF (decide_eq_false h1) ?_
  rw [toO_ok, decide_eq_false (fun h : okB lo hi => h1 h.1)]
theorem L_r3_Right (b : BdT) : S_r3_Right (b, ()) = some (decide (okB b.1 b.2.1), ()) := rfl
theorem L_r3_Value {n : Int} (h : inI64 n) : S_r3_Value (n, ()) = some (ra (mkRat n 1000000000000), ()) := by unfold S_r3_Value; rw [if_pos h]
theorem r3_Value_law (n : Int) (y) (h : S_r3_Value (n, ()) = some y) : (r3_Value_t n).toO = some y := by
 unfold S_r3_Value at h
 split at h
 case isFalse => cases h
 case isTrue hp =>
 injection h with h
 subst h
 refine uC _ (L_r2_Quick hp ⟨by omega, by omega⟩ (by omega)) ?_
 have : Rat.divInt n 1000000000000 = mkRat n 1000000000000 := Rat.divInt_ofNat n 1000000000000
 rw [this]; rfl
theorem bdq_mkRat {k : Nat} {n : Int} {d : Nat} (hd : d ≠ 0) (h1 : Bd k n.natAbs) (h2 : Bd k d) : BdQ k (mkRat n d) := by
 obtain ⟨g, t, hg, g0, e0, f1, f2⟩ := mkRat_parts n hd
 refine ⟨?_, ?_⟩
 ·rw [f1, ← abs_of_mul e0 g0]; exact bd_div _ h1
 ·rw [f2]; exact bd_div _ h2
theorem bdq_unit {n : Int} (h : inI64 n) : BdQ 0 (mkRat n 1000000000000) := bdq_mkRat (by omega) (i64_bd h) (bd_small (by omega))
theorem mkRat12 (n : Int) : mkRat n 1000000000000 * one12 = (n : Rat) := mkRat_mul_den n (by omega)
theorem one12_pos : (0 : Rat) < one12 := by unfold one12; decide
theorem ordQ_le (p q : Rat) : ordQ p q ≤ 0 ↔ p ≤ q := by
 have := ordQ_pos p q
 constructor
 ·intro h; exact Rat.not_lt.1 (fun h2 => by have := this.2 h2; omega)
 ·intro h
  rcases Int.lt_or_le 0 (ordQ p q) with h2 | h2
  ·exact absurd h (Rat.not_le.2 (this.1 h2))
  ·exact h2
theorem unit_le_iff (n : Int) (q : Rat) : mkRat n 1000000000000 ≤ q ↔ (n : Rat) ≤ q * one12 := by
 rw [← mkRat12 n]
 constructor
 ·intro h; exact Rat.mul_le_mul_of_nonneg_right h (Rat.le_of_lt one12_pos)
 ·intro h; exact Rat.le_of_mul_le_mul_right h one12_pos
theorem le_unit_iff (n : Int) (q : Rat) : q ≤ mkRat n 1000000000000 ↔ q * one12 ≤ (n : Rat) := by
 rw [← mkRat12 n]
 constructor
 ·intro h; exact Rat.mul_le_mul_of_nonneg_right h (Rat.le_of_lt one12_pos)
 ·intro h; exact Rat.le_of_mul_le_mul_right h one12_pos
theorem r3_Has_law (b : BdT) (a : FxT) (y) (h : S_r3_Has (b, a, ()) = some y) : (r3_Has_t b a).toO = some y := by
 unfold S_r3_Has at h
 split at h
 case isFalse => cases h
 case isTrue hs =>
 injection h with h
 subst h
 unfold hasB
 dsimp only at hs ⊢
 refine uC _ (L_r3_Right _) ?_
 by_cases c : okB b.1 b.2.1
 case neg => rw [if_neg c]; exact uT (by rw [decide_eq_false c]; rfl) rfl
 rw [if_pos c]
 refine uF (by rw [decide_eq_true c]; rfl) (uC _ (L_r2_Right hs) ?_)
 cases ha : rdF a with
 | none => exact uT rfl rfl
 | some q =>
  obtain ⟨f1, rfl⟩ := rdF_some ha
  obtain ⟨c1, c2, c3⟩ := c
  have i1 : inI64 b.1 := ⟨by omega, by omega⟩
  have i2 : inI64 b.2.1 := ⟨by omega, by omega⟩
  refine uF rfl (uC _ (L_r2_In f1) (uC _ (L_r3_Value i1) (uC _ (L_r2_Order (bdq_le (bdq_unit i1) (by omega)) (bdq_fit f1)) ?_)))
  dsimp only
  by_cases d1 : (b.1 : Rat) ≤ q * one12
  ·refine uT (decide_eq_true ((ordQ_le _ _).2 ((unit_le_iff _ _).2 d1))) ?_
   refine uC _ (L_r3_Value i2) (uC _ (L_r2_Order (bdq_fit f1) (bdq_le (bdq_unit i2) (by omega))) ?_)
   rw [toO_ok]
   congr 2
   exact decide_eq_decide.2 ⟨fun h => ⟨d1, (le_unit_iff _ _).1 ((ordQ_le _ _).1 h)⟩, fun h => (ordQ_le _ _).2 ((le_unit_iff _ _).2 h.2)⟩
  ·refine uF (decide_eq_false (fun h => d1 ((unit_le_iff _ _).1 ((ordQ_le _ _).1 h)))) ?_
   rw [toO_ok, decide_eq_false (fun h => d1 h.1)]
theorem rpow_le {a b : Rat} (h0 : 0 ≤ a) (h : a ≤ b) : ∀ n : Nat, a ^ n ≤ b ^ n
 | 0 => by rw [Rat.pow_zero, Rat.pow_zero]; exact Rat.le_refl
 | n + 1 => by
  rw [Rat.pow_succ, Rat.pow_succ]
  have h1 := Rat.mul_le_mul_of_nonneg_right (rpow_le h0 h n) h0
  have h2 : (0 : Rat) ≤ b ^ n := Rat.pow_nonneg (Rat.le_trans h0 h)
  have h3 := Rat.mul_le_mul_of_nonneg_left h h2
  exact Rat.le_trans h1 h3
end Go.Vs
set_option maxRecDepth 100000
namespace Go.Vs
open Go Go.Vg Go.Proofs
noncomputable section
def fm_divide_L : LTab := [(177, 8186, 49153, { tag := 0, ι := (Int) × (List Int) × (List Int) × Unit, vs := .dat (.s 12) (Ty.int IntKind.i64) <| .row 41 (Ty.int IntKind.u32) <| .row 26 (Ty.int IntKind.u32) <| .nil, ks := [4, 11, 10, 9, 8, 5], kh := [41, 26], fresh := 0 }), (209, 63, 95232, { tag := 1, ι := (Int) × Unit, vs := .dat (.s 8) (Ty.int IntKind.u64) <| .nil, ks := [5, 4, 0, 1], kh := [41, 26], fresh := 0 }), (209, 252, 95232, { tag := 2, ι := (Int) × (Int) × Unit, vs := .dat (.s 9) (Ty.int IntKind.u64) <| .dat (.s 8) (Ty.int IntKind.u64) <| .nil, ks := [6, 5, 4, 0, 1], kh := [41, 26], fresh := 0 }), (209, 2042, 100352, { tag := 3, ι := (Int) × (Int) × (Int) × (List Int) × Unit, vs := .dat (.s 77) (Ty.int IntKind.i64) <| .dat (.s 11) (Ty.int IntKind.i64) <| .dat (.s 10) (Ty.int IntKind.u64) <| .row 26 (Ty.int IntKind.u32) <| .nil, ks := [76, 75, 8, 5, 4, 0, 1], kh := [41, 26], fresh := 0 }), (209, 65454, 118784, { tag := 4, ι := (Int) × (Int) × (List Int) × Unit, vs := .dat (.s 125) (Ty.int IntKind.i64) <| .dat (.s 15) (Ty.int IntKind.u32) <| .row 26 (Ty.int IntKind.u32) <| .nil, ks := [124, 123, 8, 5, 4, 0], kh := [41, 26], fresh := 0 })]
def fm_divide_R2_k1 (i1 : (Int) × (Int) × Unit) (y3 : List Int × Unit) (i : Int × List Int × List Int × Unit) : TT (((Int) × (Int) × Unit) ⊕ (((Int) × Unit) ⊕ (((Int) × (List Int) × (List Int) × Unit) ⊕ (List Int × List Int × Unit)))) :=
 .ite (decide (wu64 (i1.1 + wu64 (gi y3.1 (w64 (len y3.1 - 1)) 0)) ≥ 1000000000))
 (.tt <| .lt (wu64 (i1.2.1 - 1) : Int) fun z5 => .triv (Qq z5 ∧ Qq (len y3.1) ∧ Qq (0 : Int) ∧ (Qq 26 ∧ Qq (0 + Int.toNat i.1) ∧ Qq (Int.toNat (w64 (w64 (i.1 + len y3.1) + 1)) - Int.toNat i.1) ∧ Qq true) ∧ Qq y3.1 ∧ True) tv <| .triv ((Qq (189 : TypeId) ∧ Qq i.2.1) ∧ Qq true ∧ (Qq (189 : TypeId) ∧ Qq i.2.2.1) ∧ Qq true ∧ True) tv <| .ok (.inr (.inl ((z5, ())))))
 (.tt <| .lt (wu64 (i1.1 + wu64 (gi y3.1 (w64 (len y3.1 - 1)) 0)) : Int) fun z6 => .lt (wu64 (i1.2.1 - 1) : Int) fun z7 => .triv (Qq z7 ∧ Qq z6 ∧ Qq (wu64 (gi y3.1 (w64 (len y3.1 - 1)) 0) : Int) ∧ Qq (len y3.1) ∧ Qq (0 : Int) ∧ (Qq 26 ∧ Qq (0 + Int.toNat i.1) ∧ Qq (Int.toNat (w64 (w64 (i.1 + len y3.1) + 1)) - Int.toNat i.1) ∧ Qq true) ∧ Qq y3.1 ∧ True) tv <| .triv ((Qq (189 : TypeId) ∧ Qq i.2.1) ∧ Qq true ∧ (Qq (189 : TypeId) ∧ Qq i.2.2.1) ∧ Qq true ∧ True) tv <| .ok (.inl ((z6, z7, ()))))
def fm_divide_R2 (m : List Int) (o : List Int) (y : Int × Unit) (y3 : List Int × Unit) (y4 : List Int × Unit) (i : Int × List Int × List Int × Unit) (i1 : (Int) × (Int) × Unit) : TT (((Int) × (Int) × Unit) ⊕ (((Int) × Unit) ⊕ (((Int) × (List Int) × (List Int) × Unit) ⊕ (List Int × List Int × Unit)))) :=
 .ite (decide (i1.2.1 ≥ 1000000000))
 (fm_divide_R2_k1 i1 y3 i)
 (.need (inb (w64 (len y3.1 - 2)) (len y3.1)) <| .need (inb (w64 (len y3.1 - 2)) (↑(Int.toNat (w64 (w64 (i.1 + len y3.1) + 1)) - Int.toNat i.1) : Int)) <| .ite (decide (wu64 (i1.2.1 * wu64 (gi y3.1 (w64 (len y3.1 - 2)) 0)) > wu64 (wu64 (i1.1 * 1000000000) + wu64 (List.getD i.2.2.1 (0 + Int.toNat i.1 + Int.toNat (w64 (len y3.1 - 2))) 0))))
  (fm_divide_R2_k1 i1 y3 i)
  (.tt <| .lt (i1.2.1 : Int) fun z11 => .triv (Qq z11 ∧ Qq (len y3.1) ∧ Qq (0 : Int) ∧ (Qq 26 ∧ Qq (0 + Int.toNat i.1) ∧ Qq (Int.toNat (w64 (w64 (i.1 + len y3.1) + 1)) - Int.toNat i.1) ∧ Qq true) ∧ Qq y3.1 ∧ True) tv <| .triv ((Qq (189 : TypeId) ∧ Qq i.2.1) ∧ Qq true ∧ (Qq (189 : TypeId) ∧ Qq i.2.2.1) ∧ Qq true ∧ True) tv <| .ok (.inr (.inl ((z11, ()))))))
def fm_divide_R5 (m : List Int) (o : List Int) (y : Int × Unit) (y3 : List Int × Unit) (y4 : List Int × Unit) (i : Int × List Int × List Int × Unit) (j : Int × Unit) (i2 : Int × Int × Int × List Int × Unit) (i3 : (Int) × (Int) × (List Int) × Unit) : TT (((Int) × (Int) × (List Int) × Unit) ⊕ (((Int) × (Int) × (Int) × (List Int) × Unit) ⊕ (((Int) × (List Int) × (List Int) × Unit) ⊕ (List Int × List Int × Unit)))) :=
 .ite (decide (i3.1 < len y3.1))
 (.need (inb i3.1 (len y3.1)) <| .need (inb i3.1 (↑(Int.toNat (w64 (w64 (i.1 + len y3.1) + 1)) - Int.toNat i.1) : Int)) <| .ite (decide (wu32 (wu32 (List.getD i3.2.2.1 (0 + Int.toNat i.1 + Int.toNat i3.1) 0 + gi y3.1 i3.1 0) + i3.2.1) ≥ 1000000000))
 (.need (inb i3.1 (↑(Int.toNat (w64 (w64 (i.1 + len y3.1) + 1)) - Int.toNat i.1) : Int)) <| .tt <| .lt (w64 (i3.1 + 1) : Int) fun z20 => .lt (List.set i3.2.2.1 (0 + Int.toNat i.1 + Int.toNat i3.1) (wu32 (wu32 (wu32 (List.getD i3.2.2.1 (0 + Int.toNat i.1 + Int.toNat i3.1) 0 + gi y3.1 i3.1 0) + i3.2.1) - 1000000000)) : List Int) fun z21 => .triv (Qq (1 : Int) ∧ Qq z20 ∧ Qq (len y3.1) ∧ Qq y3.1 ∧ Qq (wu64 (j.1 - 1)) ∧ Qq (len y3.1) ∧ Qq (0 : Int) ∧ (Qq 26 ∧ Qq (0 + Int.toNat i.1) ∧ Qq (Int.toNat (w64 (w64 (i.1 + len y3.1) + 1)) - Int.toNat i.1) ∧ Qq true) ∧ True) tv <| .triv ((Qq (189 : TypeId) ∧ Qq i.2.1) ∧ Qq true ∧ (Qq (189 : TypeId) ∧ Qq z21) ∧ Qq true ∧ True) tv <| .ok (.inl ((z20, 1, z21, ()))))
 (.need (inb i3.1 (↑(Int.toNat (w64 (w64 (i.1 + len y3.1) + 1)) - Int.toNat i.1) : Int)) <| .tt <| .lt (w64 (i3.1 + 1) : Int) fun z22 => .lt (List.set i3.2.2.1 (0 + Int.toNat i.1 + Int.toNat i3.1) (wu32 (wu32 (List.getD i3.2.2.1 (0 + Int.toNat i.1 + Int.toNat i3.1) 0 + gi y3.1 i3.1 0) + i3.2.1)) : List Int) fun z23 => .triv (Qq (0 : Int) ∧ Qq z22 ∧ Qq (len y3.1) ∧ Qq y3.1 ∧ Qq (wu64 (j.1 - 1)) ∧ Qq (len y3.1) ∧ Qq (0 : Int) ∧ (Qq 26 ∧ Qq (0 + Int.toNat i.1) ∧ Qq (Int.toNat (w64 (w64 (i.1 + len y3.1) + 1)) - Int.toNat i.1) ∧ Qq true) ∧ True) tv <| .triv ((Qq (189 : TypeId) ∧ Qq i.2.1) ∧ Qq true ∧ (Qq (189 : TypeId) ∧ Qq z23) ∧ Qq true ∧ True) tv <| .ok (.inl ((z22, 0, z23, ())))))
 (.need (inb (len y3.1) (↑(Int.toNat (w64 (w64 (i.1 + len y3.1) + 1)) - Int.toNat i.1) : Int)) <| .need (inb i.1 (↑(Int.toNat (w64 (w64 (len m - len y3.1) + 1))) : Int)) <| .tt <| .lt (w64 (i.1 - 1) : Int) fun z24 => .lt (List.set i.2.1 (0 + Int.toNat i.1) (wu32 (wu64 (j.1 - 1))) : List Int) fun z25 => .lt (List.set i3.2.2.1 (0 + Int.toNat i.1 + Int.toNat (len y3.1)) 0 : List Int) fun z26 => .triv (Qq z24 ∧ (Qq 41 ∧ Qq 0 ∧ Qq (Int.toNat (w64 (w64 (len m - len y3.1) + 1))) ∧ Qq true) ∧ Qq (len y3.1) ∧ (Qq 26 ∧ Qq 0 ∧ Qq (Int.toNat (w64 (len m + 1))) ∧ Qq true) ∧ Qq y3.1 ∧ Qq (wu32 (Int.tdiv 1000000000 (wu32 (gi o (w64 (len o - 1)) 0 + 1))) : Int) ∧ True ∧ True) tv <| .triv ((Qq (189 : TypeId) ∧ Qq z25) ∧ Qq true ∧ (Qq (189 : TypeId) ∧ Qq z26) ∧ Qq true ∧ True) tv <| .ok (.inr (.inr (.inl ((z24, z25, z26, ()))))))
def fm_divide_R4 (m : List Int) (o : List Int) (y : Int × Unit) (y3 : List Int × Unit) (y4 : List Int × Unit) (i : Int × List Int × List Int × Unit) (j : Int × Unit) (i2 : (Int) × (Int) × (Int) × (List Int) × Unit) : TT (((Int) × (Int) × (Int) × (List Int) × Unit) ⊕ (((Int) × (List Int) × (List Int) × Unit) ⊕ (List Int × List Int × Unit))) :=
 .ite (decide (i2.1 < len y3.1))
 (.need (inb i2.1 (len y3.1)) <| .need (inb i2.1 (↑(Int.toNat (w64 (w64 (i.1 + len y3.1) + 1)) - Int.toNat i.1) : Int)) <| .triv (asT Int 1000000000 ≠ 0) (by decide) <| .triv (asT Int 1000000000 ≠ 0) (by decide) <| .ite (decide (w64 (w64 (w64 (List.getD i2.2.2.2.1 (0 + Int.toNat i.1 + Int.toNat i2.1) 0) - i2.2.1) - w64 (Int.tmod (wu64 (i2.2.2.1 + wu64 (j.1 * wu64 (gi y3.1 i2.1 0)))) 1000000000)) < 0))
 (.need (inb i2.1 (↑(Int.toNat (w64 (w64 (i.1 + len y3.1) + 1)) - Int.toNat i.1) : Int)) <| .tt <| .lt (w64 (i2.1 + 1) : Int) fun z13 => .lt (wu64 (Int.tdiv (wu64 (i2.2.2.1 + wu64 (j.1 * wu64 (gi y3.1 i2.1 0)))) 1000000000) : Int) fun z14 => .lt (List.set i2.2.2.2.1 (0 + Int.toNat i.1 + Int.toNat i2.1) (wu32 (w64 (w64 (w64 (w64 (List.getD i2.2.2.2.1 (0 + Int.toNat i.1 + Int.toNat i2.1) 0) - i2.2.1) - w64 (Int.tmod (wu64 (i2.2.2.1 + wu64 (j.1 * wu64 (gi y3.1 i2.1 0)))) 1000000000)) + 1000000000))) : List Int) fun z15 => .triv (Qq z14 ∧ Qq (1 : Int) ∧ Qq z13 ∧ Qq (len y3.1) ∧ Qq y3.1 ∧ Qq j.1 ∧ Qq (len y3.1) ∧ Qq (0 : Int) ∧ (Qq 26 ∧ Qq (0 + Int.toNat i.1) ∧ Qq (Int.toNat (w64 (w64 (i.1 + len y3.1) + 1)) - Int.toNat i.1) ∧ Qq true) ∧ Qq y3.1 ∧ True) tv <| .triv ((Qq (189 : TypeId) ∧ Qq i.2.1) ∧ Qq true ∧ (Qq (189 : TypeId) ∧ Qq z15) ∧ Qq true ∧ True) tv <| .ok (.inl ((z13, 1, z14, z15, ()))))
 (.need (inb i2.1 (↑(Int.toNat (w64 (w64 (i.1 + len y3.1) + 1)) - Int.toNat i.1) : Int)) <| .tt <| .lt (w64 (i2.1 + 1) : Int) fun z16 => .lt (wu64 (Int.tdiv (wu64 (i2.2.2.1 + wu64 (j.1 * wu64 (gi y3.1 i2.1 0)))) 1000000000) : Int) fun z17 => .lt (List.set i2.2.2.2.1 (0 + Int.toNat i.1 + Int.toNat i2.1) (wu32 (w64 (w64 (w64 (List.getD i2.2.2.2.1 (0 + Int.toNat i.1 + Int.toNat i2.1) 0) - i2.2.1) - w64 (Int.tmod (wu64 (i2.2.2.1 + wu64 (j.1 * wu64 (gi y3.1 i2.1 0)))) 1000000000)))) : List Int) fun z18 => .triv (Qq z17 ∧ Qq (0 : Int) ∧ Qq z16 ∧ Qq (len y3.1) ∧ Qq y3.1 ∧ Qq j.1 ∧ Qq (len y3.1) ∧ Qq (0 : Int) ∧ (Qq 26 ∧ Qq (0 + Int.toNat i.1) ∧ Qq (Int.toNat (w64 (w64 (i.1 + len y3.1) + 1)) - Int.toNat i.1) ∧ Qq true) ∧ Qq y3.1 ∧ True) tv <| .triv ((Qq (189 : TypeId) ∧ Qq i.2.1) ∧ Qq true ∧ (Qq (189 : TypeId) ∧ Qq z18) ∧ Qq true ∧ True) tv <| .ok (.inl ((z16, 0, z17, z18, ())))))
 (.need (inb (len y3.1) (↑(Int.toNat (w64 (w64 (i.1 + len y3.1) + 1)) - Int.toNat i.1) : Int)) <| .ite (decide (w64 (w64 (List.getD i2.2.2.2.1 (0 + Int.toNat i.1 + Int.toNat (len y3.1)) 0) - i2.2.1) < w64 i2.2.2.1))
 (.loop 4 (.tt <| .lt (i2.2.2.2.1 : List Int) fun z19 => .triv (Qq (0 : Int) ∧ Qq (0 : Int) ∧ Qq (len y3.1) ∧ Qq y3.1 ∧ Qq (wu64 (j.1 - 1)) ∧ Qq (len y3.1) ∧ Qq (0 : Int) ∧ (Qq 26 ∧ Qq (0 + Int.toNat i.1) ∧ Qq (Int.toNat (w64 (w64 (i.1 + len y3.1) + 1)) - Int.toNat i.1) ∧ Qq true) ∧ True) tv <| .triv ((Qq (189 : TypeId) ∧ Qq i.2.1) ∧ Qq true ∧ (Qq (189 : TypeId) ∧ Qq z19) ∧ Qq true ∧ True) tv <| .ok ((0, 0, z19, ()))) (fm_divide_R5 m o y y3 y4 i j i2))
 (.need (inb (len y3.1) (↑(Int.toNat (w64 (w64 (i.1 + len y3.1) + 1)) - Int.toNat i.1) : Int)) <| .need (inb i.1 (↑(Int.toNat (w64 (w64 (len m - len y3.1) + 1))) : Int)) <| .tt <| .lt (w64 (i.1 - 1) : Int) fun z27 => .lt (List.set i.2.1 (0 + Int.toNat i.1) (wu32 j.1) : List Int) fun z28 => .lt (List.set i2.2.2.2.1 (0 + Int.toNat i.1 + Int.toNat (len y3.1)) 0 : List Int) fun z29 => .triv (Qq z27 ∧ (Qq 41 ∧ Qq 0 ∧ Qq (Int.toNat (w64 (w64 (len m - len y3.1) + 1))) ∧ Qq true) ∧ Qq (len y3.1) ∧ (Qq 26 ∧ Qq 0 ∧ Qq (Int.toNat (w64 (len m + 1))) ∧ Qq true) ∧ Qq y3.1 ∧ Qq (wu32 (Int.tdiv 1000000000 (wu32 (gi o (w64 (len o - 1)) 0 + 1))) : Int) ∧ True ∧ True) tv <| .triv ((Qq (189 : TypeId) ∧ Qq z28) ∧ Qq true ∧ (Qq (189 : TypeId) ∧ Qq z29) ∧ Qq true ∧ True) tv <| .ok (.inr (.inl ((z27, z28, z29, ()))))))
def fm_divide_R3 (m : List Int) (o : List Int) (y : Int × Unit) (y3 : List Int × Unit) (y4 : List Int × Unit) (i : Int × List Int × List Int × Unit) (j : (Int) × Unit) : TT (((Int) × (List Int) × (List Int) × Unit) ⊕ (List Int × List Int × Unit)) :=
 .loop 3 (.tt <| .lt (i.2.2.1 : List Int) fun z12 => .triv (Qq (0 : Int) ∧ Qq (0 : Int) ∧ Qq (0 : Int) ∧ Qq (len y3.1) ∧ Qq y3.1 ∧ Qq j.1 ∧ Qq (len y3.1) ∧ Qq (0 : Int) ∧ (Qq 26 ∧ Qq (0 + Int.toNat i.1) ∧ Qq (Int.toNat (w64 (w64 (i.1 + len y3.1) + 1)) - Int.toNat i.1) ∧ Qq true) ∧ Qq y3.1 ∧ True) tv <| .triv ((Qq (189 : TypeId) ∧ Qq i.2.1) ∧ Qq true ∧ (Qq (189 : TypeId) ∧ Qq z12) ∧ Qq true ∧ True) tv <| .ok ((0, 0, 0, z12, ()))) (fm_divide_R4 m o y y3 y4 i j)
def fm_divide_R1 (m : List Int) (o : List Int) (y : Int × Unit) (y3 : List Int × Unit) (y4 : List Int × Unit) (i : (Int) × (List Int) × (List Int) × Unit) : TT (((Int) × (List Int) × (List Int) × Unit) ⊕ (List Int × List Int × Unit)) :=
 .ite (decide (i.1 ≥ 0))
 (.need (inc (w64 (w64 (i.1 + len y3.1) + 1)) (↑(Int.toNat (w64 (len m + 1))) : Int)) <| .need (inc i.1 (↑(Int.toNat (w64 (w64 (i.1 + len y3.1) + 1))) : Int)) <| .tt <| .tt <| .need (inb (w64 (len y3.1 - 1)) (len y3.1)) <| .need (inb (len y3.1) (↑(Int.toNat (w64 (w64 (i.1 + len y3.1) + 1)) - Int.toNat i.1) : Int)) <| .need (inb (w64 (len y3.1 - 1)) (↑(Int.toNat (w64 (w64 (i.1 + len y3.1) + 1)) - Int.toNat i.1) : Int)) <| .need (wu64 (gi y3.1 (w64 (len y3.1 - 1)) 0) ≠ 0) <| .need (wu64 (gi y3.1 (w64 (len y3.1 - 1)) 0) ≠ 0) <| .join 1 (ι := (Int) × Unit) (.loop 2 (.tt <| .lt (Int.tmod (wu64 (wu64 (wu64 (List.getD i.2.2.1 (0 + Int.toNat i.1 + Int.toNat (len y3.1)) 0) * 1000000000) + wu64 (List.getD i.2.2.1 (0 + Int.toNat i.1 + Int.toNat (w64 (len y3.1 - 1))) 0))) (wu64 (gi y3.1 (w64 (len y3.1 - 1)) 0)) : Int) fun z3 => .lt (wu64 (Int.tdiv (wu64 (wu64 (wu64 (List.getD i.2.2.1 (0 + Int.toNat i.1 + Int.toNat (len y3.1)) 0) * 1000000000) + wu64 (List.getD i.2.2.1 (0 + Int.toNat i.1 + Int.toNat (w64 (len y3.1 - 1))) 0))) (wu64 (gi y3.1 (w64 (len y3.1 - 1)) 0))) : Int) fun z4 => .triv (Qq z4 ∧ Qq z3 ∧ Qq (wu64 (gi y3.1 (w64 (len y3.1 - 1)) 0) : Int) ∧ Qq (len y3.1) ∧ Qq (0 : Int) ∧ (Qq 26 ∧ Qq (0 + Int.toNat i.1) ∧ Qq (Int.toNat (w64 (w64 (i.1 + len y3.1) + 1)) - Int.toNat i.1) ∧ Qq true) ∧ Qq y3.1 ∧ True) tv <| .triv ((Qq (189 : TypeId) ∧ Qq i.2.1) ∧ Qq true ∧ (Qq (189 : TypeId) ∧ Qq i.2.2.1) ∧ Qq true ∧ True) tv <| .ok ((z3, z4, ()))) (fm_divide_R2 m o y y3 y4 i)) (fm_divide_R3 m o y y3 y4 i))
 (.need (inc (len y3.1) (↑(Int.toNat (w64 (len m + 1))) : Int)) <| .call (S_fm_trim (List.take (Int.toNat (len y3.1)) i.2.2.1, ())) Dd0 fun y5 =>
 .call (S_fm_short (y5.1, wu32 (Int.tdiv 1000000000 (wu32 (gi o (w64 (len o - 1)) 0 + 1))), ())) Dd12 fun y6 =>
 .call (S_fm_trim (List.take (Int.toNat (w64 (w64 (len m - len y3.1) + 1))) i.2.1, ())) Dd0 fun y7 =>
 .ok (.inr ((y7.1, y6.1, ()))))
def fm_divide_t (m : List Int) (o : List Int) : TT (List Int × List Int × Unit) :=
 .call (S_fm_compare (m, o, ())) Dd6 fun y =>
 .ite (decide (y.1 < 0))
 (.ok (([], m, ())))
 (.ite (len o == 1)
 (.need (asT Int 0 ≤ 0 ∧ 0 < len o) <| .call (S_fm_short (m, gi o 0 0, ())) Dd12 fun y1 =>
 .call (S_f_fromSmall (wu64 y1.2.1, ())) Dd0 fun y2 =>
 .ok ((y1.1, y2.1, ())))
 (.need (inb (w64 (len o - 1)) (len o)) <| .need (wu32 (gi o (w64 (len o - 1)) 0 + 1) ≠ 0) <| .call (S_fm_times (o, [wu32 (Int.tdiv 1000000000 (wu32 (gi o (w64 (len o - 1)) 0 + 1)))], ())) Dd0 fun y3 =>
 .need (0 ≤ w64 (len m + 1) ∧ w64 (len m + 1) ≤ w64 (len m + 1) ∧ w64 (len m + 1) * (↑4 : Int) ≤ 140737488355328) <| .call (S_fm_times (m, [wu32 (Int.tdiv 1000000000 (wu32 (gi o (w64 (len o - 1)) 0 + 1)))], ())) Dd0 fun y4 =>
 .need (0 ≤ w64 (w64 (len m - len y3.1) + 1) ∧ w64 (w64 (len m - len y3.1) + 1) ≤ w64 (w64 (len m - len y3.1) + 1) ∧ w64 (w64 (len m - len y3.1) + 1) * (↑4 : Int) ≤ 140737488355328) <| .loop 0 (.tt <| .lt (w64 (len m - len y3.1) : Int) fun z => .lt (List.replicate (Int.toNat (w64 (z + 1))) 0 : List Int) fun z1 => .lt (over (List.replicate (Int.toNat (w64 (len m + 1))) 0) 0 (List.take (Int.toNat (w64 (len m + 1))) y4.1) : List Int) fun z2 => .triv (Qq z ∧ (Qq 41 ∧ Qq 0 ∧ Qq (Int.toNat (w64 (z + 1))) ∧ Qq true) ∧ Qq (len y3.1) ∧ (Qq 26 ∧ Qq 0 ∧ Qq (Int.toNat (w64 (len m + 1))) ∧ Qq true) ∧ Qq y3.1 ∧ Qq (wu32 (Int.tdiv 1000000000 (wu32 (gi o (w64 (len o - 1)) 0 + 1))) : Int) ∧ True ∧ True) tv <| .triv ((Qq (189 : TypeId) ∧ Qq z1) ∧ Qq true ∧ (Qq (189 : TypeId) ∧ Qq z2) ∧ Qq true ∧ True) tv <| .ok ((z, z1, z2, ()))) (fm_divide_R1 m o y y3 y4)))
def wm_divide_L : LTab := [(247, 8186, 49153, { tag := 0, ι := (Int) × (List Int) × (List Int) × Unit, vs := .dat (.s 12) (Ty.int IntKind.i64) <| .row 41 (Ty.int IntKind.u32) <| .row 26 (Ty.int IntKind.u32) <| .nil, ks := [4, 11, 10, 9, 8, 5], kh := [41, 26], fresh := 0 }), (269, 63, 95232, { tag := 1, ι := (Int) × Unit, vs := .dat (.s 8) (Ty.int IntKind.u64) <| .nil, ks := [5, 4, 0, 1], kh := [41, 26], fresh := 0 }), (269, 252, 95232, { tag := 2, ι := (Int) × (Int) × Unit, vs := .dat (.s 9) (Ty.int IntKind.u64) <| .dat (.s 8) (Ty.int IntKind.u64) <| .nil, ks := [6, 5, 4, 0, 1], kh := [41, 26], fresh := 0 }), (269, 2042, 100352, { tag := 3, ι := (Int) × (Int) × (Int) × (List Int) × Unit, vs := .dat (.s 77) (Ty.int IntKind.i64) <| .dat (.s 11) (Ty.int IntKind.i64) <| .dat (.s 10) (Ty.int IntKind.u64) <| .row 26 (Ty.int IntKind.u32) <| .nil, ks := [76, 75, 8, 5, 4, 0, 1], kh := [41, 26], fresh := 0 }), (269, 65454, 118784, { tag := 4, ι := (Int) × (Int) × (List Int) × Unit, vs := .dat (.s 125) (Ty.int IntKind.i64) <| .dat (.s 15) (Ty.int IntKind.u32) <| .row 26 (Ty.int IntKind.u32) <| .nil, ks := [124, 123, 8, 5, 4, 0], kh := [41, 26], fresh := 0 })]
end
end Go.Vs
