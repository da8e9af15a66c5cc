/-
  Trees of what the functions compute, and their laws. Own work; no condition.
-/
import Derived.Test.YtakjojajnblpoaaGreatDoorClL1
import Derived.Test.YtakjojajnblpoaaGreatDoorProg
set_option linter.unusedVariables false
set_option linter.unusedSimpArgs false
namespace Go.Vs
open Go Go.Vg
theorem wrF_pos {q : Rat} (h : FitQ q) : wrF q = (fx q, 0, ()) := if_pos h
theorem wrF_neg {q : Rat} (h : ¬ FitQ q) : wrF q = (([], [], ()), 6, ()) := if_neg h
theorem wrW_pos {z : Int} (h : Fit z) : wrW z = (dec z, 0, ()) := if_pos h
theorem wrW_neg {z : Int} (h : ¬ Fit z) : wrW z = ([], 6, ()) := if_neg h
theorem L_w_write {z : Int} (h : Bd 8 z.natAbs) : S_w_write (sg z, ()) = some (wrW z) := spec_at (enc := fun x : Int => (sg x, ())) z h (fun b hb => sg_inj (Prod.mk.inj hb).1)
theorem w_write_law (s : SgT) (y) (h : S_w_write (s, ()) = some y) : (w_write_t s).toO = some y := by
 obtain ⟨a, hp, hx, rfl⟩ := spec_some h
 obtain ⟨rfl, -⟩ := Prod.mk.inj hx
 unfold w_write_t
 dsimp only
 refine uC _ (L_wm_length hp) ?_
 by_cases hf : Fit a
 ·have hf' : (decN a.natAbs).length ≤ 600 := hf
  rw [wrW_pos hf]
  refine uF (by simp; omega) ?_
  have hb : Bd 0 a.natAbs := bd_fit hf
  by_cases h0 : a < 0
  ·refine uT (by simp; omega) (uC _ (L_wm_digits hb) (uN ?_ ?_))
   ·show 1 + (decN a.natAbs).length ≤ lim
    unfold lim; omega
   ·rw [dec_neg h0]; rfl
  ·refine uF (by simp; omega) (uC _ (L_wm_digits hb) ?_)
   rw [dec_nonneg (by omega)]; rfl
 ·have hf' : ¬ (decN a.natAbs).length ≤ 600 := hf
  rw [wrW_neg hf]
  exact uT (by simp; omega) rfl
theorem L_fr_write {q : Rat} (h : BdQ 8 q) : S_fr_write (rt q, ()) = some (wrF q) := spec_at (enc := fun x : Rat => (rt x, ())) q h (fun b hb => rt_inj (Prod.mk.inj hb).1)
theorem fr_write_law (x : RtT) (y) (h : S_fr_write (x, ()) = some y) : (fr_write_t x).toO = some y := by
 obtain ⟨q, hp, hx, rfl⟩ := spec_some h
 obtain ⟨rfl, -⟩ := Prod.mk.inj hx
 obtain ⟨h1, h2⟩ := hp
 unfold fr_write_t
 dsimp only
 refine uC _ (L_fm_length h1) ?_
 by_cases hf : Fit q.num
 ·have hf' : (decN q.num.natAbs).length ≤ 600 := hf
  refine uF (by simp; omega) ?_
  refine uC _ (L_fm_length h2) ?_
  by_cases hg : Fit q.den
  ·have hg' : (decN q.den).length ≤ 600 := hg
   rw [wrF_pos ⟨hf, hg⟩]
   refine uF (by simp; omega) ?_
   exact uC _ (L_fi_text (bd_fit hf)) (uC _ (L_fm_digits (bd_fit hg)) rfl)
  ·have hg' : ¬ (decN q.den).length ≤ 600 := hg
   rw [wrF_neg (fun h => hg h.2)]
   exact uT (by simp; omega) rfl
 ·have hf' : ¬ (decN q.num.natAbs).length ≤ 600 := hf
  rw [wrF_neg (fun h => hf h.1)]
  exact uT (by simp; omega) rfl
theorem sign_of_mul {g : Nat} {t n : Int} (h : n = g * t) (g0 : g ≠ 0) : (n < 0 ↔ t < 0) ∧ (n = 0 ↔ t = 0) := by
 subst h
 rcases Int.lt_trichotomy t 0 with h | h | h
 ·have := Int.mul_neg_of_pos_of_neg (show (0 : Int) < g by omega) h
  omega
 ·subst h; simp
 ·have := Int.mul_pos (show (0 : Int) < g by omega) h
  omega
theorem abs_of_mul {g : Nat} {t n : Int} (h : n = g * t) (g0 : g ≠ 0) : n.natAbs / g = t.natAbs := by
 rw [h, Int.natAbs_mul, Int.natAbs_natCast, Nat.mul_div_cancel_left _ (by omega)]
theorem L_f_reduced {n : Int} {d : Nat} (h1 : Bd 7 n.natAbs) (h2 : Bd 7 d) (h3 : d ≠ 0) : S_f_reduced (sg n, mag d, ()) = some (rt (mkRat n d), ()) := spec_at (enc := fun x : Int × Nat => (sg x.1, mag x.2, ())) (n, d) ⟨h1, h2, h3⟩ (fun b hb => sgm_inj hb)
theorem f_reduced_law (n : SgT) (d : List Int) (y) (h : S_f_reduced (n, d, ()) = some y) : (f_reduced_t n d).toO = some y := by
 obtain ⟨⟨a, b⟩, hp, hx, rfl⟩ := spec_some h
 obtain ⟨rfl, hx2⟩ := Prod.mk.inj hx; obtain ⟨rfl, -⟩ := Prod.mk.inj hx2; dsimp only
 obtain ⟨l1, l2, l3⟩ := hp
 simp only at l1 l2 l3
 obtain ⟨g, t, hg, g0, hn, e1, e2⟩ := mkRat_parts a l3
 have hs := sign_of_mul hn g0
 have ha := abs_of_mul hn g0
 unfold f_reduced_t
 dsimp only
 have bg : Bd 7 g := by rw [hg]; repeat (first | assumption | exact bd_le (by assumption) (by omega) | exact bd_small (by omega) | refine bd_gcd ?_ ?_ | refine bd_div _ ?_ | refine bd_mod _ ?_ | refine bd_absadd ?_ ?_ | refine bd_absmul ?_ ?_ | refine bd_neg ?_ | refine bd_mul ?_ ?_ | refine bd_add ?_ ?_ | refine bd_nat ?_)
 refine uC (mag g, ()) (by rw [L_fm_gcd (by repeat (first | assumption | exact bd_le (by assumption) (by omega) | exact bd_small (by omega) | refine bd_gcd ?_ ?_ | refine bd_div _ ?_ | refine bd_mod _ ?_ | refine bd_absadd ?_ ?_ | refine bd_absmul ?_ ?_ | refine bd_neg ?_ | refine bd_mul ?_ ?_ | refine bd_add ?_ ?_ | refine bd_nat ?_)) (by repeat (first | assumption | exact bd_le (by assumption) (by omega) | exact bd_small (by omega) | refine bd_gcd ?_ ?_ | refine bd_div _ ?_ | refine bd_mod _ ?_ | refine bd_absadd ?_ ?_ | refine bd_absmul ?_ ?_ | refine bd_neg ?_ | refine bd_mul ?_ ?_ | refine bd_add ?_ ?_ | refine bd_nat ?_)), hg]) ?_
 refine uC _ (L_fm_divide (by repeat (first | assumption | exact bd_le (by assumption) (by omega) | exact bd_small (by omega) | refine bd_gcd ?_ ?_ | refine bd_div _ ?_ | refine bd_mod _ ?_ | refine bd_absadd ?_ ?_ | refine bd_absmul ?_ ?_ | refine bd_neg ?_ | refine bd_mul ?_ ?_ | refine bd_add ?_ ?_ | refine bd_nat ?_)) (by repeat (first | assumption | exact bd_le (by assumption) (by omega) | exact bd_small (by omega) | refine bd_gcd ?_ ?_ | refine bd_div _ ?_ | refine bd_mod _ ?_ | refine bd_absadd ?_ ?_ | refine bd_absmul ?_ ?_ | refine bd_neg ?_ | refine bd_mul ?_ ?_ | refine bd_add ?_ ?_ | refine bd_nat ?_)) g0) ?_
 refine uC _ (L_fm_divide (by repeat (first | assumption | exact bd_le (by assumption) (by omega) | exact bd_small (by omega) | refine bd_gcd ?_ ?_ | refine bd_div _ ?_ | refine bd_mod _ ?_ | refine bd_absadd ?_ ?_ | refine bd_absmul ?_ ?_ | refine bd_neg ?_ | refine bd_mul ?_ ?_ | refine bd_add ?_ ?_ | refine bd_nat ?_)) (by repeat (first | assumption | exact bd_le (by assumption) (by omega) | exact bd_small (by omega) | refine bd_gcd ?_ ?_ | refine bd_div _ ?_ | refine bd_mod _ ?_ | refine bd_absadd ?_ ?_ | refine bd_absmul ?_ ?_ | refine bd_neg ?_ | refine bd_mul ?_ ?_ | refine bd_add ?_ ?_ | refine bd_nat ?_)) g0) ?_
 refine uC (sg t, ()) (L_f_signed ha (Or.inr (decide_eq_decide.2 hs.1))) ?_
 show some (((sg t), mag (b / g), ()), ()) = some (rt (mkRat a b), ())
 unfold rt
 rw [e1, e2]
theorem L_fr_negated {q : Rat} (h : BdQ 7 q) : S_fr_negated (rt q, ()) = some (rt (-q), ()) := spec_at (enc := fun x : Rat => (rt x, ())) q h (fun b hb => rt_inj (Prod.mk.inj hb).1)
theorem fr_negated_law (x : RtT) (y) (h : S_fr_negated (x, ()) = some y) : (fr_negated_t x).toO = some y := by
 obtain ⟨q, hp, hx, rfl⟩ := spec_some h
 obtain ⟨rfl, -⟩ := Prod.mk.inj hx
 exact uC _ (L_fi_opposite (bd_le hp.1 (by omega))) rfl
theorem L_fr_inverse {q : Rat} (h : BdQ 7 q) (h0 : q ≠ 0) : S_fr_inverse (rt q, ()) = some (rt q⁻¹, ()) := spec_at (enc := fun x : Rat => (rt x, ())) q ⟨h, h0⟩ (fun b hb => rt_inj (Prod.mk.inj hb).1)
theorem num_ne {q : Rat} (h : q ≠ 0) : q.num ≠ 0 := fun h2 => h (Rat.num_eq_zero.1 h2)
theorem inv_parts {q : Rat} (h : q ≠ 0) : (q⁻¹).num.natAbs = q.den ∧ ((q⁻¹).num < 0 ↔ q.num < 0) ∧ (q⁻¹).den = q.num.natAbs := by
 have h1 := num_ne h
 have h2 := q.den_pos
 rw [Rat.num_inv, Rat.den_inv, if_neg h1]
 rcases Int.lt_or_le q.num 0 with h3 | h3
 ·rw [Int.sign_eq_neg_one_of_neg h3]; omega
 ·rw [Int.sign_eq_one_of_pos (by omega)]; omega
theorem fr_inverse_law (x : RtT) (y) (h : S_fr_inverse (x, ()) = some y) : (fr_inverse_t x).toO = some y := by
 obtain ⟨q, hp, hx, rfl⟩ := spec_some h
 obtain ⟨rfl, -⟩ := Prod.mk.inj hx
 obtain ⟨e1, e2, e3⟩ := inv_parts hp.2
 refine uC (sg (q⁻¹).num, ()) (L_f_signed e1.symm (Or.inr (decide_eq_decide.2 e2.symm))) ?_
 show some ((sg (q⁻¹).num, mag q.num.natAbs, ()), ()) = some (rt q⁻¹, ())
 unfold rt
 rw [e3]
theorem L_fr_add {p q : Rat} (h : BdQ 3 p) (h2 : BdQ 3 q) : S_fr_add (rt p, rt q, ()) = some (rt (p + q), ()) := spec_at (enc := fun x : Rat × Rat => (rt x.1, rt x.2, ())) (p, q) ⟨h, h2⟩ (fun b hb => rtrt_inj hb)
theorem fr_add_law (x x' : RtT) (y) (h : S_fr_add (x, x', ()) = some y) : (fr_add_t x x').toO = some y := by
 obtain ⟨⟨p, q⟩, hp, hx, rfl⟩ := spec_some h
 obtain ⟨rfl, hx2⟩ := Prod.mk.inj hx; obtain ⟨rfl, -⟩ := Prod.mk.inj hx2; dsimp only
 obtain ⟨⟨p1, p2⟩, q1, q2⟩ := hp
 simp only at p1 p2 q1 q2
 obtain ⟨g, h', top, t, hg, ht, hh, g0, h0, htt, e1, e2⟩ := add_parts p q
 have hs := sign_of_mul htt h0
 have ha := abs_of_mul htt h0
 have bg : Bd 3 g := by rw [hg]; repeat (first | assumption | exact bd_le (by assumption) (by omega) | exact bd_small (by omega) | refine bd_gcd ?_ ?_ | refine bd_div _ ?_ | refine bd_mod _ ?_ | refine bd_absadd ?_ ?_ | refine bd_absmul ?_ ?_ | refine bd_neg ?_ | refine bd_mul ?_ ?_ | refine bd_add ?_ ?_ | refine bd_nat ?_)
 have bt : Bd 5 top.natAbs := by
  rw [ht]
  refine bd_absadd (bd_absmul ?_ (bd_nat ?_)) (bd_absmul ?_ (bd_nat ?_)) <;> repeat (first | assumption | exact bd_le (by assumption) (by omega) | exact bd_small (by omega) | refine bd_gcd ?_ ?_ | refine bd_div _ ?_ | refine bd_mod _ ?_ | refine bd_absadd ?_ ?_ | refine bd_absmul ?_ ?_ | refine bd_neg ?_ | refine bd_mul ?_ ?_ | refine bd_add ?_ ?_ | refine bd_nat ?_)
 have bh : Bd 5 h' := by rw [hh]; repeat (first | assumption | exact bd_le (by assumption) (by omega) | exact bd_small (by omega) | refine bd_gcd ?_ ?_ | refine bd_div _ ?_ | refine bd_mod _ ?_ | refine bd_absadd ?_ ?_ | refine bd_absmul ?_ ?_ | refine bd_neg ?_ | refine bd_mul ?_ ?_ | refine bd_add ?_ ?_ | refine bd_nat ?_)
 unfold fr_add_t
 dsimp only
 refine uC (mag g, ()) (by rw [L_fm_gcd (by repeat (first | assumption | exact bd_le (by assumption) (by omega) | exact bd_small (by omega) | refine bd_gcd ?_ ?_ | refine bd_div _ ?_ | refine bd_mod _ ?_ | refine bd_absadd ?_ ?_ | refine bd_absmul ?_ ?_ | refine bd_neg ?_ | refine bd_mul ?_ ?_ | refine bd_add ?_ ?_ | refine bd_nat ?_)) (by repeat (first | assumption | exact bd_le (by assumption) (by omega) | exact bd_small (by omega) | refine bd_gcd ?_ ?_ | refine bd_div _ ?_ | refine bd_mod _ ?_ | refine bd_absadd ?_ ?_ | refine bd_absmul ?_ ?_ | refine bd_neg ?_ | refine bd_mul ?_ ?_ | refine bd_add ?_ ?_ | refine bd_nat ?_)), hg]) ?_
 refine uC _ (L_fm_divide (by repeat (first | assumption | exact bd_le (by assumption) (by omega) | exact bd_small (by omega) | refine bd_gcd ?_ ?_ | refine bd_div _ ?_ | refine bd_mod _ ?_ | refine bd_absadd ?_ ?_ | refine bd_absmul ?_ ?_ | refine bd_neg ?_ | refine bd_mul ?_ ?_ | refine bd_add ?_ ?_ | refine bd_nat ?_)) (by repeat (first | assumption | exact bd_le (by assumption) (by omega) | exact bd_small (by omega) | refine bd_gcd ?_ ?_ | refine bd_div _ ?_ | refine bd_mod _ ?_ | refine bd_absadd ?_ ?_ | refine bd_absmul ?_ ?_ | refine bd_neg ?_ | refine bd_mul ?_ ?_ | refine bd_add ?_ ?_ | refine bd_nat ?_)) g0) ?_
 refine uC _ (L_fm_divide (by repeat (first | assumption | exact bd_le (by assumption) (by omega) | exact bd_small (by omega) | refine bd_gcd ?_ ?_ | refine bd_div _ ?_ | refine bd_mod _ ?_ | refine bd_absadd ?_ ?_ | refine bd_absmul ?_ ?_ | refine bd_neg ?_ | refine bd_mul ?_ ?_ | refine bd_add ?_ ?_ | refine bd_nat ?_)) (by repeat (first | assumption | exact bd_le (by assumption) (by omega) | exact bd_small (by omega) | refine bd_gcd ?_ ?_ | refine bd_div _ ?_ | refine bd_mod _ ?_ | refine bd_absadd ?_ ?_ | refine bd_absmul ?_ ?_ | refine bd_neg ?_ | refine bd_mul ?_ ?_ | refine bd_add ?_ ?_ | refine bd_nat ?_)) g0) ?_
 refine uC _ (L_fi_scaled (by repeat (first | assumption | exact bd_le (by assumption) (by omega) | exact bd_small (by omega) | refine bd_gcd ?_ ?_ | refine bd_div _ ?_ | refine bd_mod _ ?_ | refine bd_absadd ?_ ?_ | refine bd_absmul ?_ ?_ | refine bd_neg ?_ | refine bd_mul ?_ ?_ | refine bd_add ?_ ?_ | refine bd_nat ?_)) (by repeat (first | assumption | exact bd_le (by assumption) (by omega) | exact bd_small (by omega) | refine bd_gcd ?_ ?_ | refine bd_div _ ?_ | refine bd_mod _ ?_ | refine bd_absadd ?_ ?_ | refine bd_absmul ?_ ?_ | refine bd_neg ?_ | refine bd_mul ?_ ?_ | refine bd_add ?_ ?_ | refine bd_nat ?_))) ?_
 refine uC _ (L_fi_scaled (by repeat (first | assumption | exact bd_le (by assumption) (by omega) | exact bd_small (by omega) | refine bd_gcd ?_ ?_ | refine bd_div _ ?_ | refine bd_mod _ ?_ | refine bd_absadd ?_ ?_ | refine bd_absmul ?_ ?_ | refine bd_neg ?_ | refine bd_mul ?_ ?_ | refine bd_add ?_ ?_ | refine bd_nat ?_)) (by repeat (first | assumption | exact bd_le (by assumption) (by omega) | exact bd_small (by omega) | refine bd_gcd ?_ ?_ | refine bd_div _ ?_ | refine bd_mod _ ?_ | refine bd_absadd ?_ ?_ | refine bd_absmul ?_ ?_ | refine bd_neg ?_ | refine bd_mul ?_ ?_ | refine bd_add ?_ ?_ | refine bd_nat ?_))) ?_
 refine uC (sg top, ()) (by rw [L_fi_sum (by repeat (first | assumption | exact bd_le (by assumption) (by omega) | exact bd_small (by omega) | refine bd_gcd ?_ ?_ | refine bd_div _ ?_ | refine bd_mod _ ?_ | refine bd_absadd ?_ ?_ | refine bd_absmul ?_ ?_ | refine bd_neg ?_ | refine bd_mul ?_ ?_ | refine bd_add ?_ ?_ | refine bd_nat ?_)) (by repeat (first | assumption | exact bd_le (by assumption) (by omega) | exact bd_small (by omega) | refine bd_gcd ?_ ?_ | refine bd_div _ ?_ | refine bd_mod _ ?_ | refine bd_absadd ?_ ?_ | refine bd_absmul ?_ ?_ | refine bd_neg ?_ | refine bd_mul ?_ ?_ | refine bd_add ?_ ?_ | refine bd_nat ?_)), ht]) ?_
 refine uC (mag h', ()) (by rw [L_fm_gcd (by repeat (first | assumption | exact bd_le (by assumption) (by omega) | exact bd_small (by omega) | refine bd_gcd ?_ ?_ | refine bd_div _ ?_ | refine bd_mod _ ?_ | refine bd_absadd ?_ ?_ | refine bd_absmul ?_ ?_ | refine bd_neg ?_ | refine bd_mul ?_ ?_ | refine bd_add ?_ ?_ | refine bd_nat ?_)) (by repeat (first | assumption | exact bd_le (by assumption) (by omega) | exact bd_small (by omega) | refine bd_gcd ?_ ?_ | refine bd_div _ ?_ | refine bd_mod _ ?_ | refine bd_absadd ?_ ?_ | refine bd_absmul ?_ ?_ | refine bd_neg ?_ | refine bd_mul ?_ ?_ | refine bd_add ?_ ?_ | refine bd_nat ?_)), hh]) ?_
 refine uC _ (L_fm_divide (by repeat (first | assumption | exact bd_le (by assumption) (by omega) | exact bd_small (by omega) | refine bd_gcd ?_ ?_ | refine bd_div _ ?_ | refine bd_mod _ ?_ | refine bd_absadd ?_ ?_ | refine bd_absmul ?_ ?_ | refine bd_neg ?_ | refine bd_mul ?_ ?_ | refine bd_add ?_ ?_ | refine bd_nat ?_)) (by repeat (first | assumption | exact bd_le (by assumption) (by omega) | exact bd_small (by omega) | refine bd_gcd ?_ ?_ | refine bd_div _ ?_ | refine bd_mod _ ?_ | refine bd_absadd ?_ ?_ | refine bd_absmul ?_ ?_ | refine bd_neg ?_ | refine bd_mul ?_ ?_ | refine bd_add ?_ ?_ | refine bd_nat ?_)) h0) ?_
 refine uC _ (L_fm_divide (by repeat (first | assumption | exact bd_le (by assumption) (by omega) | exact bd_small (by omega) | refine bd_gcd ?_ ?_ | refine bd_div _ ?_ | refine bd_mod _ ?_ | refine bd_absadd ?_ ?_ | refine bd_absmul ?_ ?_ | refine bd_neg ?_ | refine bd_mul ?_ ?_ | refine bd_add ?_ ?_ | refine bd_nat ?_)) (by repeat (first | assumption | exact bd_le (by assumption) (by omega) | exact bd_small (by omega) | refine bd_gcd ?_ ?_ | refine bd_div _ ?_ | refine bd_mod _ ?_ | refine bd_absadd ?_ ?_ | refine bd_absmul ?_ ?_ | refine bd_neg ?_ | refine bd_mul ?_ ?_ | refine bd_add ?_ ?_ | refine bd_nat ?_)) h0) ?_
 refine uC (sg t, ()) (L_f_signed ha (Or.inr (decide_eq_decide.2 hs.1))) ?_
 refine uC _ (L_fm_times (by repeat (first | assumption | exact bd_le (by assumption) (by omega) | exact bd_small (by omega) | refine bd_gcd ?_ ?_ | refine bd_div _ ?_ | refine bd_mod _ ?_ | refine bd_absadd ?_ ?_ | refine bd_absmul ?_ ?_ | refine bd_neg ?_ | refine bd_mul ?_ ?_ | refine bd_add ?_ ?_ | refine bd_nat ?_)) (by repeat (first | assumption | exact bd_le (by assumption) (by omega) | exact bd_small (by omega) | refine bd_gcd ?_ ?_ | refine bd_div _ ?_ | refine bd_mod _ ?_ | refine bd_absadd ?_ ?_ | refine bd_absmul ?_ ?_ | refine bd_neg ?_ | refine bd_mul ?_ ?_ | refine bd_add ?_ ?_ | refine bd_nat ?_))) ?_
 show some ((sg t, mag (p.den / g * (q.den / h')), ()), ()) = some (rt (p + q), ())
 unfold rt
 rw [e1, e2]
theorem L_fr_sub {p q : Rat} (h : BdQ 3 p) (h2 : BdQ 3 q) : S_fr_sub (rt p, rt q, ()) = some (rt (p - q), ()) := spec_at (enc := fun x : Rat × Rat => (rt x.1, rt x.2, ())) (p, q) ⟨h, h2⟩ (fun b hb => rtrt_inj hb)
theorem fr_sub_law (x x' : RtT) (y) (h : S_fr_sub (x, x', ()) = some y) : (fr_sub_t x x').toO = some y := by
 obtain ⟨⟨p, q⟩, hp, hx, rfl⟩ := spec_some h
 obtain ⟨rfl, hx2⟩ := Prod.mk.inj hx; obtain ⟨rfl, -⟩ := Prod.mk.inj hx2; dsimp only
 obtain ⟨bp, bq⟩ := hp
 refine uC _ (L_fr_negated ⟨bd_le bq.1 (by omega), bd_le bq.2 (by omega)⟩) ?_
 refine uC _ (L_fr_add bp ⟨bd_neg bq.1, bq.2⟩) ?_
 rw [Rat.sub_eq_add_neg]; rfl
theorem L_fr_mul {p q : Rat} (h : BdQ 3 p) (h2 : BdQ 3 q) : S_fr_mul (rt p, rt q, ()) = some (rt (p * q), ()) := spec_at (enc := fun x : Rat × Rat => (rt x.1, rt x.2, ())) (p, q) ⟨h, h2⟩ (fun b hb => rtrt_inj hb)
theorem fr_mul_law (x x' : RtT) (y) (h : S_fr_mul (x, x', ()) = some y) : (fr_mul_t x x').toO = some y := by
 obtain ⟨⟨p, q⟩, hp, hx, rfl⟩ := spec_some h
 obtain ⟨rfl, hx2⟩ := Prod.mk.inj hx; obtain ⟨rfl, -⟩ := Prod.mk.inj hx2; dsimp only
 obtain ⟨⟨p1, p2⟩, q1, q2⟩ := hp
 simp only at p1 p2 q1 q2
 obtain ⟨g, h', s, t, hg, hh, g0, h0, hs, ht, e1, e2⟩ := mul_parts p q
 have as1 := abs_of_mul hs g0
 have at' := abs_of_mul ht h0
 have ss := sign_of_mul hs g0
 have st := sign_of_mul ht h0
 have bg : Bd 3 g := by rw [hg]; repeat (first | assumption | exact bd_le (by assumption) (by omega) | exact bd_small (by omega) | refine bd_gcd ?_ ?_ | refine bd_div _ ?_ | refine bd_mod _ ?_ | refine bd_absadd ?_ ?_ | refine bd_absmul ?_ ?_ | refine bd_neg ?_ | refine bd_mul ?_ ?_ | refine bd_add ?_ ?_ | refine bd_nat ?_)
 have bh : Bd 3 h' := by rw [hh]; repeat (first | assumption | exact bd_le (by assumption) (by omega) | exact bd_small (by omega) | refine bd_gcd ?_ ?_ | refine bd_div _ ?_ | refine bd_mod _ ?_ | refine bd_absadd ?_ ?_ | refine bd_absmul ?_ ?_ | refine bd_neg ?_ | refine bd_mul ?_ ?_ | refine bd_add ?_ ?_ | refine bd_nat ?_)
 unfold fr_mul_t
 dsimp only
 refine uC (mag g, ()) (by rw [L_fm_gcd (by repeat (first | assumption | exact bd_le (by assumption) (by omega) | exact bd_small (by omega) | refine bd_gcd ?_ ?_ | refine bd_div _ ?_ | refine bd_mod _ ?_ | refine bd_absadd ?_ ?_ | refine bd_absmul ?_ ?_ | refine bd_neg ?_ | refine bd_mul ?_ ?_ | refine bd_add ?_ ?_ | refine bd_nat ?_)) (by repeat (first | assumption | exact bd_le (by assumption) (by omega) | exact bd_small (by omega) | refine bd_gcd ?_ ?_ | refine bd_div _ ?_ | refine bd_mod _ ?_ | refine bd_absadd ?_ ?_ | refine bd_absmul ?_ ?_ | refine bd_neg ?_ | refine bd_mul ?_ ?_ | refine bd_add ?_ ?_ | refine bd_nat ?_)), hg]) ?_
 refine uC (mag h', ()) (by rw [L_fm_gcd (by repeat (first | assumption | exact bd_le (by assumption) (by omega) | exact bd_small (by omega) | refine bd_gcd ?_ ?_ | refine bd_div _ ?_ | refine bd_mod _ ?_ | refine bd_absadd ?_ ?_ | refine bd_absmul ?_ ?_ | refine bd_neg ?_ | refine bd_mul ?_ ?_ | refine bd_add ?_ ?_ | refine bd_nat ?_)) (by repeat (first | assumption | exact bd_le (by assumption) (by omega) | exact bd_small (by omega) | refine bd_gcd ?_ ?_ | refine bd_div _ ?_ | refine bd_mod _ ?_ | refine bd_absadd ?_ ?_ | refine bd_absmul ?_ ?_ | refine bd_neg ?_ | refine bd_mul ?_ ?_ | refine bd_add ?_ ?_ | refine bd_nat ?_)), hh]) ?_
 refine uC _ (L_fm_divide (by repeat (first | assumption | exact bd_le (by assumption) (by omega) | exact bd_small (by omega) | refine bd_gcd ?_ ?_ | refine bd_div _ ?_ | refine bd_mod _ ?_ | refine bd_absadd ?_ ?_ | refine bd_absmul ?_ ?_ | refine bd_neg ?_ | refine bd_mul ?_ ?_ | refine bd_add ?_ ?_ | refine bd_nat ?_)) (by repeat (first | assumption | exact bd_le (by assumption) (by omega) | exact bd_small (by omega) | refine bd_gcd ?_ ?_ | refine bd_div _ ?_ | refine bd_mod _ ?_ | refine bd_absadd ?_ ?_ | refine bd_absmul ?_ ?_ | refine bd_neg ?_ | refine bd_mul ?_ ?_ | refine bd_add ?_ ?_ | refine bd_nat ?_)) g0) ?_
 refine uC _ (L_fm_divide (by repeat (first | assumption | exact bd_le (by assumption) (by omega) | exact bd_small (by omega) | refine bd_gcd ?_ ?_ | refine bd_div _ ?_ | refine bd_mod _ ?_ | refine bd_absadd ?_ ?_ | refine bd_absmul ?_ ?_ | refine bd_neg ?_ | refine bd_mul ?_ ?_ | refine bd_add ?_ ?_ | refine bd_nat ?_)) (by repeat (first | assumption | exact bd_le (by assumption) (by omega) | exact bd_small (by omega) | refine bd_gcd ?_ ?_ | refine bd_div _ ?_ | refine bd_mod _ ?_ | refine bd_absadd ?_ ?_ | refine bd_absmul ?_ ?_ | refine bd_neg ?_ | refine bd_mul ?_ ?_ | refine bd_add ?_ ?_ | refine bd_nat ?_)) h0) ?_
 refine uC _ (L_fm_divide (by repeat (first | assumption | exact bd_le (by assumption) (by omega) | exact bd_small (by omega) | refine bd_gcd ?_ ?_ | refine bd_div _ ?_ | refine bd_mod _ ?_ | refine bd_absadd ?_ ?_ | refine bd_absmul ?_ ?_ | refine bd_neg ?_ | refine bd_mul ?_ ?_ | refine bd_add ?_ ?_ | refine bd_nat ?_)) (by repeat (first | assumption | exact bd_le (by assumption) (by omega) | exact bd_small (by omega) | refine bd_gcd ?_ ?_ | refine bd_div _ ?_ | refine bd_mod _ ?_ | refine bd_absadd ?_ ?_ | refine bd_absmul ?_ ?_ | refine bd_neg ?_ | refine bd_mul ?_ ?_ | refine bd_add ?_ ?_ | refine bd_nat ?_)) h0) ?_
 refine uC _ (L_fm_divide (by repeat (first | assumption | exact bd_le (by assumption) (by omega) | exact bd_small (by omega) | refine bd_gcd ?_ ?_ | refine bd_div _ ?_ | refine bd_mod _ ?_ | refine bd_absadd ?_ ?_ | refine bd_absmul ?_ ?_ | refine bd_neg ?_ | refine bd_mul ?_ ?_ | refine bd_add ?_ ?_ | refine bd_nat ?_)) (by repeat (first | assumption | exact bd_le (by assumption) (by omega) | exact bd_small (by omega) | refine bd_gcd ?_ ?_ | refine bd_div _ ?_ | refine bd_mod _ ?_ | refine bd_absadd ?_ ?_ | refine bd_absmul ?_ ?_ | refine bd_neg ?_ | refine bd_mul ?_ ?_ | refine bd_add ?_ ?_ | refine bd_nat ?_)) g0) ?_
 refine uC _ (L_fm_times (by repeat (first | assumption | exact bd_le (by assumption) (by omega) | exact bd_small (by omega) | refine bd_gcd ?_ ?_ | refine bd_div _ ?_ | refine bd_mod _ ?_ | refine bd_absadd ?_ ?_ | refine bd_absmul ?_ ?_ | refine bd_neg ?_ | refine bd_mul ?_ ?_ | refine bd_add ?_ ?_ | refine bd_nat ?_)) (by repeat (first | assumption | exact bd_le (by assumption) (by omega) | exact bd_small (by omega) | refine bd_gcd ?_ ?_ | refine bd_div _ ?_ | refine bd_mod _ ?_ | refine bd_absadd ?_ ?_ | refine bd_absmul ?_ ?_ | refine bd_neg ?_ | refine bd_mul ?_ ?_ | refine bd_add ?_ ?_ | refine bd_nat ?_))) ?_
 refine uC (sg (s * t), ()) (L_f_signed (n := p.num.natAbs / g * (q.num.natAbs / h')) (by rw [as1, at', Int.natAbs_mul]) ?_) ?_
 ·by_cases hz : s * t = 0
  ·exact Or.inl hz
  ·right
   show (!(decide (p.num < 0) == decide (q.num < 0))) = decide (s * t < 0)
   have z1 : s ≠ 0 := fun h => hz (by rw [h]; simp)
   have z2 : t ≠ 0 := fun h => hz (by rw [h]; simp)
   rcases Int.lt_or_le s 0 with c1 | c1 <;> rcases Int.lt_or_le t 0 with c2 | c2
   ·have := Int.mul_pos_of_neg_of_neg c1 c2
    rw [decide_eq_true (ss.1.2 c1), decide_eq_true (st.1.2 c2), decide_eq_false (by omega)]; rfl
   ·have := Int.mul_neg_of_neg_of_pos c1 (show 0 < t by omega)
    rw [decide_eq_true (ss.1.2 c1), decide_eq_false (by omega), decide_eq_true (by omega)]; rfl
   ·have := Int.mul_neg_of_pos_of_neg (show 0 < s by omega) c2
    rw [decide_eq_false (by omega), decide_eq_true (st.1.2 c2), decide_eq_true (by omega)]; rfl
   ·have := Int.mul_pos (show 0 < s by omega) (show 0 < t by omega)
    rw [decide_eq_false (by omega), decide_eq_false (by omega), decide_eq_false (by omega)]; rfl
 refine uC _ (L_fm_times (by repeat (first | assumption | exact bd_le (by assumption) (by omega) | exact bd_small (by omega) | refine bd_gcd ?_ ?_ | refine bd_div _ ?_ | refine bd_mod _ ?_ | refine bd_absadd ?_ ?_ | refine bd_absmul ?_ ?_ | refine bd_neg ?_ | refine bd_mul ?_ ?_ | refine bd_add ?_ ?_ | refine bd_nat ?_)) (by repeat (first | assumption | exact bd_le (by assumption) (by omega) | exact bd_small (by omega) | refine bd_gcd ?_ ?_ | refine bd_div _ ?_ | refine bd_mod _ ?_ | refine bd_absadd ?_ ?_ | refine bd_absmul ?_ ?_ | refine bd_neg ?_ | refine bd_mul ?_ ?_ | refine bd_add ?_ ?_ | refine bd_nat ?_))) ?_
 show some ((sg (s * t), mag (p.den / h' * (q.den / g)), ()), ()) = some (rt (p * q), ())
 unfold rt
 rw [e1, e2]
theorem L_fr_order {p q : Rat} (h : BdQ 3 p) (h2 : BdQ 3 q) : S_fr_order (rt p, rt q, ()) = some (ordQ p q, ()) := spec_at (enc := fun x : Rat × Rat => (rt x.1, rt x.2, ())) (p, q) ⟨h, h2⟩ (fun b hb => rtrt_inj hb)
theorem fr_order_law (x x' : RtT) (y) (h : S_fr_order (x, x', ()) = some y) : (fr_order_t x x').toO = some y := by
 obtain ⟨⟨p, q⟩, hp, hx, rfl⟩ := spec_some h
 obtain ⟨rfl, hx2⟩ := Prod.mk.inj hx; obtain ⟨rfl, -⟩ := Prod.mk.inj hx2; dsimp only
 obtain ⟨⟨p1, p2⟩, q1, q2⟩ := hp
 simp only at p1 p2 q1 q2
 unfold fr_order_t
 dsimp only
 refine uC _ (L_fi_scaled (by repeat (first | assumption | exact bd_le (by assumption) (by omega) | exact bd_small (by omega) | refine bd_gcd ?_ ?_ | refine bd_div _ ?_ | refine bd_mod _ ?_ | refine bd_absadd ?_ ?_ | refine bd_absmul ?_ ?_ | refine bd_neg ?_ | refine bd_mul ?_ ?_ | refine bd_add ?_ ?_ | refine bd_nat ?_)) (by repeat (first | assumption | exact bd_le (by assumption) (by omega) | exact bd_small (by omega) | refine bd_gcd ?_ ?_ | refine bd_div _ ?_ | refine bd_mod _ ?_ | refine bd_absadd ?_ ?_ | refine bd_absmul ?_ ?_ | refine bd_neg ?_ | refine bd_mul ?_ ?_ | refine bd_add ?_ ?_ | refine bd_nat ?_))) ?_
 refine uC _ (L_fi_scaled (by repeat (first | assumption | exact bd_le (by assumption) (by omega) | exact bd_small (by omega) | refine bd_gcd ?_ ?_ | refine bd_div _ ?_ | refine bd_mod _ ?_ | refine bd_absadd ?_ ?_ | refine bd_absmul ?_ ?_ | refine bd_neg ?_ | refine bd_mul ?_ ?_ | refine bd_add ?_ ?_ | refine bd_nat ?_)) (by repeat (first | assumption | exact bd_le (by assumption) (by omega) | exact bd_small (by omega) | refine bd_gcd ?_ ?_ | refine bd_div _ ?_ | refine bd_mod _ ?_ | refine bd_absadd ?_ ?_ | refine bd_absmul ?_ ?_ | refine bd_neg ?_ | refine bd_mul ?_ ?_ | refine bd_add ?_ ?_ | refine bd_nat ?_))) ?_
 refine uC _ (L_fi_opposite (bd_le (bd_absmul q1 (bd_nat p2)) (by omega))) ?_
 refine uC _ (L_fi_sum (bd_le (bd_absmul p1 (bd_nat q2)) (by omega)) (bd_neg (bd_le (bd_absmul q1 (bd_nat p2)) (by omega)))) ?_
 refine uC _ (L_fi_sign (bd_le (bd_absadd (bd_absmul p1 (bd_nat q2)) (bd_neg (bd_absmul q1 (bd_nat p2)))) (by omega))) ?_
 rw [ordQ_eq]; rfl
theorem L_fr_near {q : Rat} {s : Nat} (h : BdQ 1 q) (h2 : Bd 1 s) : S_fr_near (rt q, mag s, ()) = some (sg (nearQ q s), ()) := spec_at (enc := fun x : Rat × Nat => (rt x.1, mag x.2, ())) (q, s) ⟨h, h2⟩ (fun b hb => rtm_inj hb)
theorem fr_near_law (x : RtT) (sc : List Int) (y) (h : S_fr_near (x, sc, ()) = some y) : (fr_near_t x sc).toO = some y := by
 obtain ⟨⟨q, s⟩, hp, hx, rfl⟩ := spec_some h
 obtain ⟨rfl, hx2⟩ := Prod.mk.inj hx; obtain ⟨rfl, -⟩ := Prod.mk.inj hx2; dsimp only
 obtain ⟨⟨p1, p2⟩, bs⟩ := hp
 simp only at p1 p2 bs
 have b2 : Bd 1 2 := bd_le (bd_small (by omega)) (by omega)
 unfold fr_near_t
 dsimp only
 have t1 := L_fm_times (a := s) (b := 2) (by repeat (first | assumption | exact bd_le (by assumption) (by omega) | exact bd_small (by omega) | refine bd_gcd ?_ ?_ | refine bd_div _ ?_ | refine bd_mod _ ?_ | refine bd_absadd ?_ ?_ | refine bd_absmul ?_ ?_ | refine bd_neg ?_ | refine bd_mul ?_ ?_ | refine bd_add ?_ ?_ | refine bd_nat ?_)) (by repeat (first | assumption | exact bd_le (by assumption) (by omega) | exact bd_small (by omega) | refine bd_gcd ?_ ?_ | refine bd_div _ ?_ | refine bd_mod _ ?_ | refine bd_absadd ?_ ?_ | refine bd_absmul ?_ ?_ | refine bd_neg ?_ | refine bd_mul ?_ ?_ | refine bd_add ?_ ?_ | refine bd_nat ?_))
 have t2 := L_fm_times (a := q.den) (b := 2) (by repeat (first | assumption | exact bd_le (by assumption) (by omega) | exact bd_small (by omega) | refine bd_gcd ?_ ?_ | refine bd_div _ ?_ | refine bd_mod _ ?_ | refine bd_absadd ?_ ?_ | refine bd_absmul ?_ ?_ | refine bd_neg ?_ | refine bd_mul ?_ ?_ | refine bd_add ?_ ?_ | refine bd_nat ?_)) (by repeat (first | assumption | exact bd_le (by assumption) (by omega) | exact bd_small (by omega) | refine bd_gcd ?_ ?_ | refine bd_div _ ?_ | refine bd_mod _ ?_ | refine bd_absadd ?_ ?_ | refine bd_absmul ?_ ?_ | refine bd_neg ?_ | refine bd_mul ?_ ?_ | refine bd_add ?_ ?_ | refine bd_nat ?_))
 rw [mag_two] at t1 t2
 refine uC _ t1 ?_
 refine uC _ (L_fi_scaled (by repeat (first | assumption | exact bd_le (by assumption) (by omega) | exact bd_small (by omega) | refine bd_gcd ?_ ?_ | refine bd_div _ ?_ | refine bd_mod _ ?_ | refine bd_absadd ?_ ?_ | refine bd_absmul ?_ ?_ | refine bd_neg ?_ | refine bd_mul ?_ ?_ | refine bd_add ?_ ?_ | refine bd_nat ?_)) (by repeat (first | assumption | exact bd_le (by assumption) (by omega) | exact bd_small (by omega) | refine bd_gcd ?_ ?_ | refine bd_div _ ?_ | refine bd_mod _ ?_ | refine bd_absadd ?_ ?_ | refine bd_absmul ?_ ?_ | refine bd_neg ?_ | refine bd_mul ?_ ?_ | refine bd_add ?_ ?_ | refine bd_nat ?_))) ?_
 refine uC (sg (q.den : Int), ()) (L_f_signed (w := (q.den : Int)) (by simp) (Or.inr (by rw [decide_eq_false (by omega)]))) ?_
 refine uC _ (L_fi_sum (bd_le (bd_absmul (bd_le p1 (show 1 ≤ 2 by omega)) (bd_nat (bd_mul bs b2))) (by omega)) (by repeat (first | assumption | exact bd_le (by assumption) (by omega) | exact bd_small (by omega) | refine bd_gcd ?_ ?_ | refine bd_div _ ?_ | refine bd_mod _ ?_ | refine bd_absadd ?_ ?_ | refine bd_absmul ?_ ?_ | refine bd_neg ?_ | refine bd_mul ?_ ?_ | refine bd_add ?_ ?_ | refine bd_nat ?_))) ?_
 refine uC _ t2 ?_
 refine uC _ (L_fi_floor (by repeat (first | assumption | exact bd_le (by assumption) (by omega) | exact bd_small (by omega) | refine bd_gcd ?_ ?_ | refine bd_div _ ?_ | refine bd_mod _ ?_ | refine bd_absadd ?_ ?_ | refine bd_absmul ?_ ?_ | refine bd_neg ?_ | refine bd_mul ?_ ?_ | refine bd_add ?_ ?_ | refine bd_nat ?_)) (by repeat (first | assumption | exact bd_le (by assumption) (by omega) | exact bd_small (by omega) | refine bd_gcd ?_ ?_ | refine bd_div _ ?_ | refine bd_mod _ ?_ | refine bd_absadd ?_ ?_ | refine bd_absmul ?_ ?_ | refine bd_neg ?_ | refine bd_mul ?_ ?_ | refine bd_add ?_ ?_ | refine bd_nat ?_)) (Nat.mul_ne_zero q.den_nz (by omega))) ?_
 rw [near_eq]; rfl
end Go.Vs
set_option maxRecDepth 100000
namespace Go.Vs
open Go Go.Vg Go.Proofs
noncomputable section
def w_read_L : LTab := [(172, 7, 9217, { tag := 0, ι := (Bool) × Unit, vs := .dat (.s 3) (Ty.bool) <| .nil, ks := [5, 4, 2], kh := [0], fresh := 0 }), (172, 122, 12289, { tag := 1, ι := (Int) × Unit, vs := .dat (.s 23) (Ty.int IntKind.i64) <| .nil, ks := [22, 5, 4, 2], kh := [0], fresh := 0 })]
def w_read_R2 (a : List UInt8) (y : List UInt8 × Bool × Unit) (j : Bool × Unit) (i : (Int) × Unit) : TT (((Int) × Unit) ⊕ ((List Int × Bool × Unit) × Bool × Unit)) :=
 .ite (decide (i.1 < len y.1))
 (.need (inb i.1 (len y.1)) <| .ite (decide ((↑(UInt8.toNat (gi y.1 i.1 0)) : Int) < 48))
 (.ok (.inr ((([], false, ()), false, ()))))
 (.need (inb i.1 (len y.1)) <| .ite (decide ((↑(UInt8.toNat (gi y.1 i.1 0)) : Int) > 57))
 (.ok (.inr ((([], false, ()), false, ()))))
 (.tt <| .lt (w64 (i.1 + 1) : Int) fun z => .triv (Qq z ∧ Qq (len y.1) ∧ Qq y.2.1 ∧ Qq y.1 ∧ (Qq 0 ∧ Qq 0 ∧ Qq true) ∧ True) tv <| .triv ((Qq (212 : TypeId) ∧ True ∧ Qq false ∧ True) ∧ Qq true ∧ True) tv <| .ok (.inl ((z, ()))))))
 (.need (asT Int 0 ≤ 0 ∧ 0 < len y.1) <| .ite ((↑(UInt8.toNat (gi y.1 0 0)) : Int) == 48)
 (.ite (y.2.1)
 (.ok (.inr ((([], false, ()), false, ()))))
 (.ite (decide (len y.1 > 1))
 (.ok (.inr ((([], false, ()), false, ()))))
 (.call (S_w_gather (y.1, ())) Dd0 fun y1 =>
 .ok (.inr (((y1.1, y.2.1, ()), true, ()))))))
 (.call (S_w_gather (y.1, ())) Dd0 fun y2 =>
 .ok (.inr (((y2.1, y.2.1, ()), true, ())))))
def w_read_R1 (a : List UInt8) (y : List UInt8 × Bool × Unit) (j : (Bool) × Unit) : TT ((List Int × Bool × Unit) × Bool × Unit) :=
 .loop 1 (.tt <| .triv (Qq (0 : Int) ∧ Qq (len y.1) ∧ Qq y.2.1 ∧ Qq y.1 ∧ (Qq 0 ∧ Qq 0 ∧ Qq true) ∧ True) tv <| .triv ((Qq (212 : TypeId) ∧ True ∧ Qq false ∧ True) ∧ Qq true ∧ True) tv <| .ok ((0, ()))) (w_read_R2 a y j)
def w_read_t (a : List UInt8) : TT ((List Int × Bool × Unit) × Bool × Unit) :=
 .call (S_cutPrefix (a, #[45].toList, ())) Dd7 fun y =>
 .join 0 (ι := (Bool) × Unit) (.ite (len y.1 == 0)
 (.ok (.inr ((([], false, ()), false, ()))))
 (.ite (decide (len y.1 > 600))
 (.ok (.inr ((([], false, ()), false, ()))))
 (.tt <| .triv (Qq false ∧ Qq y.2.1 ∧ Qq y.1 ∧ (Qq 0 ∧ Qq 0 ∧ Qq true) ∧ True) tv <| .triv ((Qq (212 : TypeId) ∧ True ∧ Qq false ∧ True) ∧ Qq true ∧ True) tv <| .ok (.inl ((false, ())))))) (w_read_R1 a y)
def w_pair_L : LTab := []
def w_pair_t (a : List UInt8) (b : List UInt8) : TT ((List Int × Bool × Unit) × (List Int × Bool × Unit) × Int × Unit) :=
 .call (S_w_read (a, ())) Dd9 fun y =>
 .call (S_w_read (b, ())) Dd9 fun y1 =>
 .ite (!y.2.1)
 (.ok ((([], false, ()), ([], false, ()), 10, ())))
 (.ite (!y1.2.1)
 (.ok ((([], false, ()), ([], false, ()), 10, ())))
 (.ok (((y.1.1, y.1.2.1, ()), (y1.1.1, y1.1.2.1, ()), 0, ()))))
def w_Check_L : LTab := []
def w_Check_t (a : List UInt8) : TT (Int × Unit) :=
 .call (S_w_read (a, ())) Dd9 fun y =>
 .ite (!y.2.1)
 (.ok ((10, ())))
 (.ok ((0, ())))
def w_Of_L : LTab := []
def w_Of_t (n : Int) : TT (List UInt8 × Unit) :=
 .call (S_itoa (n, ())) Dd2 fun y =>
 .ok ((y.1, ()))
def w_Mul_L : LTab := []
def w_Mul_t (a : List UInt8) (b : List UInt8) : TT (List UInt8 × Int × Unit) :=
 .tt <| .tt <| .call (S_w_pair (a, b, ())) Dd10 fun y =>
 .ite (y.2.2.1 != 0)
 (.ok ((#[].toList, y.2.2.1, ())))
 (.triv (asT Int 0 ≤ 2 ∧ 2 < (↑4 : Int)) (by decide) <| .call (S_ws_product ((y.1.1, y.1.2.1, ()), (y.2.1.1, y.2.1.2.1, ()), ())) Dd5 fun y1 =>
 .call (S_w_write (y1.1, ())) Dd11 fun y2 =>
 .ok ((y2.1, y2.2.1, ())))
def w_Div_L : LTab := []
def w_Div_t_k1 (y2 : (List (Int)) × (List (Int)) × Unit) (y : ((List (Int)) × (Bool) × Unit) × ((List (Int)) × (Bool) × Unit) × (Int) × Unit) : TT (List UInt8 × List UInt8 × Int × Unit) :=
 .call (S_w_of (y2.1, !y.1.2.1 == y.2.1.2.1, ())) Dd5 fun y10 =>
 .call (S_w_write (y10.1, ())) Dd11 fun y11 =>
 .ite (y11.2.1 != 0)
 (.ok ((#[].toList, #[].toList, y11.2.1, ())))
 (.call (S_w_of (y2.2.1, false, ())) Dd5 fun y12 =>
 .call (S_w_write (y12.1, ())) Dd11 fun y13 =>
 .ite (y13.2.1 != 0)
 (.ok ((#[].toList, #[].toList, y13.2.1, ())))
 (.ok ((y11.1, y13.1, 0, ()))))
def w_Div_t (a : List UInt8) (b : List UInt8) : TT (List UInt8 × List UInt8 × Int × Unit) :=
 .call (S_w_pair (a, b, ())) Dd10 fun y =>
 .ite (y.2.2.1 != 0)
 (.ok ((#[].toList, #[].toList, y.2.2.1, ())))
 (.call (S_wm_zero (y.2.1.1, ())) Dd1 fun y1 =>
  .ite (y1.1)
  (.ok ((#[].toList, #[].toList, 7, ())))
  (.call (S_wm_divide (y.1.1, y.2.1.1, ())) Dd4 fun y2 =>
   .ite (y.1.2.1)
   (.call (S_wm_zero (y2.2.1, ())) Dd1 fun y3 =>
    .ite (!y3.1)
    (.call (S_wm_plus (y2.1, [1], ())) Dd0 fun y4 =>
     .call (S_wm_minus (y.2.1.1, y2.2.1, ())) Dd0 fun y5 =>
     .call (S_w_of (y4.1, !y.1.2.1 == y.2.1.2.1, ())) Dd5 fun y6 =>
     .call (S_w_write (y6.1, ())) Dd11 fun y7 =>
     .ite (y7.2.1 != 0)
     (.ok ((#[].toList, #[].toList, y7.2.1, ())))
     (.call (S_w_of (y5.1, false, ())) Dd5 fun y8 =>
      .call (S_w_write (y8.1, ())) Dd11 fun y9 =>
      .ite (y9.2.1 != 0)
      (.ok ((#[].toList, #[].toList, y9.2.1, ())))
      (.ok ((y7.1, y9.1, 0, ())))))
    (w_Div_t_k1 y2 y))
   (w_Div_t_k1 y2 y)))
def w_Pow_L : LTab := []
def w_Pow_t (a : List UInt8) (n : Int) : TT (List UInt8 × Int × Unit) :=
 .call (S_w_read (a, ())) Dd9 fun y =>
 .ite (!y.2.1)
 (.ok ((#[].toList, 10, ())))
 (.ite (decide (n < 0))
 (.ok ((#[].toList, 2, ())))
 (.ite (decide (n > 40))
 (.ok ((#[].toList, 2, ())))
 (.call (S_wm_power (y.1.1, n, ())) Dd0 fun y1 =>
 .ite (y.1.2.1)
 (.triv (asT Int 2 ≠ 0) (by decide) <| .call (S_w_of (y1.1, Int.tmod n 2 == 1, ())) Dd5 fun y2 =>
 .call (S_w_write (y2.1, ())) Dd11 fun y3 =>
 .ok ((y3.1, y3.2.1, ())))
 (.call (S_w_of (y1.1, false, ())) Dd5 fun y4 =>
 .call (S_w_write (y4.1, ())) Dd11 fun y5 =>
 .ok ((y5.1, y5.2.1, ()))))))
def w_Root_L : LTab := []
def w_Root_t (a : List UInt8) (k : Int) : TT (List UInt8 × Int × Unit) :=
 .call (S_w_read (a, ())) Dd9 fun y =>
 .ite (!y.2.1)
 (.ok ((#[].toList, 10, ())))
 (.ite (decide (k < 1))
 (.ok ((#[].toList, 2, ())))
 (.ite (decide (k > 12))
 (.ok ((#[].toList, 2, ())))
 (.ite (y.1.2.1)
 (.ok ((#[].toList, 2, ())))
 (.call (S_wm_root (y.1.1, k, ())) Dd0 fun y1 =>
 .call (S_w_of (y1.1, false, ())) Dd5 fun y2 =>
 .call (S_w_write (y2.1, ())) Dd11 fun y3 =>
 .ok ((y3.1, y3.2.1, ()))))))
def w_tenfold_L : LTab := [(281, 122, 10241, { tag := 0, ι := (Int) × (Int) × Unit, vs := .dat (.s 11) (Ty.int IntKind.i64) <| .dat (.s 4) (Ty.int IntKind.u32) <| .nil, ks := [10, 3, 2, 0], kh := [4], fresh := 0 })]
def w_tenfold_R1 (n : Int) (i : (Int) × (Int) × Unit) : TT (((Int) × (Int) × Unit) ⊕ (List Int × Unit)) :=
 .ite (decide (i.1 < Int.tmod n 9))
 (.tt <| .lt (w64 (i.1 + 1) : Int) fun z => .lt (wu32 (i.2.1 * 10) : Int) fun z1 => .triv (Qq z1 ∧ Qq z ∧ Qq (Int.tmod n 9) ∧ (Qq 4 ∧ Qq 0 ∧ Qq (Int.toNat (w64 (w64 (Int.tdiv n 9) + 1))) ∧ Qq true) ∧ True ∧ Qq n ∧ True) tv <| .triv ((Qq (189 : TypeId) ∧ Qq (List.replicate (Int.toNat (w64 (w64 (Int.tdiv n 9) + 1))) 0 : List Int)) ∧ Qq true ∧ True) tv <| .ok (.inl ((z, z1, ()))))
 (.triv (asT Int 9 ≠ 0) (by decide) <| .need (inb (w64 (Int.tdiv n 9)) (↑(Int.toNat (w64 (w64 (Int.tdiv n 9) + 1))) : Int)) <| .ok (.inr ((List.take (Int.toNat (w64 (w64 (Int.tdiv n 9) + 1))) (List.set (List.replicate (Int.toNat (w64 (w64 (Int.tdiv n 9) + 1))) 0) (0 + Int.toNat (w64 (Int.tdiv n 9))) i.2.1), ()))))
def w_tenfold_t (n : Int) : TT (List Int × Unit) :=
 .triv (asT Int 9 ≠ 0) (by decide) <| .need (0 ≤ w64 (w64 (Int.tdiv n 9) + 1) ∧ w64 (w64 (Int.tdiv n 9) + 1) ≤ w64 (w64 (Int.tdiv n 9) + 1) ∧ w64 (w64 (Int.tdiv n 9) + 1) * (↑4 : Int) ≤ 140737488355328) <| .triv (asT Int 9 ≠ 0) (by decide) <| .loop 0 (.tt <| .triv (Qq (1 : Int) ∧ Qq (0 : Int) ∧ Qq (Int.tmod n 9) ∧ (Qq 4 ∧ Qq 0 ∧ Qq (Int.toNat (w64 (w64 (Int.tdiv n 9) + 1))) ∧ Qq true) ∧ True ∧ Qq n ∧ True) tv <| .triv ((Qq (189 : TypeId) ∧ Qq (List.replicate (Int.toNat (w64 (w64 (Int.tdiv n 9) + 1))) 0 : List Int)) ∧ Qq true ∧ True) tv <| .ok ((0, 1, ()))) (w_tenfold_R1 n)
def wm_power_L : LTab := [(242, 122, 8193, { tag := 0, ι := (Int) × (List Int) × Unit, vs := .dat (.s 11) (Ty.int IntKind.i64) <| .dat (.s 5) (Ty.sl (Ty.int IntKind.u32)) <| .nil, ks := [10, 6, 4], kh := [], fresh := 0 })]
def wm_power_R1 (m : List Int) (n : Int) (i : (Int) × (List Int) × Unit) : TT (((Int) × (List Int) × Unit) ⊕ (List Int × Unit)) :=
 .ite (decide (i.1 < n))
 (.call (S_wm_times (m, i.2.1, ())) Dd0 fun y =>
 .tt <| .lt (w64 (i.1 + 1) : Int) fun z1 => .triv (Qq y.1 ∧ Qq z1 ∧ Qq n ∧ (Qq (257 : FuncId) ∧ (Qq m ∧ True) ∧ True) ∧ True ∧ True) tv <| .tr <| .ok (.inl ((z1, y.1, ()))))
 (.ok (.inr ((i.2.1, ()))))
def wm_power_t (m : List Int) (n : Int) : TT (List Int × Unit) :=
 .loop 0 (.tt <| .lt ([1] : List Int) fun z => .triv (Qq z ∧ Qq (0 : Int) ∧ Qq n ∧ (Qq (257 : FuncId) ∧ (Qq m ∧ True) ∧ True) ∧ True ∧ True) tv <| .tr <| .ok ((0, z, ()))) (wm_power_R1 m n)
def wm_root_L : LTab := [(270, 30, 10241, { tag := 0, ι := (List Int) × Unit, vs := .dat (.s 5) (Ty.sl (Ty.int IntKind.u32)) <| .nil, ks := [0, 1], kh := [], fresh := 0 })]
def wm_root_R1 (m : List Int) (k : Int) (y : Bool × Unit) (y1 : Int × Unit) (y2 : List Int × Unit) (i : (List Int) × Unit) : TT (((List Int) × Unit) ⊕ (List Int × Unit)) :=
 .call (S_wm_power (i.1, w64 (k - 1), ())) Dd0 fun y3 =>
 .call (S_wm_divide (m, y3.1, ())) Dd4 fun y4 =>
 .call (S_w_fromSmall (wu64 (w64 (k - 1)), ())) Dd0 fun y5 =>
 .call (S_wm_times (i.1, y5.1, ())) Dd0 fun y6 =>
 .call (S_wm_plus (y6.1, y4.1, ())) Dd0 fun y7 =>
 .call (S_wm_short (y7.1, wu32 k, ())) Dd12 fun y8 =>
 .call (S_wm_compare (y8.1, i.1, ())) Dd6 fun y9 =>
 .ite (decide (y9.1 ≥ 0))
 (.ok (.inr ((i.1, ()))))
 (.tt <| .triv (Qq y8.1 ∧ Qq m ∧ Qq k ∧ True) tv <| .tr <| .ok (.inl ((y8.1, ()))))
def wm_root_t (m : List Int) (k : Int) : TT (List Int × Unit) :=
 .call (S_wm_zero (m, ())) Dd1 fun y =>
 .ite (y.1)
 (.ok (([], ())))
 (.call (S_wm_length (m, ())) Dd6 fun y1 =>
 .need (k ≠ 0) <| .call (S_w_tenfold (w64 (w64 (Int.tdiv y1.1 k) + 1), ())) Dd0 fun y2 =>
 .loop 0 (.tt <| .triv (Qq y2.1 ∧ Qq m ∧ Qq k ∧ True) tv <| .tr <| .ok ((y2.1, ()))) (wm_root_R1 m k y y1 y2))
def f_read_L : LTab := []
def f_read_t (a : List UInt8 × List UInt8 × Unit) : TT (((List Int × Bool × Unit) × List Int × Unit) × Bool × Unit) :=
 .call (S_w_Check (a.1, ())) Dd6 fun y =>
 .ite (y.1 != 0)
 (.ok (((([], false, ()), [], ()), false, ())))
 (.call (S_w_Check (a.2.1, ())) Dd6 fun y1 =>
 .ite (y1.1 != 0)
 (.ok (((([], false, ()), [], ()), false, ())))
 (.call (S_f_number (a.1, ())) Dd5 fun y2 =>
 .call (S_f_number (a.2.1, ())) Dd5 fun y3 =>
 .call (S_fi_sign ((y3.1.1, y3.1.2.1, ()), ())) Dd6 fun y4 =>
 .ite (decide (y4.1 < 1))
 (.ok (((([], false, ()), [], ()), false, ())))
 (.call (S_fm_gcd (y2.1.1, y3.1.1, ())) Dd0 fun y5 =>
 .call (S_fm_compare (y5.1, [1], ())) Dd6 fun y6 =>
 .ite (y6.1 != 0)
 (.ok (((([], false, ()), [], ()), false, ())))
 (.ok ((((y2.1.1, y2.1.2.1, ()), y3.1.1, ()), true, ()))))))
def f_Check_L : LTab := []
def f_Check_t (a : List UInt8 × List UInt8 × Unit) : TT (Int × Unit) :=
 .call (S_f_read ((a.1, a.2.1, ()), ())) Dd13 fun y =>
 .ite (!y.2.1)
 (.ok ((20, ())))
 (.ok ((0, ())))
def f_Make_L : LTab := []
def f_Make_t (n : List UInt8) (d : List UInt8) : TT ((List UInt8 × List UInt8 × Unit) × Int × Unit) :=
 .call (S_w_Check (n, ())) Dd6 fun y =>
 .ite (y.1 != 0)
 (.ok (((#[].toList, #[].toList, ()), 10, ())))
 (.call (S_w_Check (d, ())) Dd6 fun y1 =>
 .ite (y1.1 != 0)
 (.ok (((#[].toList, #[].toList, ()), 10, ())))
 (.call (S_f_number (n, ())) Dd5 fun y2 =>
 .call (S_f_number (d, ())) Dd5 fun y3 =>
 .call (S_fm_zero (y3.1.1, ())) Dd1 fun y4 =>
 .ite (y4.1)
 (.ok (((#[].toList, #[].toList, ()), 7, ())))
 (.call (S_f_signed (y2.1.1, !y2.1.2.1 == y3.1.2.1, ())) Dd5 fun y5 =>
 .call (S_f_reduced (y5.1, y3.1.1, ())) Dd8 fun y6 =>
 .call (S_fr_write (y6.1, ())) Dd14 fun y7 =>
 .ok (((y7.1.1, y7.1.2.1, ()), y7.2.1, ())))))
def f_Of_L : LTab := []
def f_Of_t (n : Int) (d : Int) : TT ((List UInt8 × List UInt8 × Unit) × Int × Unit) :=
 .call (S_w_Of (n, ())) Dd2 fun y =>
 .call (S_w_Of (d, ())) Dd2 fun y1 =>
 .call (S_f_Make (y.1, y1.1, ())) Dd14 fun y2 =>
 .ok (((y2.1.1, y2.1.2.1, ()), y2.2.1, ()))
def f_Sign_L : LTab := []
def f_Sign_t (a : List UInt8 × List UInt8 × Unit) : TT (Int × Int × Unit) :=
 .call (S_f_read ((a.1, a.2.1, ()), ())) Dd13 fun y =>
 .ite (!y.2.1)
 (.ok ((0, 20, ())))
 (.call (S_fi_sign ((y.1.1.1, y.1.1.2.1, ()), ())) Dd6 fun y1 =>
 .ok ((y1.1, 0, ())))
def f_Cmp_L : LTab := []
def f_Cmp_t (a : List UInt8 × List UInt8 × Unit) (b : List UInt8 × List UInt8 × Unit) : TT (Int × Int × Unit) :=
 .tt <| .tt <| .call (S_f_read ((a.1, a.2.1, ()), ())) Dd13 fun y =>
 .call (S_f_read ((b.1, b.2.1, ()), ())) Dd13 fun y1 =>
 .ite (!y.2.1)
 (.ok ((0, 20, ())))
 (.ite (!y1.2.1)
 (.ok ((0, 20, ())))
 (.call (S_fr_order (((y.1.1.1, y.1.1.2.1, ()), y.1.2.1, ()), ((y1.1.1.1, y1.1.1.2.1, ()), y1.1.2.1, ()), ())) Dd6 fun y2 =>
 .ok ((y2.1, 0, ()))))
def f_Add_L : LTab := []
def f_Add_t (a : List UInt8 × List UInt8 × Unit) (b : List UInt8 × List UInt8 × Unit) : TT ((List UInt8 × List UInt8 × Unit) × Int × Unit) :=
 .tt <| .tt <| .call (S_f_read ((a.1, a.2.1, ()), ())) Dd13 fun y =>
 .call (S_f_read ((b.1, b.2.1, ()), ())) Dd13 fun y1 =>
 .ite (!y.2.1)
 (.tt <| .tt <| .ok (((#[].toList, #[].toList, ()), 20, ())))
 (.ite (!y1.2.1)
 (.tt <| .tt <| .ok (((#[].toList, #[].toList, ()), 20, ())))
 (.call (S_fr_add (((y.1.1.1, y.1.1.2.1, ()), y.1.2.1, ()), ((y1.1.1.1, y1.1.1.2.1, ()), y1.1.2.1, ()), ())) Dd8 fun y2 =>
 .tt <| .tt <| .call (S_fr_write (((y2.1.1.1, y2.1.1.2.1, ()), y2.1.2.1, ()), ())) Dd14 fun y3 =>
 .ok (((y3.1.1, y3.1.2.1, ()), y3.2.1, ()))))
def f_Sub_L : LTab := []
def f_Sub_t (a : List UInt8 × List UInt8 × Unit) (b : List UInt8 × List UInt8 × Unit) : TT ((List UInt8 × List UInt8 × Unit) × Int × Unit) :=
 .tt <| .tt <| .call (S_f_read ((a.1, a.2.1, ()), ())) Dd13 fun y =>
 .call (S_f_read ((b.1, b.2.1, ()), ())) Dd13 fun y1 =>
 .ite (!y.2.1)
 (.tt <| .tt <| .ok (((#[].toList, #[].toList, ()), 20, ())))
 (.ite (!y1.2.1)
 (.tt <| .tt <| .ok (((#[].toList, #[].toList, ()), 20, ())))
 (.call (S_fr_sub (((y.1.1.1, y.1.1.2.1, ()), y.1.2.1, ()), ((y1.1.1.1, y1.1.1.2.1, ()), y1.1.2.1, ()), ())) Dd8 fun y2 =>
 .tt <| .tt <| .call (S_fr_write (((y2.1.1.1, y2.1.1.2.1, ()), y2.1.2.1, ()), ())) Dd14 fun y3 =>
 .ok (((y3.1.1, y3.1.2.1, ()), y3.2.1, ()))))
def f_Mul_L : LTab := []
def f_Mul_t (a : List UInt8 × List UInt8 × Unit) (b : List UInt8 × List UInt8 × Unit) : TT ((List UInt8 × List UInt8 × Unit) × Int × Unit) :=
 .tt <| .tt <| .call (S_f_read ((a.1, a.2.1, ()), ())) Dd13 fun y =>
 .call (S_f_read ((b.1, b.2.1, ()), ())) Dd13 fun y1 =>
 .ite (!y.2.1)
 (.tt <| .tt <| .ok (((#[].toList, #[].toList, ()), 20, ())))
 (.ite (!y1.2.1)
 (.tt <| .tt <| .ok (((#[].toList, #[].toList, ()), 20, ())))
 (.call (S_fr_mul (((y.1.1.1, y.1.1.2.1, ()), y.1.2.1, ()), ((y1.1.1.1, y1.1.1.2.1, ()), y1.1.2.1, ()), ())) Dd8 fun y2 =>
 .tt <| .tt <| .call (S_fr_write (((y2.1.1.1, y2.1.1.2.1, ()), y2.1.2.1, ()), ())) Dd14 fun y3 =>
 .ok (((y3.1.1, y3.1.2.1, ()), y3.2.1, ()))))
def f_Div_L : LTab := []
def f_Div_t (a : List UInt8 × List UInt8 × Unit) (b : List UInt8 × List UInt8 × Unit) : TT ((List UInt8 × List UInt8 × Unit) × Int × Unit) :=
 .call (S_f_read ((a.1, a.2.1, ()), ())) Dd13 fun y =>
 .call (S_f_read ((b.1, b.2.1, ()), ())) Dd13 fun y1 =>
 .ite (!y.2.1)
 (.ok (((#[].toList, #[].toList, ()), 20, ())))
 (.ite (!y1.2.1)
 (.ok (((#[].toList, #[].toList, ()), 20, ())))
 (.call (S_fm_zero (y1.1.1.1, ())) Dd1 fun y2 =>
 .ite (y2.1)
 (.ok (((#[].toList, #[].toList, ()), 7, ())))
 (.call (S_fr_inverse (((y1.1.1.1, y1.1.1.2.1, ()), y1.1.2.1, ()), ())) Dd8 fun y3 =>
 .call (S_fr_mul (((y.1.1.1, y.1.1.2.1, ()), y.1.2.1, ()), y3.1, ())) Dd8 fun y4 =>
 .call (S_fr_write (y4.1, ())) Dd14 fun y5 =>
 .ok (((y5.1.1, y5.1.2.1, ()), y5.2.1, ())))))
def f_Floor_L : LTab := []
def f_Floor_t (a : List UInt8 × List UInt8 × Unit) : TT (List UInt8 × Int × Unit) :=
 .call (S_f_read ((a.1, a.2.1, ()), ())) Dd13 fun y =>
 .ite (!y.2.1)
 (.ok ((#[].toList, 20, ())))
 (.call (S_fi_floor ((y.1.1.1, y.1.1.2.1, ()), y.1.2.1, ())) Dd5 fun y1 =>
 .call (S_fi_text (y1.1, ())) Dd2 fun y2 =>
 .ok ((y2.1, 0, ())))
def f_Near_L : LTab := []
def f_Near_t (a : List UInt8 × List UInt8 × Unit) (scale : Int) : TT (Int × Int × Unit) :=
 .call (S_f_read ((a.1, a.2.1, ()), ())) Dd13 fun y =>
 .ite (!y.2.1)
 (.ok ((0, 20, ())))
 (.ite (decide (scale < 1))
 (.ok ((0, 2, ())))
 (.ite (decide (scale > 1000000000000))
 (.ok ((0, 2, ())))
 (.call (S_f_fromSmall (wu64 scale, ())) Dd0 fun y1 =>
 .call (S_fr_near (((y.1.1.1, y.1.1.2.1, ()), y.1.2.1, ()), y1.1, ())) Dd5 fun y2 =>
 .call (S_fi_text (y2.1, ())) Dd2 fun y3 =>
 .call (S_w_Int (y3.1, ())) Dd15 fun y4 =>
 .ite (y4.2.1 != 0)
 (.ok ((0, 6, ())))
 (.ok ((y4.1, 0, ()))))))
end
end Go.Vs
namespace Go.Vs
open Go Go.Vg
theorem rdW_not {s t : List UInt8} {b : Bool} (hc : S_cutPrefix (s, #[45].toList, ()) = some (t, b, ())) (h : ¬ (isD t ∧ t ≠ [] ∧ t.length ≤ 600 ∧ (t.head? = some 48 → b = false ∧ t.length = 1))) : rdW s = none := by
 refine rdW_none fun z hz he => h ?_
 rw [← he, L_cut_dec] at hc
 injection hc with hc
 obtain ⟨rfl, h2⟩ := Prod.mk.inj hc
 obtain ⟨rfl, -⟩ := Prod.mk.inj h2
 refine ⟨decN_isD _, decN_ne_nil _, hz, fun h0 => ?_⟩
 by_cases hn : z.natAbs = 0
 ·rw [hn, decN_one (by omega)]
  exact ⟨decide_eq_false (by omega), rfl⟩
 ·exact absurd h0 (decN_head hn)
theorem rdW_yes {s t : List UInt8} {b : Bool} (hc : S_cutPrefix (s, #[45].toList, ()) = some (t, b, ())) (h1 : isD t) (h2 : t ≠ []) (h3 : t.length ≤ 600) (h4 : t.head? = some 48 → b = false ∧ t.length = 1) : ∃ z : Int, rdW s = some z ∧ z.natAbs = num t ∧ decide (z < 0) = b := by
 have hu : t = decN (num t) := decN_uniq h1 h2 (by
  by_cases h0 : t.head? = some 48
  ·exact Or.inr (h4 h0).2
  ·exact Or.inl h0)
 have hs : s = if b then 45 :: t else t := by
  injection hc with hc
  simp only at hc
  split at hc
  ·rename_i hp
   obtain ⟨e1, e2⟩ := Prod.mk.inj hc
   obtain ⟨rfl, -⟩ := Prod.mk.inj e2
   cases s with
   | nil => cases hp
   | cons c s =>
    have : c = 45 := by
     have h5 : ([45] : List UInt8).isPrefixOf (c :: s) = true := hp
     simp [List.isPrefixOf] at h5
     exact h5.symm
    rw [this, ← e1]; rfl
  ·obtain ⟨e1, e2⟩ := Prod.mk.inj hc
   obtain ⟨rfl, -⟩ := Prod.mk.inj e2
   rw [← e1]; rfl
 cases b
 ·refine ⟨(num t : Int), ?_, by simp, by simp⟩
  have : s = dec (num t : Int) := by rw [dec_nat, ← hu, hs]; rfl
  rw [this, rdW_dec (show (decN (num t : Int).natAbs).length ≤ 600 by simp; rw [← hu]; exact h3)]
 ·have hn : num t ≠ 0 := by
   intro h0
   rw [h0, decN_one (by omega)] at hu
   have := h4 (by rw [hu]; rfl)
   cases this.1
  refine ⟨-(num t : Int), ?_, by simp, by simp; omega⟩
  have : s = dec (-(num t : Int)) := by rw [dec_neg (by omega), Int.natAbs_neg, Int.natAbs_natCast, ← hu, hs]; rfl
  rw [this, rdW_dec (show (decN (-(num t : Int)).natAbs).length ≤ 600 by simp; rw [← hu]; exact h3)]
noncomputable def resW (s : List UInt8) : SgT × Bool × Unit := match rdW s with | some z => (sg z, true, ()) | none => (([], false, ()), false, ())
theorem w_read_law (a : List UInt8) (y) (h : S_w_read (a, ()) = some y) : (w_read_t a).toO = some y := by
 have hy : y = resW a := by injection h with h; exact h.symm
 clear h
 subst hy
 obtain ⟨t, b, hc⟩ : ∃ t b, S_cutPrefix (a, #[45].toList, ()) = some (t, b, ()) := ⟨_, _, rfl⟩
 have hnot : ¬ (isD t ∧ t ≠ [] ∧ t.length ≤ 600 ∧ (t.head? = some 48 → b = false ∧ t.length = 1)) → resW a = (([], false, ()), false, ()) := fun h => by unfold resW; rw [rdW_not hc h]
 have hyes : isD t → t ≠ [] → t.length ≤ 600 → (t.head? = some 48 → b = false ∧ t.length = 1) → S_w_gather (t, ()) = some (mag (num t), ()) ∧ resW a = ((mag (num t), b, ()), true, ()) := fun h1 h2 h3 h4 => by
  obtain ⟨z, e1, e2, e3⟩ := rdW_yes hc h1 h2 h3 h4
  refine ⟨?_, ?_⟩
  ·unfold S_w_gather
   rw [if_pos ⟨h1, h2, by simp only; omega⟩]
  ·unfold resW
   rw [e1]
   show ((mag z.natAbs, decide (z < 0), ()), true, ()) = _
   rw [e2, e3]
 unfold w_read_t
 refine uC (t, b, ()) hc ?_
 by_cases h1 : t = []
 ·rw [hnot (fun h => h.2.1 h1)]
  refine uR _ (uT (by simp [h1, len]) rfl)
 have hlen : 1 ≤ t.length := List.length_pos_iff.2 h1
 by_cases h2 : t.length ≤ 600
 case neg =>
  rw [hnot (fun h => h2 h.2.2.1)]
  refine uR _ (uF sd (uT sd rfl))
 refine uL (false, ()) (uF sd (uF sd rfl)) ?_
 refine uO (0, ()) rfl ?_
 refine loopO_eq (fun i : Int × Unit => ∃ k : Nat, i.1 = (k : Int) ∧ k ≤ t.length ∧ isD (t.take k)) (fun i => ((t.length : Int) - i.1).toNat) (fun _ => resW a) ?_ _ ⟨0, rfl, by omega, by simp [isD]⟩
 rintro ⟨i, u⟩ ⟨k, h3, h4, h5⟩
 simp only at h3
 subst h3
 simp only [w_read_R2, gi_nat]
 rcases Nat.lt_or_ge k t.length with hk | hk
 ·have e1 : t.getD k 0 = t[k] := by simp [hk]
  simp only [e1]
  by_cases c1 : t[k].toNat < 48
  ·right
   rw [hnot (fun h => by have := h.1 t[k] (List.getElem_mem hk); omega)]
   repeat (first | refine uV ?_ | refine uB ?_ | refine uN sd ?_ | refine uT sd ?_ | refine uF sd ?_ | refine uN (by simp) ?_)
   rfl
  by_cases c2 : t[k].toNat > 57
  ·right
   rw [hnot (fun h => by have := h.1 t[k] (List.getElem_mem hk); omega)]
   repeat (first | refine uV ?_ | refine uB ?_ | refine uN sd ?_ | refine uT sd ?_ | refine uF sd ?_ | refine uN (by simp) ?_)
   rfl
  ·left
   refine ⟨(((k + 1 : Nat) : Int), ()), ?_, ⟨k + 1, rfl, by omega, ?_⟩, by simp only; omega, (by first | exact True.intro | rfl)⟩
   ·repeat (first | refine uV ?_ | refine uB ?_ | refine uN sd ?_ | refine uT sd ?_ | refine uF sd ?_ | refine uN (by simp) ?_)
    simp (disch := omega) only [toO_ok, w64_id, wu64_id, wu32_id, wu8_id, gi_nat, Nat.zero_add, Int.toNat_natCast, len_eq, List.take_length]
    rfl
   ·rw [List.take_succ_eq_append_getElem hk, isD_append]
    refine ⟨h5, fun c hc => ?_⟩
    have := List.mem_singleton.1 hc
    subst this
    omega
 ·right
  have hd : isD t := by rwa [List.take_of_length_le hk] at h5
  refine uF sd (uN ⟨by simp [asT], by exact sn⟩ ?_)
  cases ht : t with
  | nil => exact absurd ht h1
  | cons c r =>
   rw [← ht]
   have hg : gi t 0 0 = c := by rw [ht]; rfl
   simp only [hg]
   have hh : t.head? = some c := by rw [ht]; rfl
   by_cases c0 : c = 48
   ·subst c0
    refine uT (by rfl) ?_
    cases b
    ·refine uF rfl ?_
     by_cases hl : t.length = 1
     ·obtain ⟨g1, g2⟩ := hyes hd h1 h2 (fun _ => ⟨rfl, hl⟩)
      rw [g2]
      exact uF sd (uC _ g1 rfl)
     ·rw [hnot (fun h => hl (h.2.2.2 hh).2)]
      exact uT sd rfl
    ·rw [hnot (fun h => by have := (h.2.2.2 hh).1; cases this)]
     exact uT rfl rfl
   ·obtain ⟨g1, g2⟩ := hyes hd h1 h2 (fun h => by rw [hh] at h; injection h with h; exact absurd h c0)
    rw [g2]
    refine uF ?_ (uC _ g1 rfl)
    rw [beq_eq_false_iff_ne]
    intro h
    exact c0 (UInt8.toNat_inj.1 (Int.ofNat.inj h))
theorem L_w_read_some {s : List UInt8} {z : Int} (h : rdW s = some z) : S_w_read (s, ()) = some (sg z, true, ()) := by unfold S_w_read; rw [h]
theorem L_w_read_none {s : List UInt8} (h : rdW s = none) : S_w_read (s, ()) = some (([], false, ()), false, ()) := by unfold S_w_read; rw [h]
theorem w_Check_law (a : List UInt8) (y) (h : S_w_Check (a, ()) = some y) : (w_Check_t a).toO = some y := by
 unfold S_w_Check at h
 unfold w_Check_t
 cases hr : rdW a with
 | none =>
  simp only [hr] at h
  exact uC _ (L_w_read_none hr) (uT rfl h)
 | some z =>
  simp only [hr] at h
  exact uC _ (L_w_read_some hr) (uF rfl h)
theorem w_pair_law (a b : List UInt8) (y) (h : S_w_pair (a, b, ()) = some y) : (w_pair_t a b).toO = some y := by
 unfold S_w_pair at h
 unfold w_pair_t
 cases hr : rdW a with
 | none =>
  simp only [hr] at h
  cases hb : rdW b with
  | none => exact uC _ (L_w_read_none hr) (uC _ (L_w_read_none hb) (uT rfl h))
  | some w => exact uC _ (L_w_read_none hr) (uC _ (L_w_read_some hb) (uT rfl h))
 | some z =>
  cases hb : rdW b with
  | none =>
   simp only [hr, hb] at h
   exact uC _ (L_w_read_some hr) (uC _ (L_w_read_none hb) (uF rfl (uT rfl h)))
  | some w =>
   simp only [hr, hb] at h
   exact uC _ (L_w_read_some hr) (uC _ (L_w_read_some hb) (uF rfl (uF rfl h)))
theorem w_Of_law (n : Int) (y) (h : S_w_Of (n, ()) = some y) : (w_Of_t n).toO = some y := by
 unfold S_w_Of at h
 split at h
 ·rename_i hp
  exact uC (dec n, ()) (by unfold S_itoa; exact if_pos hp) h
 ·cases h
theorem L_w_Of {n : Int} (h : inI64 n) : S_w_Of (n, ()) = some (dec n, ()) := by unfold S_w_Of; rw [if_pos h]
theorem L_ws_product {a b : Int} (h1 : Bd 7 a.natAbs) (h2 : Bd 7 b.natAbs) : S_ws_product (sg a, sg b, ()) = some (sg (a * b), ()) := spec_at (enc := fun x : Int × Int => (sg x.1, sg x.2, ())) (a, b) ⟨h1, h2⟩ (fun b hb => sgsg_inj hb)
theorem rdW_bd {s : List UInt8} {z : Int} (h : rdW s = some z) : Bd 0 z.natAbs := bd_fit (rdW_some h).1
theorem w_Mul_law (a b : List UInt8) (y) (h : S_w_Mul (a, b, ()) = some y) : (w_Mul_t a b).toO = some y := by
 unfold S_w_Mul at h
 unfold w_Mul_t
 refine uV (uV ?_)
 cases hr : rdW a with
 | none =>
  simp only [hr] at h
  refine uC (([], false, ()), ([], false, ()), 10, ()) (by unfold S_w_pair; simp only [hr]) (uT rfl h)
 | some z =>
  cases hb : rdW b with
  | none =>
   simp only [hr, hb] at h
   refine uC (([], false, ()), ([], false, ()), 10, ()) (by unfold S_w_pair; simp only [hr, hb]) (uT rfl h)
  | some w =>
   simp only [hr, hb] at h
   have b1 := rdW_bd hr
   have b2 := rdW_bd hb
   refine uC (sg z, sg w, 0, ()) (by unfold S_w_pair; simp only [hr, hb]) (uF rfl (uV ?_))
   refine uC _ (L_ws_product (bd_le b1 (by omega)) (bd_le b2 (by omega))) ?_
   refine uC _ (L_w_write (bd_le (bd_absmul b1 b2) (by omega))) ?_
   exact h
theorem L_w_Check (s : List UInt8) : S_w_Check (s, ()) = some (if (rdW s).isSome then 0 else 10, ()) := rfl
theorem cmp_one (n : Nat) : cmpI n 1 = 0 ↔ n = 1 := by
 unfold cmpI
 split
 ·omega
 ·split <;> omega
theorem f_read_law (a : FxT) (y) (h : S_f_read (a, ()) = some y) : (f_read_t a).toO = some y := by
 obtain ⟨s, t, u⟩ := a
 have hs := rdF_eq s t
 unfold S_f_read at h
 dsimp only at h
 unfold f_read_t
 dsimp only
 cases hn : rdW s with
 | none =>
  rw [hn] at hs
  have hs' : rdF (s, t, u) = none := hs
  rw [hs'] at h
  refine uC _ (L_w_Check s) (uT (by rw [hn]; rfl) h)
 | some n =>
  cases hd : rdW t with
  | none =>
   rw [hn, hd] at hs
   have hs' : rdF (s, t, u) = none := hs
   rw [hs'] at h
   refine uC _ (L_w_Check s) (uF (by rw [hn]; rfl) (uC _ (L_w_Check t) (uT (by rw [hd]; rfl) h)))
  | some d =>
   rw [hn, hd] at hs
   dsimp only at hs
   obtain ⟨f1, e1⟩ := rdW_some hn
   obtain ⟨f2, e2⟩ := rdW_some hd
   have b1 := rdW_bd hn
   have b2 := rdW_bd hd
   refine uC _ (L_w_Check s) (uF (by rw [hn]; rfl) (uC _ (L_w_Check t) (uF (by rw [hd]; rfl) ?_)))
   refine uC (sg n, ()) (by rw [e1]; exact L_f_number (bd_le b1 (by omega))) ?_
   refine uC (sg d, ()) (by rw [e2]; exact L_f_number (bd_le b2 (by omega))) ?_
   refine uC _ (L_fi_sign (bd_le b2 (by omega))) ?_
   by_cases hp : 0 < d
   ·refine uF ?_ ?_
    ·rw [Int.sign_eq_one_of_pos hp]; rfl
    have hg := L_fm_gcd (a := n.natAbs) (b := d.natAbs) (bd_le b1 (by omega)) (bd_le b2 (by omega))
    refine uC _ hg ?_
    have hc := L_fm_compare (a := Nat.gcd n.natAbs d.natAbs) (b := 1) (bd_le (bd_gcd b1 b2) (by omega)) (bd_le (bd_small (by omega)) (by omega))
    rw [mag_one] at hc
    refine uC _ hc ?_
    by_cases hcop : n.natAbs.Coprime d.natAbs
    ·rw [dif_pos ⟨hp, hcop⟩] at hs
     have hs' : rdF (s, t, u) = some ⟨n, d.natAbs, by omega, hcop⟩ := hs
     rw [hs'] at h
     refine uF ?_ h
     have : cmpI (Nat.gcd n.natAbs d.natAbs) 1 = 0 := (cmp_one _).2 hcop
     show (cmpI (Nat.gcd n.natAbs d.natAbs) 1 != 0) = false
     rw [this]; rfl
    ·rw [dif_neg (fun h => hcop h.2)] at hs
     have hs' : rdF (s, t, u) = none := hs
     rw [hs'] at h
     refine uT ?_ h
     show (cmpI (Nat.gcd n.natAbs d.natAbs) 1 != 0) = true
     rw [bne_iff_ne]
     exact fun h2 => hcop ((cmp_one _).1 h2)
   ·rw [dif_neg (fun h => hp h.1)] at hs
    have hs' : rdF (s, t, u) = none := hs
    rw [hs'] at h
    refine uT ?_ h
    rcases Int.lt_or_le d 0 with h0 | h0
    ·rw [Int.sign_eq_neg_one_of_neg h0]; rfl
    ·have : d = 0 := by omega
     rw [this]; rfl
end Go.Vs
namespace Go.Vs
open Go Go.Vg
theorem L_f_read_some {s : FxT} {q : Rat} (h : rdF s = some q) : S_f_read (s, ()) = some (rt q, true, ()) := by unfold S_f_read; dsimp only; rw [h]
theorem L_f_read_none {s : FxT} (h : rdF s = none) : S_f_read (s, ()) = some ((([], false, ()), [], ()), false, ()) := by unfold S_f_read; dsimp only; rw [h]
theorem bdq_le {k j : Nat} {q : Rat} (h : BdQ k q) (hk : k ≤ j) : BdQ j q := ⟨bd_le h.1 hk, bd_le h.2 hk⟩
theorem rdF_bd {s : FxT} {q : Rat} (h : rdF s = some q) : BdQ 0 q := by
 obtain ⟨h1, h2⟩ := (rdF_some h).1
 exact ⟨bd_fit h1, bd_fit h2⟩
theorem bdq_add {k : Nat} {p q : Rat} (h1 : BdQ k p) (h2 : BdQ k q) : BdQ (k + 2) (p + q) := by
 obtain ⟨g, h', top, t, hg, ht, hh, g0, h0, htt, e1, e2⟩ := add_parts p q
 refine ⟨?_, ?_⟩
 ·rw [e1, ← abs_of_mul htt h0]
  refine bd_div _ ?_
  rw [ht]
  exact bd_absadd (bd_absmul h1.1 (bd_nat (bd_div _ h2.2))) (bd_absmul h2.1 (bd_nat (bd_div _ h1.2)))
 ·rw [e2]
  exact bd_le (bd_mul (bd_div _ h1.2) (bd_div _ h2.2)) (by omega)
theorem bdq_neg {k : Nat} {p : Rat} (h1 : BdQ k p) : BdQ k (-p) := ⟨bd_neg h1.1, h1.2⟩
theorem bdq_sub {k : Nat} {p q : Rat} (h1 : BdQ k p) (h2 : BdQ k q) : BdQ (k + 2) (p - q) := by
 rw [Rat.sub_eq_add_neg]; exact bdq_add h1 (bdq_neg h2)
theorem bdq_mul {k : Nat} {p q : Rat} (h1 : BdQ k p) (h2 : BdQ k q) : BdQ (k + 2) (p * q) := by
 obtain ⟨g, h', s, t, hg, hh, g0, h0, hs, ht, e1, e2⟩ := mul_parts p q
 refine ⟨?_, ?_⟩
 ·rw [e1]
  refine bd_le (bd_absmul (k := k) ?_ ?_) (by omega)
  ·rw [← abs_of_mul hs g0]; exact bd_div _ h1.1
  ·rw [← abs_of_mul ht h0]; exact bd_div _ h2.1
 ·rw [e2]
  exact bd_le (bd_mul (bd_div _ h1.2) (bd_div _ h2.2)) (by omega)
theorem bdq_inv {k : Nat} {p : Rat} (h : BdQ k p) (h0 : p ≠ 0) : BdQ k p⁻¹ := by
 obtain ⟨e1, e2, e3⟩ := inv_parts h0
 exact ⟨by rw [e1]; exact h.2, by rw [e3]; exact h.1⟩
theorem f_Add_law (a b : FxT) (y) (h : S_f_Add (a, b, ()) = some y) : (f_Add_t a b).toO = some y := by
 unfold S_f_Add op2F at h
 dsimp only at h
 unfold f_Add_t
 refine uV (uV ?_)
 cases ha : rdF a with
 | none =>
  simp only [ha] at h
  cases hb : rdF b with
  | none => exact uC _ (L_f_read_none ha) (uC _ (L_f_read_none hb) (uT rfl (uV (uV h))))
  | some q => exact uC _ (L_f_read_none ha) (uC _ (L_f_read_some hb) (uT rfl (uV (uV h))))
 | some p =>
  cases hb : rdF b with
  | none =>
   simp only [ha, hb] at h
   exact uC _ (L_f_read_some ha) (uC _ (L_f_read_none hb) (uF rfl (uT rfl (uV (uV h)))))
  | some q =>
   simp only [ha, hb] at h
   have b1 := rdF_bd ha
   have b2 := rdF_bd hb
   refine uC _ (L_f_read_some ha) (uC _ (L_f_read_some hb) (uF rfl (uF rfl ?_)))
   refine uC _ (L_fr_add (bdq_le b1 (by omega)) (bdq_le b2 (by omega))) (uV (uV ?_))
   exact uC _ (L_fr_write (bdq_le (bdq_add b1 b2) (by omega))) h
theorem f_Sub_law (a b : FxT) (y) (h : S_f_Sub (a, b, ()) = some y) : (f_Sub_t a b).toO = some y := by
 unfold S_f_Sub op2F at h
 dsimp only at h
 unfold f_Sub_t
 refine uV (uV ?_)
 cases ha : rdF a with
 | none =>
  simp only [ha] at h
  cases hb : rdF b with
  | none => exact uC _ (L_f_read_none ha) (uC _ (L_f_read_none hb) (uT rfl (uV (uV h))))
  | some q => exact uC _ (L_f_read_none ha) (uC _ (L_f_read_some hb) (uT rfl (uV (uV h))))
 | some p =>
  cases hb : rdF b with
  | none =>
   simp only [ha, hb] at h
   exact uC _ (L_f_read_some ha) (uC _ (L_f_read_none hb) (uF rfl (uT rfl (uV (uV h)))))
  | some q =>
   simp only [ha, hb] at h
   have b1 := rdF_bd ha
   have b2 := rdF_bd hb
   refine uC _ (L_f_read_some ha) (uC _ (L_f_read_some hb) (uF rfl (uF rfl ?_)))
   refine uC _ (L_fr_sub (bdq_le b1 (by omega)) (bdq_le b2 (by omega))) (uV (uV ?_))
   exact uC _ (L_fr_write (bdq_le (bdq_sub b1 b2) (by omega))) h
theorem f_Mul_law (a b : FxT) (y) (h : S_f_Mul (a, b, ()) = some y) : (f_Mul_t a b).toO = some y := by
 unfold S_f_Mul op2F at h
 dsimp only at h
 unfold f_Mul_t
 refine uV (uV ?_)
 cases ha : rdF a with
 | none =>
  simp only [ha] at h
  cases hb : rdF b with
  | none => exact uC _ (L_f_read_none ha) (uC _ (L_f_read_none hb) (uT rfl (uV (uV h))))
  | some q => exact uC _ (L_f_read_none ha) (uC _ (L_f_read_some hb) (uT rfl (uV (uV h))))
 | some p =>
  cases hb : rdF b with
  | none =>
   simp only [ha, hb] at h
   exact uC _ (L_f_read_some ha) (uC _ (L_f_read_none hb) (uF rfl (uT rfl (uV (uV h)))))
  | some q =>
   simp only [ha, hb] at h
   have b1 := rdF_bd ha
   have b2 := rdF_bd hb
   refine uC _ (L_f_read_some ha) (uC _ (L_f_read_some hb) (uF rfl (uF rfl ?_)))
   refine uC _ (L_fr_mul (bdq_le b1 (by omega)) (bdq_le b2 (by omega))) (uV (uV ?_))
   exact uC _ (L_fr_write (bdq_le (bdq_mul b1 b2) (by omega))) h
theorem f_Div_law (a b : FxT) (y) (h : S_f_Div (a, b, ()) = some y) : (f_Div_t a b).toO = some y := by
 unfold S_f_Div at h
 dsimp only at h
 unfold f_Div_t
 cases ha : rdF a with
 | none =>
  simp only [ha] at h
  cases hb : rdF b with
  | none => exact uC _ (L_f_read_none ha) (uC _ (L_f_read_none hb) (uT rfl h))
  | some q => exact uC _ (L_f_read_none ha) (uC _ (L_f_read_some hb) (uT rfl h))
 | some p =>
  cases hb : rdF b with
  | none =>
   simp only [ha, hb] at h
   exact uC _ (L_f_read_some ha) (uC _ (L_f_read_none hb) (uF rfl (uT rfl h)))
  | some q =>
   simp only [ha, hb] at h
   have b1 := rdF_bd ha
   have b2 := rdF_bd hb
   refine uC _ (L_f_read_some ha) (uC _ (L_f_read_some hb) (uF rfl (uF rfl ?_)))
   refine uC _ (L_fm_zero _) ?_
   by_cases h0 : q = 0
   ·rw [if_pos h0] at h
    exact uT (decide_eq_true (by rw [h0]; rfl)) h
   ·rw [if_neg h0] at h
    have := num_ne h0
    refine uF sd ?_
    refine uC _ (L_fr_inverse (bdq_le b2 (by omega)) h0) ?_
    refine uC _ (L_fr_mul (bdq_le b1 (by omega)) (bdq_le (bdq_inv b2 h0) (by omega))) ?_
    exact uC _ (L_fr_write (bdq_le (bdq_mul b1 (bdq_inv b2 h0)) (by omega))) h
theorem f_Cmp_law (a b : FxT) (y) (h : S_f_Cmp (a, b, ()) = some y) : (f_Cmp_t a b).toO = some y := by
 unfold S_f_Cmp at h
 dsimp only at h
 unfold f_Cmp_t
 refine uV (uV ?_)
 cases ha : rdF a with
 | none =>
  simp only [ha] at h
  cases hb : rdF b with
  | none => exact uC _ (L_f_read_none ha) (uC _ (L_f_read_none hb) (uT rfl h))
  | some q => exact uC _ (L_f_read_none ha) (uC _ (L_f_read_some hb) (uT rfl h))
 | some p =>
  cases hb : rdF b with
  | none =>
   simp only [ha, hb] at h
   exact uC _ (L_f_read_some ha) (uC _ (L_f_read_none hb) (uF rfl (uT rfl h)))
  | some q =>
   simp only [ha, hb] at h
   have b1 := rdF_bd ha
   have b2 := rdF_bd hb
   exact uC _ (L_f_read_some ha) (uC _ (L_f_read_some hb) (uF rfl (uF rfl (uC _ (L_fr_order (bdq_le b1 (by omega)) (bdq_le b2 (by omega))) h))))
theorem f_Check_law (a : FxT) (y) (h : S_f_Check (a, ()) = some y) : (f_Check_t a).toO = some y := by
 unfold S_f_Check at h
 dsimp only at h
 unfold f_Check_t
 cases ha : rdF a with
 | none =>
  simp only [ha] at h
  exact uC _ (L_f_read_none ha) (uT rfl h)
 | some q =>
  simp only [ha] at h
  exact uC _ (L_f_read_some ha) (uF rfl h)
theorem f_Sign_law (a : FxT) (y) (h : S_f_Sign (a, ()) = some y) : (f_Sign_t a).toO = some y := by
 unfold S_f_Sign at h
 dsimp only at h
 unfold f_Sign_t
 cases ha : rdF a with
 | none =>
  simp only [ha] at h
  exact uC _ (L_f_read_none ha) (uT rfl h)
 | some q =>
  simp only [ha] at h
  exact uC _ (L_f_read_some ha) (uF rfl (uC _ (L_fi_sign (bd_le (rdF_bd ha).1 (by omega))) h))
theorem fit_len {z : Int} (h : Fit z) : (mag z.natAbs).length ≤ 600 := mag_le_of_decN h
theorem bd0_of {n : Nat} (h : (mag n).length ≤ 1000000) : Bd 0 n := h
theorem fl_len {a : Int} {d : Nat} {k : Nat} (h : (mag a.natAbs).length ≤ k) (hk : 1 ≤ k) : (mag (a / (d : Int)).natAbs).length ≤ k + 1 := by
 rcases Nat.eq_zero_or_pos d with h0 | h0
 ·subst h0
  simp only [Int.natCast_zero, Int.ediv_zero, Int.natAbs_zero, mag_zero]
  simp
 ·have hle : (a / (d : Int)).natAbs ≤ a.natAbs + 1 := by
   rcases Int.lt_or_le a 0 with h1 | h1
   ·rw [fl_neg_div h1 (by omega), Int.natAbs_neg, Int.natAbs_natCast]
    have := Nat.div_le_self a.natAbs d
    split <;> omega
   ·obtain ⟨n, rfl⟩ := Int.eq_ofNat_of_zero_le h1
    have : ((n : Int) / (d : Int)) = ((n / d : Nat) : Int) := by simp
    rw [this, Int.natAbs_natCast]
    have := Nat.div_le_self n d
    omega
  have h2 := mag_length_mono hle
  have h3 := mag_length_add a.natAbs 1
  have h4 : (mag 1).length = 1 := by rw [mag_one]; rfl
  omega
theorem f_Floor_law (a : FxT) (y) (h : S_f_Floor (a, ()) = some y) : (f_Floor_t a).toO = some y := by
 unfold S_f_Floor at h
 dsimp only at h
 unfold f_Floor_t
 cases ha : rdF a with
 | none =>
  simp only [ha] at h
  exact uC _ (L_f_read_none ha) (uT rfl h)
 | some q =>
  simp only [ha] at h
  have b := rdF_bd ha
  refine uC _ (L_f_read_some ha) (uF rfl ?_)
  refine uC _ (L_fi_floor (bd_le b.1 (by omega)) (bd_le b.2 (by omega)) q.den_nz) ?_
  refine uC _ (L_fi_text (bd0_of ?_)) h
  have := fl_len (d := q.den) (fit_len (rdF_some ha).1.1) (by omega)
  omega
theorem f_Make_law (n d : List UInt8) (y) (h : S_f_Make (n, d, ()) = some y) : (f_Make_t n d).toO = some y := by
 unfold S_f_Make at h
 dsimp only at h
 unfold f_Make_t
 cases hn : rdW n with
 | none =>
  simp only [hn] at h
  exact uC _ (L_w_Check n) (uT (by rw [hn]; rfl) h)
 | some a =>
  cases hd : rdW d with
  | none =>
   simp only [hn, hd] at h
   exact uC _ (L_w_Check n) (uF (by rw [hn]; rfl) (uC _ (L_w_Check d) (uT (by rw [hd]; rfl) h)))
  | some b =>
   simp only [hn, hd] at h
   have b1 := rdW_bd hn
   have b2 := rdW_bd hd
   refine uC _ (L_w_Check n) (uF (by rw [hn]; rfl) (uC _ (L_w_Check d) (uF (by rw [hd]; rfl) ?_)))
   refine uC (sg a, ()) (by rw [(rdW_some hn).2]; exact L_f_number (bd_le b1 (by omega))) ?_
   refine uC (sg b, ()) (by rw [(rdW_some hd).2]; exact L_f_number (bd_le b2 (by omega))) ?_
   refine uC _ (L_fm_zero _) ?_
   unfold ofQ at h
   by_cases h0 : b = 0
   ·rw [if_pos h0] at h
    exact uT sd h
   ·rw [if_neg h0] at h
    refine uF sd ?_
    obtain ⟨s, hs, hv⟩ : ∃ s : Int, s.natAbs = a.natAbs ∧ (s = 0 ∨ (!(decide (a < 0) == decide (b < 0))) = decide (s < 0)) ∧ Rat.divInt a b = mkRat s b.natAbs := by
     rcases Int.lt_or_le b 0 with c | c
     ·refine ⟨-a, by omega, ?_, ?_⟩
      ·by_cases ha : a = 0
       ·left; omega
       ·right
        rw [decide_eq_true c]
        rcases Int.lt_or_le a 0 with c2 | c2
        ·rw [decide_eq_true c2, decide_eq_false (by omega)]; rfl
        ·rw [decide_eq_false (by omega), decide_eq_true (by omega)]; rfl
      ·rw [← Rat.neg_divInt_neg, ← Rat.divInt_ofNat]
       congr 1; omega
     ·refine ⟨a, rfl, ?_, ?_⟩
      ·right
       rw [decide_eq_false (show ¬ b < 0 by omega)]
       cases decide (a < 0) <;> rfl
      ·rw [← Rat.divInt_ofNat]
       congr 1; omega
    obtain ⟨hv1, hv2⟩ := hv
    rw [hv2] at h
    refine uC (sg s, ()) (L_f_signed hs.symm hv1) ?_
    refine uC _ (L_f_reduced (by rw [hs]; exact bd_le b1 (by omega)) (bd_le b2 (by omega)) (by omega)) ?_
    refine uC _ (L_fr_write ?_) h
    obtain ⟨g, t, hg, g0, e0, e1, e2⟩ := mkRat_parts s (d := b.natAbs) (by omega)
    refine ⟨?_, ?_⟩
    ·rw [e1, ← abs_of_mul e0 g0, hs]; exact bd_le (bd_div _ b1) (by omega)
    ·rw [e2]; exact bd_le (bd_div _ b2) (by omega)
theorem fit_small {z : Int} (h : inI64 z) : Fit z := by
 unfold inI64 at h
 have : (decN z.natAbs).length ≤ 20 := (decN_length_iff (by omega)).2 (by omega)
 unfold Fit; omega
theorem f_Of_law (n d : Int) (y) (h : S_f_Of (n, d, ()) = some y) : (f_Of_t n d).toO = some y := by
 unfold S_f_Of at h
 split at h
 ·rename_i hp
  refine uC _ (L_w_Of hp.1) (uC _ (L_w_Of hp.2) ?_)
  refine uC (ofQ n d) ?_ h
  unfold S_f_Make
  simp only [rdW_dec (fit_small hp.1), rdW_dec (fit_small hp.2)]
 ·cases h
theorem L_w_Int_dec {z : Int} (h : Fit z) : S_w_Int (dec z, ()) = some (if inI64 z then (z, 0, ()) else (0, 6, ())) := by
 unfold S_w_Int
 simp only [rdW_dec h]
theorem mag_of_fit {z : Int} (h : Fit z) : (mag z.natAbs).length ≤ 67 := by
 have hl : (decN z.natAbs).length ≤ 600 := h
 obtain ⟨L, hL⟩ : ∃ L : Nat, L = 67 := ⟨_, rfl⟩
 rw [← hL, mag_length_le_iff]
 have h1 := lt_pow_decN z.natAbs
 have h3 : (10 : Nat) ^ (9 * L) = 1000000000 ^ L := by rw [Nat.pow_mul]
 have h2 : (10 : Nat) ^ (decN z.natAbs).length ≤ 10 ^ (9 * L) := Nat.pow_le_pow_right (by omega) (by omega)
 omega
end Go.Vs
namespace Go.Vs
open Go Go.Vg
theorem near_len {q : Rat} (h : FitQ q) {s : Nat} (hs : s ≤ 1000000000000) : (mag (nearQ q s).natAbs).length ≤ 200 := by
 rw [near_eq]
 have h1 := mag_of_fit h.1
 have h2 := mag_of_fit h.2
 have hs2 : (mag (s * 2)).length ≤ 2 := mag_length_le_iff.2 (by omega)
 have e1 : (mag (q.num * (s * 2 : Nat) + q.den).natAbs).length ≤ 100 := by
  have a1 := Int.natAbs_add_le (q.num * (s * 2 : Nat)) q.den
  have a2 := mag_length_mono a1
  have a3 := mag_length_add (q.num * (s * 2 : Nat)).natAbs (q.den : Int).natAbs
  rw [Int.natAbs_mul] at a3 a2
  have a4 := mag_length_mul q.num.natAbs ((s * 2 : Nat) : Int).natAbs
  simp only [Int.natAbs_natCast] at a1 a2 a3 a4 h2 ⊢
  omega
 have := fl_len (d := q.den * 2) e1 (by omega)
 omega
theorem f_Near_law (a : FxT) (scale : Int) (y) (h : S_f_Near (a, scale, ()) = some y) : (f_Near_t a scale).toO = some y := by
 unfold S_f_Near at h
 dsimp only at h
 unfold f_Near_t
 cases ha : rdF a with
 | none =>
  simp only [ha] at h
  exact uC _ (L_f_read_none ha) (uT rfl h)
 | some q =>
  simp only [ha] at h
  refine uC _ (L_f_read_some ha) (uF rfl ?_)
  have hq := (rdF_some ha).1
  have hb := rdF_bd ha
  by_cases h1 : scale < 1
  ·rw [if_pos (Or.inl h1)] at h
   exact uT (decide_eq_true h1) h
  by_cases h2 : scale > 1000000000000
  ·rw [if_pos (Or.inr h2)] at h
   exact uF (decide_eq_false h1) (uT (decide_eq_true h2) h)
  rw [if_neg (by omega)] at h
  obtain ⟨s, rfl⟩ := Int.eq_ofNat_of_zero_le (show 0 ≤ scale by omega)
  rw [Int.toNat_natCast] at h
  refine uF (decide_eq_false h1) (uF (decide_eq_false h2) ?_)
  have hl := near_len hq (s := s) (by omega)
  refine uC (mag s, ()) (by rw [wu64_id (by omega)]; exact L_f_fromSmall (by omega)) ?_
  refine uC _ (L_fr_near (bdq_le hb (by omega)) (bd_le (bd_small (by omega)) (by omega))) ?_
  refine uC _ (L_fi_text (bd0_of (by omega))) ?_
  by_cases hf : Fit (nearQ q s)
  ·refine uC _ (L_w_Int_dec hf) ?_
   by_cases hi : inI64 (nearQ q s)
   ·simp only [if_pos hi] at h ⊢
    exact uF rfl h
   ·simp only [if_neg hi] at h ⊢
    exact uT rfl h
  ·have hn : rdW (dec (nearQ q s)) = none := rdW_none fun z hz he => hf (by rw [← dec_inj he]; exact hz)
   rw [if_neg (fun h => hf (fit_small h))] at h
   refine uC (0, 10, ()) (by unfold S_w_Int; simp only [hn]) (uT rfl h)
theorem w_Div_law_write {z : Int} (h : Fit z) : S_w_write (sg z, ()) = some (dec z, 0, ()) := by
 rw [L_w_write (bd_le (bd_fit h) (by omega)), wrW_pos h]
theorem fit_of_le {a b : Int} (h : Fit b) (hab : a.natAbs ≤ b.natAbs) : Fit a := by
 unfold Fit at *
 rw [decN_length_iff (by omega)] at *
 omega
theorem ediv_abs {a b : Int} (hb : b ≠ 0) : (a < 0 → (a / b).natAbs = (if a.natAbs % b.natAbs = 0 then a.natAbs / b.natAbs else a.natAbs / b.natAbs + 1) ∧ (a % b).natAbs = (if a.natAbs % b.natAbs = 0 then 0 else b.natAbs - a.natAbs % b.natAbs)) ∧ (0 ≤ a → (a / b).natAbs = a.natAbs / b.natAbs ∧ (a % b).natAbs = a.natAbs % b.natAbs) := by
 obtain ⟨d, hd, hbd⟩ : ∃ d : Nat, b.natAbs = d ∧ (b = d ∨ b = -(d : Int)) := ⟨b.natAbs, rfl, by omega⟩
 have hd0 : d ≠ 0 := by omega
 have e1 : (a / b).natAbs = (a / (d : Int)).natAbs := by
  rcases hbd with h | h
  ·rw [h]
  ·rw [h, Int.ediv_neg, Int.natAbs_neg]
 have e2 : a % b = a % (d : Int) := by
  rcases hbd with h | h
  ·rw [h]
  ·rw [h, Int.emod_neg]
 rw [e1, e2, hd]
 constructor
 ·intro ha
  have h1 := fl_neg_div ha hd0
  have h2 := Int.emod_add_mul_ediv a d
  have h3 := Nat.mod_add_div a.natAbs d
  have h4 := Nat.mod_lt a.natAbs (show 0 < d by omega)
  generalize hq : a.natAbs / d = q at *
  generalize hr : a.natAbs % d = r at *
  rw [h1] at h2
  constructor
  ·rw [h1, Int.natAbs_neg, Int.natAbs_natCast]
  ·by_cases h0 : r = 0
   ·rw [if_pos h0] at h2 ⊢
    have : (a.natAbs : Int) = ((r + d * q : Nat) : Int) := by rw [h3]
    rw [Int.natCast_add, Int.natCast_mul] at this
    have e3 : (d : Int) * -(q : Int) = -((d : Int) * q) := by rw [Int.mul_neg]
    rw [e3] at h2
    generalize (d : Int) * q = w at *
    omega
   ·rw [if_neg h0] at h2 ⊢
    have : (a.natAbs : Int) = ((r + d * q : Nat) : Int) := by rw [h3]
    rw [Int.natCast_add, Int.natCast_mul] at this
    have e3 : (d : Int) * -(((q + 1 : Nat)) : Int) = -((d : Int) * q) - d := by rw [Int.mul_neg, Int.natCast_add, Int.mul_add]; simp; omega
    rw [e3] at h2
    generalize (d : Int) * q = w at *
    omega
 ·intro ha
  obtain ⟨n, rfl⟩ := Int.eq_ofNat_of_zero_le ha
  have h1 : ((n : Int) / (d : Int)) = ((n / d : Nat) : Int) := by simp
  have h2 : ((n : Int) % (d : Int)) = ((n % d : Nat) : Int) := by simp
  exact ⟨by rw [h1, Int.natAbs_natCast, Int.natAbs_natCast], by rw [h2, Int.natAbs_natCast, Int.natAbs_natCast]⟩
theorem ediv_sign {a b : Int} (hb : b ≠ 0) : a / b = 0 ∨ (!(decide (a < 0) == decide (b < 0))) = decide (a / b < 0) := by
 by_cases h0 : a / b = 0
 ·exact Or.inl h0
 ·right
  rcases Int.lt_or_le a 0 with ha | ha <;> rcases Int.lt_or_le b 0 with hb' | hb'
  ·have := Int.ediv_nonneg_of_nonpos_of_nonpos (Int.le_of_lt ha) (Int.le_of_lt hb')
   rw [decide_eq_true ha, decide_eq_true hb', decide_eq_false (by omega)]; rfl
  ·have := Int.ediv_neg_of_neg_of_pos ha (show 0 < b by omega)
   rw [decide_eq_true ha, decide_eq_false (by omega), decide_eq_true (by omega)]; rfl
  ·have := Int.ediv_nonpos_of_nonneg_of_nonpos ha (Int.le_of_lt hb')
   rw [decide_eq_false (by omega), decide_eq_true hb', decide_eq_true (by omega)]; rfl
  ·have := Int.ediv_nonneg ha hb'
   rw [decide_eq_false (by omega), decide_eq_false (by omega), decide_eq_false (by omega)]; rfl
theorem w_Div_law (a b : List UInt8) (y) (h : S_w_Div (a, b, ()) = some y) : (w_Div_t a b).toO = some y := by
 unfold S_w_Div at h
 dsimp only at h
 unfold w_Div_t w_Div_t_k1
 cases hr : rdW a with
 | none =>
  simp only [hr] at h
  exact uC (([], false, ()), ([], false, ()), 10, ()) (by unfold S_w_pair; simp only [hr]) (uT rfl h)
 | some z =>
  cases hb : rdW b with
  | none =>
   simp only [hr, hb] at h
   exact uC (([], false, ()), ([], false, ()), 10, ()) (by unfold S_w_pair; simp only [hr, hb]) (uT rfl h)
  | some w =>
   simp only [hr, hb] at h
   have b1 := rdW_bd hr
   have b2 := rdW_bd hb
   have f1 := (rdW_some hr).1
   have f2 := (rdW_some hb).1
   refine uC (sg z, sg w, 0, ()) (by unfold S_w_pair; simp only [hr, hb]) (uF rfl ?_)
   refine uC _ (L_wm_zero _) ?_
   by_cases h0 : w = 0
   ·rw [if_pos h0] at h
    exact uT sd h
   rw [if_neg h0] at h
   refine uF sd ?_
   have hdv := L_wm_divide (a := z.natAbs) (b := w.natAbs) (bd_le b1 (by omega)) (bd_le b2 (by omega)) (by omega)
   obtain ⟨en, ep⟩ := ediv_abs (a := z) h0
   have hsg := ediv_sign (a := z) h0
   have hr0 := Int.emod_nonneg z h0
   have hrlt : (z % w).natAbs < w.natAbs := by
    rcases Int.lt_or_le w 0 with c | c
    ·have := Int.emod_lt_of_pos z (show 0 < -w by omega)
     rw [Int.emod_neg] at this
     omega
    ·have := Int.emod_lt_of_pos z (show 0 < w by omega)
     omega
   have fr : Fit (z % w) := fit_of_le f2 (by omega)
   have hq1 := Nat.div_le_self z.natAbs w.natAbs
   have fq : Fit (z / w) := by
    refine fit_of_le f1 ?_
    rcases Int.lt_or_le z 0 with c | c
    ·rw [(en c).1]
     split
     ·exact hq1
     ·rename_i hm
      have : 2 ≤ w.natAbs := by
       rcases Nat.lt_or_ge w.natAbs 2 with c2 | c2
       ·have : w.natAbs = 1 := by omega
        rw [this, Nat.mod_one] at hm; exact absurd rfl hm
       ·exact c2
      have h2 := Nat.div_le_div_left this (show 0 < 2 by omega) (a := z.natAbs)
      omega
    ·rw [(ep c).1]; exact hq1
   have tail : ∀ (q r : Nat) (b : Bool), q = (z / w).natAbs → r = (z % w).natAbs → (b = (!(decide (z < 0) == decide (w < 0)))) → S_w_of (mag q, b, ()) = some (sg (z / w), ()) ∧ S_w_of (mag r, false, ()) = some (sg (z % w), ()) := by
    intro q r b hq hr2 hb2
    refine ⟨L_w_of hq ?_, L_w_of hr2 (Or.inr (decide_eq_false (by omega)).symm)⟩
    rw [hb2]; exact hsg
   refine uC _ hdv ?_
   by_cases c : z < 0
   ·refine uT (decide_eq_true c) ?_
    refine uC _ (L_wm_zero _) ?_
    obtain ⟨g1, g2⟩ := en c
    by_cases hm : z.natAbs % w.natAbs = 0
    ·rw [if_pos hm] at g1 g2
     obtain ⟨u1, u2⟩ := tail _ _ (!(decide (z < 0) == decide (w < 0))) g1.symm (hm.trans g2.symm) rfl
     refine uF (by show (!decide _) = false; rw [decide_eq_true hm]; rfl) ?_
     refine uC _ u1 (uC _ (w_Div_law_write fq) (uF rfl ?_))
     exact uC _ u2 (uC _ (w_Div_law_write fr) (uF rfl h))
    ·rw [if_neg hm] at g1 g2
     have hlt := Nat.mod_lt z.natAbs (show 0 < w.natAbs by omega)
     obtain ⟨u1, u2⟩ := tail _ _ (!(decide (z < 0) == decide (w < 0))) g1.symm g2.symm rfl
     refine uT (by show (!decide _) = true; rw [decide_eq_false hm]; rfl) ?_
     have hp := L_wm_plus (a := z.natAbs / w.natAbs) (b := 1) (bd_le (bd_div _ b1) (by omega)) (bd_le (bd_small (by omega)) (by omega))
     rw [mag_one] at hp
     refine uC _ hp ?_
     refine uC _ (L_wm_minus (bd_le b2 (by omega)) (by omega)) ?_
     refine uC _ u1 (uC _ (w_Div_law_write fq) (uF rfl ?_))
     exact uC _ u2 (uC _ (w_Div_law_write fr) (uF rfl h))
   ·refine uF (decide_eq_false c) ?_
    obtain ⟨g1, g2⟩ := ep (by omega)
    obtain ⟨u1, u2⟩ := tail _ _ (!(decide (z < 0) == decide (w < 0))) g1.symm g2.symm rfl
    refine uC _ u1 (uC _ (w_Div_law_write fq) (uF rfl ?_))
    exact uC _ u2 (uC _ (w_Div_law_write fr) (uF rfl h))
end Go.Vs
namespace Go.Vs
open Go Go.Vg
theorem mag_length_pow (n : Nat) : ∀ k : Nat, (mag (n ^ k)).length ≤ k * (mag n).length + 1
 | 0 => by simp [mag_one]
 | k + 1 => by
  have h1 := mag_length_pow n k
  have h2 := mag_length_mul (n ^ k) n
  rw [Nat.pow_succ, Nat.add_mul]
  rcases Nat.eq_zero_or_pos (mag n).length with h3 | h3
  ·have : n = 0 := mag_nil_iff.1 (List.length_eq_zero_iff.1 h3)
   subst this
   simp [mag_zero]
  ·omega
theorem L_wm_power {a n : Nat} (h1 : Bd 2 a) (h2 : n ≤ 40) : S_wm_power (mag a, (n : Int), ()) = some (mag (a ^ n), ()) := by
 refine spec_at (enc := fun x : Nat × Nat => (mag x.1, (x.2 : Int), ())) (a, n) ⟨h1, h2⟩ (fun b hb => ?_)
 obtain ⟨e1, e2⟩ := Prod.mk.inj hb
 obtain ⟨e2, -⟩ := Prod.mk.inj e2
 exact Prod.ext (mag_inj e1) (Int.ofNat.inj e2)
theorem bd_pow {a n : Nat} (h1 : Bd 2 a) (h2 : n ≤ 40) : Bd 7 (a ^ n) := by
 have h3 := mag_length_pow a n
 unfold Bd at *
 have h4 : n * (mag a).length ≤ 40 * (1000000 * 4 ^ 2) := Nat.mul_le_mul h2 h1
 omega
theorem wm_power_law (m : List Int) (n : Int) (y) (h : S_wm_power (m, n, ()) = some y) : (wm_power_t m n).toO = some y := by
 obtain ⟨⟨a, k⟩, hp, hx, rfl⟩ := spec_some h
 obtain ⟨rfl, hx2⟩ := Prod.mk.inj hx; obtain ⟨rfl, -⟩ := Prod.mk.inj hx2; dsimp only
 obtain ⟨l1, l2⟩ := hp
 simp only at l1 l2
 refine uO (0, [1], ()) rfl ?_
 refine loopO_eq (fun i : Int × List Int × Unit => ∃ j : Nat, j ≤ k ∧ i = ((j : Int), mag (a ^ j), ())) (fun i => ((k : Int) - i.1).toNat) (fun _ => (mag (a ^ k), ())) ?_ _ ⟨0, by omega, by rw [Nat.pow_zero, mag_one]; rfl⟩
 rintro i ⟨j, hj, rfl⟩
 simp only [wm_power_R1]
 rcases Nat.lt_or_ge j k with h1 | h1
 ·left
  refine ⟨(((j + 1 : Nat) : Int), mag (a ^ (j + 1)), ()), ?_, ⟨j + 1, by omega, rfl⟩, by simp only; omega, (by first | exact True.intro | rfl)⟩
  refine uT sd ?_
  refine uC (mag (a ^ (j + 1)), ()) (by rw [L_wm_times (bd_le l1 (by omega)) (bd_le (bd_pow l1 (by omega)) (by omega)), Nat.pow_succ, Nat.mul_comm]) ?_
  repeat (first | refine uV ?_ | refine uB ?_ | refine uN sd ?_ | refine uT sd ?_ | refine uF sd ?_ | refine uN (by simp) ?_)
  simp (disch := omega) only [toO_ok, w64_id, wu64_id, wu32_id, wu8_id, gi_nat, Nat.zero_add, Int.toNat_natCast, len_eq, List.take_length]
  rfl
 ·right
  have : j = k := by omega
  subst this
  refine uF sd rfl
theorem w_Pow_law (a : List UInt8) (n : Int) (y) (h : S_w_Pow (a, n, ()) = some y) : (w_Pow_t a n).toO = some y := by
 unfold S_w_Pow at h
 dsimp only at h
 unfold w_Pow_t
 cases hr : rdW a with
 | none =>
  simp only [hr] at h
  exact uC _ (L_w_read_none hr) (uT rfl h)
 | some z =>
  simp only [hr] at h
  have b1 := rdW_bd hr
  refine uC _ (L_w_read_some hr) (uF rfl ?_)
  by_cases h1 : n < 0
  ·rw [if_pos (Or.inl h1)] at h
   exact uT (decide_eq_true h1) h
  by_cases h2 : n > 40
  ·rw [if_pos (Or.inr h2)] at h
   exact uF (decide_eq_false h1) (uT (decide_eq_true h2) h)
  rw [if_neg (by omega)] at h
  obtain ⟨k, rfl⟩ := Int.eq_ofNat_of_zero_le (show 0 ≤ n by omega)
  rw [Int.toNat_natCast] at h
  refine uF (decide_eq_false h1) (uF (decide_eq_false h2) ?_)
  have hk : k ≤ 40 := by omega
  refine uC _ (L_wm_power (bd_le b1 (by omega)) hk) ?_
  have bp := bd_pow (bd_le b1 (show 0 ≤ 2 by omega)) hk
  have hw : S_w_write (sg (z ^ k), ()) = some (wrW (z ^ k)) := L_w_write (by rw [Int.natAbs_pow]; exact bd_le bp (by omega))
  by_cases hz : z < 0
  ·refine uT (decide_eq_true hz) (uV ?_)
   refine uC (sg (z ^ k), ()) (L_w_of (by rw [Int.natAbs_pow]) ?_) (uC _ hw h)
   right
   obtain ⟨w, hw0, rfl⟩ : ∃ w : Int, 0 < w ∧ z = -w := ⟨-z, by omega, by omega⟩
   rw [Int.tmod_eq_emod_of_nonneg (by omega)]
   have hpos : 0 < w ^ k := Int.pow_pos hw0
   rcases Nat.mod_two_eq_zero_or_one k with hm | hm
   ·have e : (-w) ^ k = w ^ k := by
     obtain ⟨j, rfl⟩ : ∃ j, k = 2 * j := ⟨k / 2, by omega⟩
     rw [Int.pow_mul, Int.pow_mul]; congr 1; simp only [Int.pow_succ, Int.pow_zero, Int.one_mul, Int.neg_mul_neg]
    rw [e, decide_eq_false (show ¬ w ^ k < 0 by omega)]
    rw [beq_eq_false_iff_ne]; omega
   ·have e : (-w) ^ k = -(w ^ k) := by
     obtain ⟨j, rfl⟩ : ∃ j, k = 2 * j + 1 := ⟨k / 2, by omega⟩
     rw [Int.pow_succ, Int.pow_succ, Int.pow_mul, Int.pow_mul]
     have : (-w) ^ 2 = w ^ 2 := by simp only [Int.pow_succ, Int.pow_zero, Int.one_mul, Int.neg_mul_neg]
     rw [this, Int.mul_neg]
    rw [e, decide_eq_true (show -(w ^ k) < 0 by omega)]
    rw [beq_iff_eq]; omega
  ·refine uF (decide_eq_false hz) ?_
   have : 0 ≤ z ^ k := Int.pow_nonneg (by omega)
   refine uC (sg (z ^ k), ()) (L_w_of (by rw [Int.natAbs_pow]) (Or.inr (decide_eq_false (by omega)).symm)) (uC _ hw h)
theorem L_w_tenfold {n : Nat} (h : n ≤ 100000000) : S_w_tenfold ((n : Int), ()) = some (mag (10 ^ n), ()) := spec_at (enc := fun x : Nat => ((x : Int), ())) n h (fun b hb => Int.ofNat.inj (Prod.mk.inj hb).1)
theorem w_tenfold_law (n : Int) (y) (h : S_w_tenfold (n, ()) = some y) : (w_tenfold_t n).toO = some y := by
 obtain ⟨k, hp, hx, rfl⟩ := spec_some h
 obtain ⟨rfl, -⟩ := Prod.mk.inj hx
 have e1 : Int.tdiv (k : Int) 9 = ((k / 9 : Nat) : Int) := by rw [Int.tdiv_eq_ediv_of_nonneg (by omega)]; omega
 have e2 : Int.tmod (k : Int) 9 = ((k % 9 : Nat) : Int) := by rw [Int.tmod_eq_emod_of_nonneg (by omega)]; omega
 have e3 : w64 ((k / 9 : Nat) : Int) = ((k / 9 : Nat) : Int) := w64_id (by omega)
 have e4 : w64 (((k / 9 : Nat) : Int) + 1) = ((k / 9 + 1 : Nat) : Int) := by rw [w64_id (by omega)]; omega
 unfold w_tenfold_t
 simp only [e1, e3, e4]
 refine uV (uN (by omega) (uV ?_))
 refine uO (0, 1, ()) rfl ?_
 refine loopO_eq (fun i : Int × Int × Unit => ∃ j : Nat, j ≤ k % 9 ∧ i = ((j : Int), ((10 ^ j : Nat) : Int), ())) (fun i => (((k % 9 : Nat) : Int) - i.1).toNat) (fun _ => (mag (10 ^ k), ())) ?_ _ ⟨0, by omega, rfl⟩
 rintro i ⟨j, hj, rfl⟩
 have hj9 : (10 : Nat) ^ j ≤ 10 ^ 8 := Nat.pow_le_pow_right (by omega) (by omega)
 have hp0 : (0 : Int) ≤ ((10 ^ j : Nat) : Int) := Int.natCast_nonneg _
 have hp8 : ((10 ^ j : Nat) : Int) ≤ 100000000 := Int.ofNat_le.2 hj9
 simp only [w_tenfold_R1, e1, e2, e3, e4]
 rcases Nat.lt_or_ge j (k % 9) with h1 | h1
 ·left
  refine ⟨(((j + 1 : Nat) : Int), ((10 ^ (j + 1) : Nat) : Int), ()), ?_, ⟨j + 1, by omega, rfl⟩, by simp only; omega, (by first | exact True.intro | rfl)⟩
  repeat (first | refine uV ?_ | refine uB ?_ | refine uN sd ?_ | refine uT sd ?_ | refine uF sd ?_ | refine uN (by simp) ?_)
  rw [wu32_id (x := ((10 ^ j : Nat) : Int) * 10) (by omega), w64_id (x := (j : Int) + 1) (by omega), Nat.pow_succ, Int.natCast_mul]
  rfl
 ·right
  have hjk : j = k % 9 := by omega
  refine uF sd (uV (uN sd ?_))
  simp only [Int.toNat_natCast, Nat.zero_add, toO_ok]
  rw [List.take_of_length_le (by simp)]
  have hd : Dg 1000000000 ((List.replicate (k / 9 + 1) 0).set (k / 9) ((10 ^ j : Nat) : Int)) := Dg_set (Dg_zeros (by omega) _) ⟨by omega, by omega⟩ _
  have hv : V 1000000000 ((List.replicate (k / 9 + 1) 0).set (k / 9) ((10 ^ j : Nat) : Int)) = ((10 ^ k : Nat) : Int) := by
   rw [V_set _ (by simp), V_zeros, getD_lt (by simp)]
   simp only [List.getElem_replicate, Int.sub_zero, Int.zero_add]
   have : (10 : Nat) ^ k = 1000000000 ^ (k / 9) * 10 ^ j := by
    rw [show (1000000000 : Nat) = 10 ^ 9 by decide, ← Nat.pow_mul, ← Nat.pow_add, hjk, Nat.div_add_mod]
   rw [this]; simp
  rw [mag_uniq hd (Cn_of_ge (by omega) hd (Or.inr ?_)) hv]
  rw [hv]
  simp only [List.length_set, List.length_replicate, Nat.add_sub_cancel]
  have h6 : (1000000000 : Nat) ^ (k / 9) ≤ 10 ^ k := by
   rw [show (1000000000 : Nat) = 10 ^ 9 by decide, ← Nat.pow_mul]
   exact Nat.pow_le_pow_right (by omega) (by omega)
  have h7 : ((1000000000 ^ (k / 9) : Nat) : Int) ≤ ((10 ^ k : Nat) : Int) := Int.ofNat_le.2 h6
  simpa using h7
theorem iroot_of {k n r : Nat} (hk : 1 ≤ k) (h1 : r ^ k ≤ n) (h2 : n < (r + 1) ^ k) : iroot k n = r := by
 have hex : ∃ r, r ^ k ≤ n ∧ n < (r + 1) ^ k := ⟨r, h1, h2⟩
 unfold iroot
 rw [dif_pos hex]
 obtain ⟨g1, g2⟩ := hex.choose_spec
 generalize hex.choose = q at *
 rcases Nat.lt_trichotomy q r with h | h | h
 ·have := Nat.pow_le_pow_left (show q + 1 ≤ r by omega) k; omega
 ·exact h
 ·have := Nat.pow_le_pow_left (show r + 1 ≤ q by omega) k; omega
theorem iroot_ex (k n : Nat) (hk : 1 ≤ k) : ∃ r, r ^ k ≤ n ∧ n < (r + 1) ^ k := by
 have H : ∀ m, (∃ r, r ^ k ≤ n ∧ n < (r + 1) ^ k) ∨ m ^ k ≤ n := by
  intro m
  induction m with
  | zero => right; rw [Nat.zero_pow hk]; omega
  | succ m ih =>
   rcases ih with h | h
   ·exact Or.inl h
   ·rcases Nat.lt_or_ge n ((m + 1) ^ k) with h2 | h2
    ·exact Or.inl ⟨m, h, h2⟩
    ·exact Or.inr h2
 rcases H (n + 1) with h | h
 ·exact h
 ·have : n + 1 ≤ (n + 1) ^ k := Nat.le_self_pow (by omega) _
  omega
theorem iroot_spec {k : Nat} (n : Nat) (hk : 1 ≤ k) : (iroot k n) ^ k ≤ n ∧ n < (iroot k n + 1) ^ k := by
 obtain ⟨r, h1, h2⟩ := iroot_ex k n hk
 rw [iroot_of hk h1 h2]; exact ⟨h1, h2⟩
theorem tangent (r x : Int) (hr : 0 ≤ r) (hx : 0 ≤ x) : ∀ k : Nat, x ^ (k + 1) + (k + 1 : Nat) * x ^ k * (r - x) ≤ r ^ (k + 1)
 | 0 => by simp [Int.pow_succ]; omega
 | k + 1 => by
  have ih := tangent r x hr hx k
  have h1 := Int.mul_le_mul_of_nonneg_left ih hr
  have h2 : 0 ≤ (k + 1 : Nat) * x ^ k * ((r - x) * (r - x)) := Int.mul_nonneg (Int.mul_nonneg (by omega) (Int.pow_nonneg hx)) (by
   rcases Int.lt_or_le (r - x) 0 with h | h
   ·exact Int.le_of_lt (Int.mul_pos_of_neg_of_neg h h)
   ·exact Int.mul_nonneg h h)
  have e1 : r ^ (k + 1 + 1) = r * r ^ (k + 1) := by rw [Int.pow_succ, Int.mul_comm]
  have e2 : x ^ (k + 1 + 1) = x * (x * x ^ k) := by rw [Int.pow_succ, Int.pow_succ]; grind
  have e3 : x ^ (k + 1) = x * x ^ k := by rw [Int.pow_succ, Int.mul_comm]
  rw [e1, e2, e3]
  rw [e3] at h1
  have e4 : ((k + 1 + 1 : Nat) : Int) = ((k + 1 : Nat) : Int) + 1 := by omega
  rw [e4]
  generalize ((k + 1 : Nat) : Int) = K at *
  generalize x ^ k = P at *
  generalize r ^ (k + 1) = R at *
  have e5 : r * (x * P + K * P * (r - x)) = x * (x * P) + (K + 1) * (x * P) * (r - x) + K * P * ((r - x) * (r - x)) := by grind
  omega
theorem newton_ge {m r x k : Nat} (hk : 1 ≤ k) (hx : 0 < x) (h : r ^ k ≤ m) : r ≤ (x * (k - 1) + m / x ^ (k - 1)) / k := by
 rw [Nat.le_div_iff_mul_le (by omega)]
 obtain ⟨j, rfl⟩ : ∃ j, k = j + 1 := ⟨k - 1, by omega⟩
 simp only [Nat.add_sub_cancel]
 rcases Nat.lt_or_ge (x * j) (r * (j + 1)) with h1 | h1
 ·have hp : 0 < x ^ j := Nat.pow_pos hx
  have h2 : r * (j + 1) - x * j ≤ m / x ^ j := by
   rw [Nat.le_div_iff_mul_le hp]
   have ht := tangent (r : Int) (x : Int) (by omega) (by omega) j
   have h3 : ((r ^ (j + 1) : Nat) : Int) ≤ (m : Int) := Int.ofNat_le.2 h
   rw [Int.natCast_pow] at h3
   have h4 : (((r * (j + 1) - x * j) * x ^ j : Nat) : Int) ≤ (m : Int) := by
    rw [Int.natCast_mul, Int.natCast_sub (Nat.le_of_lt h1), Int.natCast_mul, Int.natCast_mul, Int.natCast_pow]
    have e1 : (x : Int) ^ (j + 1) = x * (x : Int) ^ j := by rw [Int.pow_succ, Int.mul_comm]
    rw [e1] at ht
    have e2 : ((j + 1 : Nat) : Int) = (j : Int) + 1 := by omega
    rw [e2] at ht ⊢
    generalize (x : Int) ^ j = P at *
    generalize (j : Int) = J at *
    have e3 : ((r : Int) * (J + 1) - x * J) * P = x * P + (J + 1) * P * (r - x) := by grind
    rw [e3]
    omega
   exact Int.ofNat_le.1 h4
  generalize m / x ^ j = M at *
  generalize x * j = A at *
  generalize r * (j + 1) = C at *
  omega
 ·exact Nat.le_trans h1 (Nat.le_add_right _ _)
theorem newton_lt {m x k : Nat} (hk : 1 ≤ k) (hx : 0 < x) (h : m < x ^ k) : (x * (k - 1) + m / x ^ (k - 1)) / k < x := by
 obtain ⟨j, rfl⟩ : ∃ j, k = j + 1 := ⟨k - 1, by omega⟩
 simp only [Nat.add_sub_cancel]
 have hp : 0 < x ^ j := Nat.pow_pos hx
 have h2 : m / x ^ j < x := by
  rw [Nat.div_lt_iff_lt_mul hp, Nat.mul_comm]
  rwa [Nat.pow_succ] at h
 rw [Nat.div_lt_iff_lt_mul (by omega), Nat.mul_add]
 omega
theorem wm_root_law (m : List Int) (k : Int) (y) (h : S_wm_root (m, k, ()) = some y) : (wm_root_t m k).toO = some y := by
 obtain ⟨⟨n, q⟩, hp, hx, rfl⟩ := spec_some h
 obtain ⟨rfl, hx2⟩ := Prod.mk.inj hx; obtain ⟨rfl, -⟩ := Prod.mk.inj hx2; dsimp only
 obtain ⟨l1, l2, l3⟩ := hp
 simp only at l1 l2 l3
 have hdl := decN_lim l1
 refine uC _ (L_wm_zero n) ?_
 by_cases h0 : n = 0
 ·refine uT (decide_eq_true h0) ?_
  subst h0
  rw [iroot_of (r := 0) l2 (by rw [Nat.zero_pow l2]; omega) (by simp), mag_zero]
  rfl
 refine uF (decide_eq_false h0) ?_
 refine uC _ (L_wm_length (bd_le l1 (by omega))) (uN (by omega) ?_)
 have hle := Nat.div_le_self (decN n).length q
 have hL : (decN n).length ≤ ((decN n).length / q + 1) * q := by
  have h3 := Nat.mod_add_div (decN n).length q
  have h4 := Nat.mod_lt (decN n).length (show 0 < q by omega)
  rw [Nat.add_mul, Nat.mul_comm ((decN n).length / q) q]
  omega
 have e1 : Int.tdiv ((decN n).length : Int) (q : Int) = (((decN n).length / q : Nat) : Int) := by rw [Int.tdiv_eq_ediv_of_nonneg (by omega)]; simp
 simp only [e1]
 generalize (decN n).length / q = L at hle hL
 have e2 : w64 (L : Int) = L := w64_id (by omega)
 have e3 : w64 ((L : Int) + 1) = ((L + 1 : Nat) : Int) := by rw [w64_id (by omega)]; omega
 refine uC (mag (10 ^ (L + 1)), ()) (by simp only [e2, e3]; exact L_w_tenfold (by omega)) ?_
 refine uO (mag (10 ^ (L + 1)), ()) rfl ?_
 obtain ⟨s1, s2⟩ := iroot_spec (k := q) n l2
 have hbx : Bd 2 (10 ^ (L + 1)) := by
  have : (mag (10 ^ (L + 1))).length ≤ 10000000 := by
   refine mag_le_of_decN ?_
   rw [decN_length_of (k := L + 1) (Nat.le_refl _) (Nat.pow_lt_pow_right (by omega) (by omega))]
   omega
  unfold Bd; omega
 have hstart : n < (10 ^ (L + 1)) ^ q := by
  rw [← Nat.pow_mul]
  have h1 := lt_pow_decN n
  have h3 : (10 : Nat) ^ (decN n).length ≤ 10 ^ ((L + 1) * q) := Nat.pow_le_pow_right (by omega) hL
  omega
 have hstart2 : iroot q n ≤ 10 ^ (L + 1) := by
  rcases Nat.lt_or_ge (10 ^ (L + 1)) (iroot q n) with h | h
  ·have := Nat.pow_le_pow_left (Nat.le_of_lt h) q; omega
  ·exact h
 have hr1 : 1 ≤ iroot q n := by
  rcases Nat.eq_zero_or_pos (iroot q n) with h | h
  ·rw [h] at s2; simp at s2; omega
  ·exact h
 generalize 10 ^ (L + 1) = X at *
 refine loopO_eq (fun i : List Int × Unit => ∃ x : Nat, i = (mag x, ()) ∧ iroot q n ≤ x ∧ x ≤ X) (fun i => (V 1000000000 i.1).toNat) (fun _ => (mag (iroot q n), ())) ?_ _ ⟨X, rfl, hstart2, Nat.le_refl _⟩
 rintro i ⟨x, rfl, g1, g2⟩
 have bx : Bd 2 x := bd_of_le hbx g2
 have ek : w64 ((q : Int) - 1) = ((q - 1 : Nat) : Int) := by rw [w64_id (x := (q : Int) - 1) (by omega)]; omega
 have ekk : wu64 ((q - 1 : Nat) : Int) = ((q - 1 : Nat) : Int) := wu64_id (by omega)
 have ek32 : wu32 (q : Int) = q := wu32_id (by omega)
 have hxp : 0 < x ^ (q - 1) := Nat.pow_pos (by omega)
 have bp := bd_pow bx (show q - 1 ≤ 40 by omega)
 have bsm : Bd 2 (q - 1) := bd_le (bd_small (by omega)) (by omega)
 have bsum : Bd 4 (x * (q - 1) + n / x ^ (q - 1)) := bd_add (bd_mul bx bsm) (bd_le (bd_div _ l1) (by omega))
 simp only [wm_root_R1, ek, ekk, ek32]
 have walk : ∀ r, (TT.ite (decide (cmpI (((x * (q - 1) + n / x ^ (q - 1)) / q : Nat)) (x : Nat) ≥ 0)) (TT.ok (Sum.inr (mag x, ())) : TT ((List Int × Unit) ⊕ (List Int × Unit))) (TT.ok (.inl (mag ((x * (q - 1) + n / x ^ (q - 1)) / q), ())))).toO = r → (wm_root_R1 (mag n) (q : Int) (decide (n = 0), ()) (((decN n).length : Int), ()) (mag X, ()) (mag x, ())).toO = r := by
  intro r hr
  simp only [wm_root_R1, ek, ekk, ek32]
  refine uC _ (L_wm_power bx (by omega)) ?_
  refine uC _ (L_wm_divide (bd_le l1 (by omega)) (bd_le bp (by omega)) (by omega)) ?_
  refine uC _ (L_w_fromSmall (by omega)) ?_
  refine uC _ (L_wm_times (bd_le bx (by omega)) (bd_le bsm (by omega))) ?_
  refine uC _ (L_wm_plus (bd_le (bd_mul bx bsm) (by omega)) (bd_le (bd_div _ l1) (by omega))) ?_
  refine uC _ (L_wm_short (d := q) (bd_le bsum (by omega)) (by omega) (by omega)) ?_
  refine uC _ (L_wm_compare (bd_le (bd_div _ bsum) (by omega)) (bd_le bx (by omega))) ?_
  exact hr
 simp only [wm_root_R1, ek, ekk, ek32] at walk
 generalize hY : (x * (q - 1) + n / x ^ (q - 1)) / q = Y at walk
 have hge : iroot q n ≤ Y := by rw [← hY]; exact newton_ge l2 (by omega) s1
 rcases Nat.lt_or_ge Y x with hc | hc
 ·left
  refine ⟨(mag Y, ()), walk _ (uF ?_ rfl), ⟨Y, rfl, hge, by omega⟩, ?_, (by first | exact True.intro | rfl)⟩
  ·unfold cmpI; rw [if_pos (by omega)]; rfl
  ·simp only [V_mag, Int.toNat_natCast]; exact hc
 ·right
  have hxm : x ^ q ≤ n := by
   rcases Nat.lt_or_ge n (x ^ q) with h | h
   ·have := newton_lt l2 (show 0 < x by omega) h
    omega
   ·exact h
  have hxr : x = iroot q n := by
   rcases Nat.lt_or_ge (iroot q n) x with h | h
   ·have := Nat.pow_le_pow_left (show iroot q n + 1 ≤ x from h) q; omega
   ·omega
  refine walk _ (uT ?_ ?_)
  ·unfold cmpI
   rw [if_neg (by omega)]
   split <;> rfl
  ·rw [← hxr]; rfl
theorem L_wm_root {n k : Nat} (h1 : Bd 0 n) (h2 : 1 ≤ k) (h3 : k ≤ 12) : S_wm_root (mag n, (k : Int), ()) = some (mag (iroot k n), ()) := by
 refine spec_at (enc := fun x : Nat × Nat => (mag x.1, (x.2 : Int), ())) (n, k) ⟨h1, h2, h3⟩ (fun b hb => ?_)
 obtain ⟨e1, e2⟩ := Prod.mk.inj hb
 obtain ⟨e2, -⟩ := Prod.mk.inj e2
 exact Prod.ext (mag_inj e1) (Int.ofNat.inj e2)
theorem iroot_le {k n : Nat} (hk : 1 ≤ k) : iroot k n ≤ n := Nat.le_trans (Nat.le_self_pow (by omega) _) (iroot_spec n hk).1
theorem w_Root_law (a : List UInt8) (k : Int) (y) (h : S_w_Root (a, k, ()) = some y) : (w_Root_t a k).toO = some y := by
 unfold S_w_Root at h
 dsimp only at h
 unfold w_Root_t
 cases hr : rdW a with
 | none =>
  simp only [hr] at h
  exact uC _ (L_w_read_none hr) (uT rfl h)
 | some z =>
  simp only [hr] at h
  have b1 := rdW_bd hr
  refine uC _ (L_w_read_some hr) (uF rfl ?_)
  by_cases h1 : k < 1
  ·rw [if_pos (Or.inl h1)] at h
   exact uT (decide_eq_true h1) h
  by_cases h2 : k > 12
  ·rw [if_pos (Or.inr (Or.inl h2))] at h
   exact uF (decide_eq_false h1) (uT (decide_eq_true h2) h)
  by_cases h3 : z < 0
  ·rw [if_pos (Or.inr (Or.inr h3))] at h
   exact uF (decide_eq_false h1) (uF (decide_eq_false h2) (uT (decide_eq_true h3) h))
  rw [if_neg (by omega)] at h
  obtain ⟨j, rfl⟩ := Int.eq_ofNat_of_zero_le (show 0 ≤ k by omega)
  rw [Int.toNat_natCast] at h
  refine uF (decide_eq_false h1) (uF (decide_eq_false h2) (uF (decide_eq_false h3) ?_))
  refine uC _ (L_wm_root b1 (by omega) (by omega)) ?_
  refine uC (sg (iroot j z.natAbs : Int), ()) (L_w_of rfl (Or.inr (decide_eq_false (by omega)).symm)) ?_
  exact uC _ (L_w_write (bd_le (bd_of_le b1 (iroot_le (by omega))) (by omega))) h
end Go.Vs
