/-
  Trees of what the functions compute, and their laws. Own work; no condition.
-/
import Derived.Test.YtakjojajnblpoaaGreatDoorClL1
import Derived.Test.YtakjojajnblpoaaGreatDoorProg
set_option linter.unusedVariables false
set_option linter.unusedSimpArgs false
namespace Go.Vs
open Go Go.Vg
theorem aEy {q : Rat} (h : adE q) : wrF q = (fx q, 0, ()) := if_pos h
theorem aAA {q : Rat} (h : ¬ adE q) : wrF q = (([], [], ()), 6, ()) := if_neg h
theorem aiF {z : Int} (h : Fit z) : wrW z = (dec z, 0, ()) := if_pos h
theorem aqP {z : Int} (h : ¬ Fit z) : wrW z = ([], 6, ()) := if_neg h
theorem aqJ {z : Int} (h : Bd 8 z.natAbs) : acU (sg z, ()) = some (wrW z) := aaI (enc := fun x : Int => (sg x, ())) z h (fun b hb => aoQ (Prod.mk.inj hb).1)
theorem aEC (s : SgT) (y) (h : acU (s, ()) = some y) : (auK s).toO = some y := by
 obtain ⟨a, hp, hx, rfl⟩ := aaD h
 obtain ⟨rfl, -⟩ := Prod.mk.inj hx
 unfold auK
 dsimp only
 refine uC _ (axO hp) ?_
 by_cases hf : Fit a
 ·have hf' : (aa2 a.natAbs).length ≤ 600 := hf
  rw [aiF hf]
  refine uF (by simp; omega) ?_
  have hb : Bd 0 a.natAbs := apW hf
  by_cases h0 : a < 0
  ·refine uT (by simp; omega) (uC _ (axQ hb) (uN ?_ ?_))
   ·show 1 + (aa2 a.natAbs).length ≤ lim
    unfold lim; omega
   ·rw [ahH h0]; rfl
  ·refine uF (by simp; omega) (uC _ (axQ hb) ?_)
   rw [acB (by omega)]; rfl
 ·have hf' : ¬ (aa2 a.natAbs).length ≤ 600 := hf
  rw [aqP hf]
  exact uT (by simp; omega) rfl
theorem ajP {q : Rat} (h : BdQ 8 q) : aeU (rt q, ()) = some (wrF q) := aaI (enc := fun x : Rat => (rt x, ())) q h (fun b hb => ay5 (Prod.mk.inj hb).1)
theorem aDy (x : RtT) (y) (h : aeU (x, ()) = some y) : (arN x).toO = some y := by
 obtain ⟨q, hp, hx, rfl⟩ := aaD h
 obtain ⟨rfl, -⟩ := Prod.mk.inj hx
 obtain ⟨h1, h2⟩ := hp
 unfold arN
 dsimp only
 refine uC _ (axW h1) ?_
 by_cases hf : Fit q.num
 ·have hf' : (aa2 q.num.natAbs).length ≤ 600 := hf
  refine uF (by simp; omega) ?_
  refine uC _ (axW h2) ?_
  by_cases hg : Fit q.den
  ·have hg' : (aa2 q.den).length ≤ 600 := hg
   rw [aEy ⟨hf, hg⟩]
   refine uF (by simp; omega) ?_
   exact uC _ (axX (apW hf)) (uC _ (aoH (apW hg)) rfl)
  ·have hg' : ¬ (aa2 q.den).length ≤ 600 := hg
   rw [aAA (fun h => hg h.2)]
   exact uT (by simp; omega) rfl
 ·have hf' : ¬ (aa2 q.num.natAbs).length ≤ 600 := hf
  rw [aAA (fun h => hf h.1)]
  exact uT (by simp; omega) rfl
theorem ajR {g : Nat} {t n : Int} (h : n = g * t) (g0 : g ≠ 0) : (n < 0 ↔ t < 0) ∧ (n = 0 ↔ t = 0) := by
 subst h
 rcases Int.lt_trichotomy t 0 with h | h | h
 ·have := Int.mul_neg_of_pos_of_neg (show (0 : Int) < g by omega) h
  omega
 ·subst h; simp
 ·have := Int.mul_pos (show (0 : Int) < g by omega) h
  omega
theorem acS {g : Nat} {t n : Int} (h : n = g * t) (g0 : g ≠ 0) : n.natAbs / g = t.natAbs := by
 rw [h, Int.natAbs_mul, Int.natAbs_natCast, Nat.mul_div_cancel_left _ (by omega)]
theorem aGw {n : Int} {d : Nat} (h1 : Bd 7 n.natAbs) (h2 : Bd 7 d) (h3 : d ≠ 0) : akM (sg n, mag d, ()) = some (rt (mkRat n d), ()) := aaI (enc := fun x : Int × Nat => (sg x.1, mag x.2, ())) (n, d) ⟨h1, h2, h3⟩ (fun b hb => aES hb)
theorem aBw (n : SgT) (d : List Int) (y) (h : akM (n, d, ()) = some y) : (an3 n d).toO = some y := by
 obtain ⟨⟨a, b⟩, hp, hx, rfl⟩ := aaD h
 obtain ⟨rfl, hx2⟩ := Prod.mk.inj hx; obtain ⟨rfl, -⟩ := Prod.mk.inj hx2; dsimp only
 obtain ⟨l1, l2, l3⟩ := hp
 simp only at l1 l2 l3
 obtain ⟨g, t, hg, g0, hn, e1, e2⟩ := aeK a l3
 have hs := ajR hn g0
 have ha := acS hn g0
 unfold an3
 dsimp only
 have bg : Bd 7 g := by rw [hg]; repeat (first | assumption | exact aaH (by assumption) (by omega) | exact aaG (by omega) | refine aaY ?_ ?_ | refine aaS _ ?_ | refine aa1 _ ?_ | refine aaE ?_ ?_ | refine aaB ?_ ?_ | refine aaV ?_ | refine aaW ?_ ?_ | refine aaZ ?_ ?_ | refine aaP ?_)
 refine uC (mag g, ()) (by rw [am3 (by repeat (first | assumption | exact aaH (by assumption) (by omega) | exact aaG (by omega) | refine aaY ?_ ?_ | refine aaS _ ?_ | refine aa1 _ ?_ | refine aaE ?_ ?_ | refine aaB ?_ ?_ | refine aaV ?_ | refine aaW ?_ ?_ | refine aaZ ?_ ?_ | refine aaP ?_)) (by repeat (first | assumption | exact aaH (by assumption) (by omega) | exact aaG (by omega) | refine aaY ?_ ?_ | refine aaS _ ?_ | refine aa1 _ ?_ | refine aaE ?_ ?_ | refine aaB ?_ ?_ | refine aaV ?_ | refine aaW ?_ ?_ | refine aaZ ?_ ?_ | refine aaP ?_)), hg]) ?_
 refine uC _ (ab3 (by repeat (first | assumption | exact aaH (by assumption) (by omega) | exact aaG (by omega) | refine aaY ?_ ?_ | refine aaS _ ?_ | refine aa1 _ ?_ | refine aaE ?_ ?_ | refine aaB ?_ ?_ | refine aaV ?_ | refine aaW ?_ ?_ | refine aaZ ?_ ?_ | refine aaP ?_)) (by repeat (first | assumption | exact aaH (by assumption) (by omega) | exact aaG (by omega) | refine aaY ?_ ?_ | refine aaS _ ?_ | refine aa1 _ ?_ | refine aaE ?_ ?_ | refine aaB ?_ ?_ | refine aaV ?_ | refine aaW ?_ ?_ | refine aaZ ?_ ?_ | refine aaP ?_)) g0) ?_
 refine uC _ (ab3 (by repeat (first | assumption | exact aaH (by assumption) (by omega) | exact aaG (by omega) | refine aaY ?_ ?_ | refine aaS _ ?_ | refine aa1 _ ?_ | refine aaE ?_ ?_ | refine aaB ?_ ?_ | refine aaV ?_ | refine aaW ?_ ?_ | refine aaZ ?_ ?_ | refine aaP ?_)) (by repeat (first | assumption | exact aaH (by assumption) (by omega) | exact aaG (by omega) | refine aaY ?_ ?_ | refine aaS _ ?_ | refine aa1 _ ?_ | refine aaE ?_ ?_ | refine aaB ?_ ?_ | refine aaV ?_ | refine aaW ?_ ?_ | refine aaZ ?_ ?_ | refine aaP ?_)) g0) ?_
 refine uC (sg t, ()) (abT ha (Or.inr (decide_eq_decide.2 hs.1))) ?_
 show some (((sg t), mag (b / g), ()), ()) = some (rt (mkRat a b), ())
 unfold rt
 rw [e1, e2]
theorem aEo {q : Rat} (h : BdQ 7 q) : ah8 (rt q, ()) = some (rt (-q), ()) := aaI (enc := fun x : Rat => (rt x, ())) q h (fun b hb => ay5 (Prod.mk.inj hb).1)
theorem ayJ (x : RtT) (y) (h : ah8 (x, ()) = some y) : (as2 x).toO = some y := by
 obtain ⟨q, hp, hx, rfl⟩ := aaD h
 obtain ⟨rfl, -⟩ := Prod.mk.inj hx
 exact uC _ (aqM (aaH hp.1 (by omega))) rfl
theorem aEp {q : Rat} (h : BdQ 7 q) (h0 : q ≠ 0) : ah9 (rt q, ()) = some (rt q⁻¹, ()) := aaI (enc := fun x : Rat => (rt x, ())) q ⟨h, h0⟩ (fun b hb => ay5 (Prod.mk.inj hb).1)
theorem aPp {q : Rat} (h : q ≠ 0) : q.num ≠ 0 := fun h2 => h (Rat.num_eq_zero.1 h2)
theorem aDs {q : Rat} (h : q ≠ 0) : (q⁻¹).num.natAbs = q.den ∧ ((q⁻¹).num < 0 ↔ q.num < 0) ∧ (q⁻¹).den = q.num.natAbs := by
 have h1 := aPp h
 have h2 := q.den_pos
 rw [Rat.num_inv, Rat.den_inv, if_neg h1]
 rcases Int.lt_or_le q.num 0 with h3 | h3
 ·rw [Int.sign_eq_neg_one_of_neg h3]; omega
 ·rw [Int.sign_eq_one_of_pos (by omega)]; omega
theorem ayK (x : RtT) (y) (h : ah9 (x, ()) = some y) : (as3 x).toO = some y := by
 obtain ⟨q, hp, hx, rfl⟩ := aaD h
 obtain ⟨rfl, -⟩ := Prod.mk.inj hx
 obtain ⟨e1, e2, e3⟩ := aDs hp.2
 refine uC (sg (q⁻¹).num, ()) (abT e1.symm (Or.inr (decide_eq_decide.2 e2.symm))) ?_
 show some ((sg (q⁻¹).num, mag q.num.natAbs, ()), ()) = some (rt q⁻¹, ())
 unfold rt
 rw [e3]
theorem aHD {p q : Rat} (h : BdQ 3 p) (h2 : BdQ 3 q) : aqD (rt p, rt q, ()) = some (rt (p + q), ()) := aaI (enc := fun x : Rat × Rat => (rt x.1, rt x.2, ())) (p, q) ⟨h, h2⟩ (fun b hb => at4 hb)
theorem aIU (x x' : RtT) (y) (h : aqD (x, x', ()) = some y) : (aBp x x').toO = some y := by
 obtain ⟨⟨p, q⟩, hp, hx, rfl⟩ := aaD h
 obtain ⟨rfl, hx2⟩ := Prod.mk.inj hx; obtain ⟨rfl, -⟩ := Prod.mk.inj hx2; dsimp only
 obtain ⟨⟨p1, p2⟩, q1, q2⟩ := hp
 simp only at p1 p2 q1 q2
 obtain ⟨g, h', top, t, hg, ht, hh, g0, h0, htt, e1, e2⟩ := aEh p q
 have hs := ajR htt h0
 have ha := acS htt h0
 have bg : Bd 3 g := by rw [hg]; repeat (first | assumption | exact aaH (by assumption) (by omega) | exact aaG (by omega) | refine aaY ?_ ?_ | refine aaS _ ?_ | refine aa1 _ ?_ | refine aaE ?_ ?_ | refine aaB ?_ ?_ | refine aaV ?_ | refine aaW ?_ ?_ | refine aaZ ?_ ?_ | refine aaP ?_)
 have bt : Bd 5 top.natAbs := by
  rw [ht]
  refine aaE (aaB ?_ (aaP ?_)) (aaB ?_ (aaP ?_)) <;> repeat (first | assumption | exact aaH (by assumption) (by omega) | exact aaG (by omega) | refine aaY ?_ ?_ | refine aaS _ ?_ | refine aa1 _ ?_ | refine aaE ?_ ?_ | refine aaB ?_ ?_ | refine aaV ?_ | refine aaW ?_ ?_ | refine aaZ ?_ ?_ | refine aaP ?_)
 have bh : Bd 5 h' := by rw [hh]; repeat (first | assumption | exact aaH (by assumption) (by omega) | exact aaG (by omega) | refine aaY ?_ ?_ | refine aaS _ ?_ | refine aa1 _ ?_ | refine aaE ?_ ?_ | refine aaB ?_ ?_ | refine aaV ?_ | refine aaW ?_ ?_ | refine aaZ ?_ ?_ | refine aaP ?_)
 unfold aBp
 dsimp only
 refine uC (mag g, ()) (by rw [am3 (by repeat (first | assumption | exact aaH (by assumption) (by omega) | exact aaG (by omega) | refine aaY ?_ ?_ | refine aaS _ ?_ | refine aa1 _ ?_ | refine aaE ?_ ?_ | refine aaB ?_ ?_ | refine aaV ?_ | refine aaW ?_ ?_ | refine aaZ ?_ ?_ | refine aaP ?_)) (by repeat (first | assumption | exact aaH (by assumption) (by omega) | exact aaG (by omega) | refine aaY ?_ ?_ | refine aaS _ ?_ | refine aa1 _ ?_ | refine aaE ?_ ?_ | refine aaB ?_ ?_ | refine aaV ?_ | refine aaW ?_ ?_ | refine aaZ ?_ ?_ | refine aaP ?_)), hg]) ?_
 refine uC _ (ab3 (by repeat (first | assumption | exact aaH (by assumption) (by omega) | exact aaG (by omega) | refine aaY ?_ ?_ | refine aaS _ ?_ | refine aa1 _ ?_ | refine aaE ?_ ?_ | refine aaB ?_ ?_ | refine aaV ?_ | refine aaW ?_ ?_ | refine aaZ ?_ ?_ | refine aaP ?_)) (by repeat (first | assumption | exact aaH (by assumption) (by omega) | exact aaG (by omega) | refine aaY ?_ ?_ | refine aaS _ ?_ | refine aa1 _ ?_ | refine aaE ?_ ?_ | refine aaB ?_ ?_ | refine aaV ?_ | refine aaW ?_ ?_ | refine aaZ ?_ ?_ | refine aaP ?_)) g0) ?_
 refine uC _ (ab3 (by repeat (first | assumption | exact aaH (by assumption) (by omega) | exact aaG (by omega) | refine aaY ?_ ?_ | refine aaS _ ?_ | refine aa1 _ ?_ | refine aaE ?_ ?_ | refine aaB ?_ ?_ | refine aaV ?_ | refine aaW ?_ ?_ | refine aaZ ?_ ?_ | refine aaP ?_)) (by repeat (first | assumption | exact aaH (by assumption) (by omega) | exact aaG (by omega) | refine aaY ?_ ?_ | refine aaS _ ?_ | refine aa1 _ ?_ | refine aaE ?_ ?_ | refine aaB ?_ ?_ | refine aaV ?_ | refine aaW ?_ ?_ | refine aaZ ?_ ?_ | refine aaP ?_)) g0) ?_
 refine uC _ (ahR (by repeat (first | assumption | exact aaH (by assumption) (by omega) | exact aaG (by omega) | refine aaY ?_ ?_ | refine aaS _ ?_ | refine aa1 _ ?_ | refine aaE ?_ ?_ | refine aaB ?_ ?_ | refine aaV ?_ | refine aaW ?_ ?_ | refine aaZ ?_ ?_ | refine aaP ?_)) (by repeat (first | assumption | exact aaH (by assumption) (by omega) | exact aaG (by omega) | refine aaY ?_ ?_ | refine aaS _ ?_ | refine aa1 _ ?_ | refine aaE ?_ ?_ | refine aaB ?_ ?_ | refine aaV ?_ | refine aaW ?_ ?_ | refine aaZ ?_ ?_ | refine aaP ?_))) ?_
 refine uC _ (ahR (by repeat (first | assumption | exact aaH (by assumption) (by omega) | exact aaG (by omega) | refine aaY ?_ ?_ | refine aaS _ ?_ | refine aa1 _ ?_ | refine aaE ?_ ?_ | refine aaB ?_ ?_ | refine aaV ?_ | refine aaW ?_ ?_ | refine aaZ ?_ ?_ | refine aaP ?_)) (by repeat (first | assumption | exact aaH (by assumption) (by omega) | exact aaG (by omega) | refine aaY ?_ ?_ | refine aaS _ ?_ | refine aa1 _ ?_ | refine aaE ?_ ?_ | refine aaB ?_ ?_ | refine aaV ?_ | refine aaW ?_ ?_ | refine aaZ ?_ ?_ | refine aaP ?_))) ?_
 refine uC (sg top, ()) (by rw [aCa (by repeat (first | assumption | exact aaH (by assumption) (by omega) | exact aaG (by omega) | refine aaY ?_ ?_ | refine aaS _ ?_ | refine aa1 _ ?_ | refine aaE ?_ ?_ | refine aaB ?_ ?_ | refine aaV ?_ | refine aaW ?_ ?_ | refine aaZ ?_ ?_ | refine aaP ?_)) (by repeat (first | assumption | exact aaH (by assumption) (by omega) | exact aaG (by omega) | refine aaY ?_ ?_ | refine aaS _ ?_ | refine aa1 _ ?_ | refine aaE ?_ ?_ | refine aaB ?_ ?_ | refine aaV ?_ | refine aaW ?_ ?_ | refine aaZ ?_ ?_ | refine aaP ?_)), ht]) ?_
 refine uC (mag h', ()) (by rw [am3 (by repeat (first | assumption | exact aaH (by assumption) (by omega) | exact aaG (by omega) | refine aaY ?_ ?_ | refine aaS _ ?_ | refine aa1 _ ?_ | refine aaE ?_ ?_ | refine aaB ?_ ?_ | refine aaV ?_ | refine aaW ?_ ?_ | refine aaZ ?_ ?_ | refine aaP ?_)) (by repeat (first | assumption | exact aaH (by assumption) (by omega) | exact aaG (by omega) | refine aaY ?_ ?_ | refine aaS _ ?_ | refine aa1 _ ?_ | refine aaE ?_ ?_ | refine aaB ?_ ?_ | refine aaV ?_ | refine aaW ?_ ?_ | refine aaZ ?_ ?_ | refine aaP ?_)), hh]) ?_
 refine uC _ (ab3 (by repeat (first | assumption | exact aaH (by assumption) (by omega) | exact aaG (by omega) | refine aaY ?_ ?_ | refine aaS _ ?_ | refine aa1 _ ?_ | refine aaE ?_ ?_ | refine aaB ?_ ?_ | refine aaV ?_ | refine aaW ?_ ?_ | refine aaZ ?_ ?_ | refine aaP ?_)) (by repeat (first | assumption | exact aaH (by assumption) (by omega) | exact aaG (by omega) | refine aaY ?_ ?_ | refine aaS _ ?_ | refine aa1 _ ?_ | refine aaE ?_ ?_ | refine aaB ?_ ?_ | refine aaV ?_ | refine aaW ?_ ?_ | refine aaZ ?_ ?_ | refine aaP ?_)) h0) ?_
 refine uC _ (ab3 (by repeat (first | assumption | exact aaH (by assumption) (by omega) | exact aaG (by omega) | refine aaY ?_ ?_ | refine aaS _ ?_ | refine aa1 _ ?_ | refine aaE ?_ ?_ | refine aaB ?_ ?_ | refine aaV ?_ | refine aaW ?_ ?_ | refine aaZ ?_ ?_ | refine aaP ?_)) (by repeat (first | assumption | exact aaH (by assumption) (by omega) | exact aaG (by omega) | refine aaY ?_ ?_ | refine aaS _ ?_ | refine aa1 _ ?_ | refine aaE ?_ ?_ | refine aaB ?_ ?_ | refine aaV ?_ | refine aaW ?_ ?_ | refine aaZ ?_ ?_ | refine aaP ?_)) h0) ?_
 refine uC (sg t, ()) (abT ha (Or.inr (decide_eq_decide.2 hs.1))) ?_
 refine uC _ (ag0 (by repeat (first | assumption | exact aaH (by assumption) (by omega) | exact aaG (by omega) | refine aaY ?_ ?_ | refine aaS _ ?_ | refine aa1 _ ?_ | refine aaE ?_ ?_ | refine aaB ?_ ?_ | refine aaV ?_ | refine aaW ?_ ?_ | refine aaZ ?_ ?_ | refine aaP ?_)) (by repeat (first | assumption | exact aaH (by assumption) (by omega) | exact aaG (by omega) | refine aaY ?_ ?_ | refine aaS _ ?_ | refine aa1 _ ?_ | refine aaE ?_ ?_ | refine aaB ?_ ?_ | refine aaV ?_ | refine aaW ?_ ?_ | refine aaZ ?_ ?_ | refine aaP ?_))) ?_
 show some ((sg t, mag (p.den / g * (q.den / h')), ()), ()) = some (rt (p + q), ())
 unfold rt
 rw [e1, e2]
theorem aO9 {p q : Rat} (h : BdQ 3 p) (h2 : BdQ 3 q) : auH (rt p, rt q, ()) = some (rt (p - q), ()) := aaI (enc := fun x : Rat × Rat => (rt x.1, rt x.2, ())) (p, q) ⟨h, h2⟩ (fun b hb => at4 hb)
theorem aIR (x x' : RtT) (y) (h : auH (x, x', ()) = some y) : (aHd x x').toO = some y := by
 obtain ⟨⟨p, q⟩, hp, hx, rfl⟩ := aaD h
 obtain ⟨rfl, hx2⟩ := Prod.mk.inj hx; obtain ⟨rfl, -⟩ := Prod.mk.inj hx2; dsimp only
 obtain ⟨bp, bq⟩ := hp
 refine uC _ (aEo ⟨aaH bq.1 (by omega), aaH bq.2 (by omega)⟩) ?_
 refine uC _ (aHD bp ⟨aaV bq.1, bq.2⟩) ?_
 rw [Rat.sub_eq_add_neg]; rfl
theorem aHC {p q : Rat} (h : BdQ 3 p) (h2 : BdQ 3 q) : aqC (rt p, rt q, ()) = some (rt (p * q), ()) := aaI (enc := fun x : Rat × Rat => (rt x.1, rt x.2, ())) (p, q) ⟨h, h2⟩ (fun b hb => at4 hb)
theorem aIT (x x' : RtT) (y) (h : aqC (x, x', ()) = some y) : (aBo x x').toO = some y := by
 obtain ⟨⟨p, q⟩, hp, hx, rfl⟩ := aaD h
 obtain ⟨rfl, hx2⟩ := Prod.mk.inj hx; obtain ⟨rfl, -⟩ := Prod.mk.inj hx2; dsimp only
 obtain ⟨⟨p1, p2⟩, q1, q2⟩ := hp
 simp only at p1 p2 q1 q2
 obtain ⟨g, h', s, t, hg, hh, g0, h0, hs, ht, e1, e2⟩ := aDk p q
 have as1 := acS hs g0
 have at' := acS ht h0
 have ss := ajR hs g0
 have st := ajR ht h0
 have bg : Bd 3 g := by rw [hg]; repeat (first | assumption | exact aaH (by assumption) (by omega) | exact aaG (by omega) | refine aaY ?_ ?_ | refine aaS _ ?_ | refine aa1 _ ?_ | refine aaE ?_ ?_ | refine aaB ?_ ?_ | refine aaV ?_ | refine aaW ?_ ?_ | refine aaZ ?_ ?_ | refine aaP ?_)
 have bh : Bd 3 h' := by rw [hh]; repeat (first | assumption | exact aaH (by assumption) (by omega) | exact aaG (by omega) | refine aaY ?_ ?_ | refine aaS _ ?_ | refine aa1 _ ?_ | refine aaE ?_ ?_ | refine aaB ?_ ?_ | refine aaV ?_ | refine aaW ?_ ?_ | refine aaZ ?_ ?_ | refine aaP ?_)
 unfold aBo
 dsimp only
 refine uC (mag g, ()) (by rw [am3 (by repeat (first | assumption | exact aaH (by assumption) (by omega) | exact aaG (by omega) | refine aaY ?_ ?_ | refine aaS _ ?_ | refine aa1 _ ?_ | refine aaE ?_ ?_ | refine aaB ?_ ?_ | refine aaV ?_ | refine aaW ?_ ?_ | refine aaZ ?_ ?_ | refine aaP ?_)) (by repeat (first | assumption | exact aaH (by assumption) (by omega) | exact aaG (by omega) | refine aaY ?_ ?_ | refine aaS _ ?_ | refine aa1 _ ?_ | refine aaE ?_ ?_ | refine aaB ?_ ?_ | refine aaV ?_ | refine aaW ?_ ?_ | refine aaZ ?_ ?_ | refine aaP ?_)), hg]) ?_
 refine uC (mag h', ()) (by rw [am3 (by repeat (first | assumption | exact aaH (by assumption) (by omega) | exact aaG (by omega) | refine aaY ?_ ?_ | refine aaS _ ?_ | refine aa1 _ ?_ | refine aaE ?_ ?_ | refine aaB ?_ ?_ | refine aaV ?_ | refine aaW ?_ ?_ | refine aaZ ?_ ?_ | refine aaP ?_)) (by repeat (first | assumption | exact aaH (by assumption) (by omega) | exact aaG (by omega) | refine aaY ?_ ?_ | refine aaS _ ?_ | refine aa1 _ ?_ | refine aaE ?_ ?_ | refine aaB ?_ ?_ | refine aaV ?_ | refine aaW ?_ ?_ | refine aaZ ?_ ?_ | refine aaP ?_)), hh]) ?_
 refine uC _ (ab3 (by repeat (first | assumption | exact aaH (by assumption) (by omega) | exact aaG (by omega) | refine aaY ?_ ?_ | refine aaS _ ?_ | refine aa1 _ ?_ | refine aaE ?_ ?_ | refine aaB ?_ ?_ | refine aaV ?_ | refine aaW ?_ ?_ | refine aaZ ?_ ?_ | refine aaP ?_)) (by repeat (first | assumption | exact aaH (by assumption) (by omega) | exact aaG (by omega) | refine aaY ?_ ?_ | refine aaS _ ?_ | refine aa1 _ ?_ | refine aaE ?_ ?_ | refine aaB ?_ ?_ | refine aaV ?_ | refine aaW ?_ ?_ | refine aaZ ?_ ?_ | refine aaP ?_)) g0) ?_
 refine uC _ (ab3 (by repeat (first | assumption | exact aaH (by assumption) (by omega) | exact aaG (by omega) | refine aaY ?_ ?_ | refine aaS _ ?_ | refine aa1 _ ?_ | refine aaE ?_ ?_ | refine aaB ?_ ?_ | refine aaV ?_ | refine aaW ?_ ?_ | refine aaZ ?_ ?_ | refine aaP ?_)) (by repeat (first | assumption | exact aaH (by assumption) (by omega) | exact aaG (by omega) | refine aaY ?_ ?_ | refine aaS _ ?_ | refine aa1 _ ?_ | refine aaE ?_ ?_ | refine aaB ?_ ?_ | refine aaV ?_ | refine aaW ?_ ?_ | refine aaZ ?_ ?_ | refine aaP ?_)) h0) ?_
 refine uC _ (ab3 (by repeat (first | assumption | exact aaH (by assumption) (by omega) | exact aaG (by omega) | refine aaY ?_ ?_ | refine aaS _ ?_ | refine aa1 _ ?_ | refine aaE ?_ ?_ | refine aaB ?_ ?_ | refine aaV ?_ | refine aaW ?_ ?_ | refine aaZ ?_ ?_ | refine aaP ?_)) (by repeat (first | assumption | exact aaH (by assumption) (by omega) | exact aaG (by omega) | refine aaY ?_ ?_ | refine aaS _ ?_ | refine aa1 _ ?_ | refine aaE ?_ ?_ | refine aaB ?_ ?_ | refine aaV ?_ | refine aaW ?_ ?_ | refine aaZ ?_ ?_ | refine aaP ?_)) h0) ?_
 refine uC _ (ab3 (by repeat (first | assumption | exact aaH (by assumption) (by omega) | exact aaG (by omega) | refine aaY ?_ ?_ | refine aaS _ ?_ | refine aa1 _ ?_ | refine aaE ?_ ?_ | refine aaB ?_ ?_ | refine aaV ?_ | refine aaW ?_ ?_ | refine aaZ ?_ ?_ | refine aaP ?_)) (by repeat (first | assumption | exact aaH (by assumption) (by omega) | exact aaG (by omega) | refine aaY ?_ ?_ | refine aaS _ ?_ | refine aa1 _ ?_ | refine aaE ?_ ?_ | refine aaB ?_ ?_ | refine aaV ?_ | refine aaW ?_ ?_ | refine aaZ ?_ ?_ | refine aaP ?_)) g0) ?_
 refine uC _ (ag0 (by repeat (first | assumption | exact aaH (by assumption) (by omega) | exact aaG (by omega) | refine aaY ?_ ?_ | refine aaS _ ?_ | refine aa1 _ ?_ | refine aaE ?_ ?_ | refine aaB ?_ ?_ | refine aaV ?_ | refine aaW ?_ ?_ | refine aaZ ?_ ?_ | refine aaP ?_)) (by repeat (first | assumption | exact aaH (by assumption) (by omega) | exact aaG (by omega) | refine aaY ?_ ?_ | refine aaS _ ?_ | refine aa1 _ ?_ | refine aaE ?_ ?_ | refine aaB ?_ ?_ | refine aaV ?_ | refine aaW ?_ ?_ | refine aaZ ?_ ?_ | refine aaP ?_))) ?_
 refine uC (sg (s * t), ()) (abT (n := p.num.natAbs / g * (q.num.natAbs / h')) (by rw [as1, at', Int.natAbs_mul]) ?_) ?_
 ·by_cases hz : s * t = 0
  ·exact Or.inl hz
  ·right
   show (!(decide (p.num < 0) == decide (q.num < 0))) = decide (s * t < 0)
   have z1 : s ≠ 0 := fun h => hz (by rw [h]; simp)
   have z2 : t ≠ 0 := fun h => hz (by rw [h]; simp)
   rcases Int.lt_or_le s 0 with c1 | c1 <;> rcases Int.lt_or_le t 0 with c2 | c2
   ·have := Int.mul_pos_of_neg_of_neg c1 c2
    rw [decide_eq_true (ss.1.2 c1), decide_eq_true (st.1.2 c2), decide_eq_false (by omega)]; rfl
   ·have := Int.mul_neg_of_neg_of_pos c1 (show 0 < t by omega)
    rw [decide_eq_true (ss.1.2 c1), decide_eq_false (by omega), decide_eq_true (by omega)]; rfl
   ·have := Int.mul_neg_of_pos_of_neg (show 0 < s by omega) c2
    rw [decide_eq_false (by omega), decide_eq_true (st.1.2 c2), decide_eq_true (by omega)]; rfl
   ·have := Int.mul_pos (show 0 < s by omega) (show 0 < t by omega)
    rw [decide_eq_false (by omega), decide_eq_false (by omega), decide_eq_false (by omega)]; rfl
 refine uC _ (ag0 (by repeat (first | assumption | exact aaH (by assumption) (by omega) | exact aaG (by omega) | refine aaY ?_ ?_ | refine aaS _ ?_ | refine aa1 _ ?_ | refine aaE ?_ ?_ | refine aaB ?_ ?_ | refine aaV ?_ | refine aaW ?_ ?_ | refine aaZ ?_ ?_ | refine aaP ?_)) (by repeat (first | assumption | exact aaH (by assumption) (by omega) | exact aaG (by omega) | refine aaY ?_ ?_ | refine aaS _ ?_ | refine aa1 _ ?_ | refine aaE ?_ ?_ | refine aaB ?_ ?_ | refine aaV ?_ | refine aaW ?_ ?_ | refine aaZ ?_ ?_ | refine aaP ?_))) ?_
 show some ((sg (s * t), mag (p.den / h' * (q.den / g)), ()), ()) = some (rt (p * q), ())
 unfold rt
 rw [e1, e2]
theorem aJR {p q : Rat} (h : BdQ 3 p) (h2 : BdQ 3 q) : amY (rt p, rt q, ()) = some (aoK p q, ()) := aaI (enc := fun x : Rat × Rat => (rt x.1, rt x.2, ())) (p, q) ⟨h, h2⟩ (fun b hb => at4 hb)
theorem aDz (x x' : RtT) (y) (h : amY (x, x', ()) = some y) : (arO x x').toO = some y := by
 obtain ⟨⟨p, q⟩, hp, hx, rfl⟩ := aaD h
 obtain ⟨rfl, hx2⟩ := Prod.mk.inj hx; obtain ⟨rfl, -⟩ := Prod.mk.inj hx2; dsimp only
 obtain ⟨⟨p1, p2⟩, q1, q2⟩ := hp
 simp only at p1 p2 q1 q2
 unfold arO
 dsimp only
 refine uC _ (ahR (by repeat (first | assumption | exact aaH (by assumption) (by omega) | exact aaG (by omega) | refine aaY ?_ ?_ | refine aaS _ ?_ | refine aa1 _ ?_ | refine aaE ?_ ?_ | refine aaB ?_ ?_ | refine aaV ?_ | refine aaW ?_ ?_ | refine aaZ ?_ ?_ | refine aaP ?_)) (by repeat (first | assumption | exact aaH (by assumption) (by omega) | exact aaG (by omega) | refine aaY ?_ ?_ | refine aaS _ ?_ | refine aa1 _ ?_ | refine aaE ?_ ?_ | refine aaB ?_ ?_ | refine aaV ?_ | refine aaW ?_ ?_ | refine aaZ ?_ ?_ | refine aaP ?_))) ?_
 refine uC _ (ahR (by repeat (first | assumption | exact aaH (by assumption) (by omega) | exact aaG (by omega) | refine aaY ?_ ?_ | refine aaS _ ?_ | refine aa1 _ ?_ | refine aaE ?_ ?_ | refine aaB ?_ ?_ | refine aaV ?_ | refine aaW ?_ ?_ | refine aaZ ?_ ?_ | refine aaP ?_)) (by repeat (first | assumption | exact aaH (by assumption) (by omega) | exact aaG (by omega) | refine aaY ?_ ?_ | refine aaS _ ?_ | refine aa1 _ ?_ | refine aaE ?_ ?_ | refine aaB ?_ ?_ | refine aaV ?_ | refine aaW ?_ ?_ | refine aaZ ?_ ?_ | refine aaP ?_))) ?_
 refine uC _ (aqM (aaH (aaB q1 (aaP p2)) (by omega))) ?_
 refine uC _ (aCa (aaH (aaB p1 (aaP q2)) (by omega)) (aaV (aaH (aaB q1 (aaP p2)) (by omega)))) ?_
 refine uC _ (axY (aaH (aaE (aaB p1 (aaP q2)) (aaV (aaB q1 (aaP p2)))) (by omega))) ?_
 rw [aK1]; rfl
theorem aNj {q : Rat} {s : Nat} (h : BdQ 1 q) (h2 : Bd 1 s) : aqB (rt q, mag s, ()) = some (sg (ao4 q s), ()) := aaI (enc := fun x : Rat × Nat => (rt x.1, mag x.2, ())) (q, s) ⟨h, h2⟩ (fun b hb => aPJ hb)
theorem aFI (x : RtT) (sc : List Int) (y) (h : aqB (x, sc, ()) = some y) : (avV x sc).toO = some y := by
 obtain ⟨⟨q, s⟩, hp, hx, rfl⟩ := aaD h
 obtain ⟨rfl, hx2⟩ := Prod.mk.inj hx; obtain ⟨rfl, -⟩ := Prod.mk.inj hx2; dsimp only
 obtain ⟨⟨p1, p2⟩, bs⟩ := hp
 simp only at p1 p2 bs
 have b2 : Bd 1 2 := aaH (aaG (by omega)) (by omega)
 unfold avV
 dsimp only
 have t1 := ag0 (a := s) (b := 2) (by repeat (first | assumption | exact aaH (by assumption) (by omega) | exact aaG (by omega) | refine aaY ?_ ?_ | refine aaS _ ?_ | refine aa1 _ ?_ | refine aaE ?_ ?_ | refine aaB ?_ ?_ | refine aaV ?_ | refine aaW ?_ ?_ | refine aaZ ?_ ?_ | refine aaP ?_)) (by repeat (first | assumption | exact aaH (by assumption) (by omega) | exact aaG (by omega) | refine aaY ?_ ?_ | refine aaS _ ?_ | refine aa1 _ ?_ | refine aaE ?_ ?_ | refine aaB ?_ ?_ | refine aaV ?_ | refine aaW ?_ ?_ | refine aaZ ?_ ?_ | refine aaP ?_))
 have t2 := ag0 (a := q.den) (b := 2) (by repeat (first | assumption | exact aaH (by assumption) (by omega) | exact aaG (by omega) | refine aaY ?_ ?_ | refine aaS _ ?_ | refine aa1 _ ?_ | refine aaE ?_ ?_ | refine aaB ?_ ?_ | refine aaV ?_ | refine aaW ?_ ?_ | refine aaZ ?_ ?_ | refine aaP ?_)) (by repeat (first | assumption | exact aaH (by assumption) (by omega) | exact aaG (by omega) | refine aaY ?_ ?_ | refine aaS _ ?_ | refine aa1 _ ?_ | refine aaE ?_ ?_ | refine aaB ?_ ?_ | refine aaV ?_ | refine aaW ?_ ?_ | refine aaZ ?_ ?_ | refine aaP ?_))
 rw [aP8] at t1 t2
 refine uC _ t1 ?_
 refine uC _ (ahR (by repeat (first | assumption | exact aaH (by assumption) (by omega) | exact aaG (by omega) | refine aaY ?_ ?_ | refine aaS _ ?_ | refine aa1 _ ?_ | refine aaE ?_ ?_ | refine aaB ?_ ?_ | refine aaV ?_ | refine aaW ?_ ?_ | refine aaZ ?_ ?_ | refine aaP ?_)) (by repeat (first | assumption | exact aaH (by assumption) (by omega) | exact aaG (by omega) | refine aaY ?_ ?_ | refine aaS _ ?_ | refine aa1 _ ?_ | refine aaE ?_ ?_ | refine aaB ?_ ?_ | refine aaV ?_ | refine aaW ?_ ?_ | refine aaZ ?_ ?_ | refine aaP ?_))) ?_
 refine uC (sg (q.den : Int), ()) (abT (w := (q.den : Int)) (by simp) (Or.inr (by rw [decide_eq_false (by omega)]))) ?_
 refine uC _ (aCa (aaH (aaB (aaH p1 (show 1 ≤ 2 by omega)) (aaP (aaW bs b2))) (by omega)) (by repeat (first | assumption | exact aaH (by assumption) (by omega) | exact aaG (by omega) | refine aaY ?_ ?_ | refine aaS _ ?_ | refine aa1 _ ?_ | refine aaE ?_ ?_ | refine aaB ?_ ?_ | refine aaV ?_ | refine aaW ?_ ?_ | refine aaZ ?_ ?_ | refine aaP ?_))) ?_
 refine uC _ t2 ?_
 refine uC _ (aAy (by repeat (first | assumption | exact aaH (by assumption) (by omega) | exact aaG (by omega) | refine aaY ?_ ?_ | refine aaS _ ?_ | refine aa1 _ ?_ | refine aaE ?_ ?_ | refine aaB ?_ ?_ | refine aaV ?_ | refine aaW ?_ ?_ | refine aaZ ?_ ?_ | refine aaP ?_)) (by repeat (first | assumption | exact aaH (by assumption) (by omega) | exact aaG (by omega) | refine aaY ?_ ?_ | refine aaS _ ?_ | refine aa1 _ ?_ | refine aaE ?_ ?_ | refine aaB ?_ ?_ | refine aaV ?_ | refine aaW ?_ ?_ | refine aaZ ?_ ?_ | refine aaP ?_)) (Nat.mul_ne_zero q.den_nz (by omega))) ?_
 rw [aLz]; rfl
set_option maxRecDepth 100000
open Go Go.Vg Go.Proofs
noncomputable section
def aNq : LTab := [(172, 7, 9217, { tag := 0, ι := (Bool) × Unit, vs := .dat (.s 3) (Ty.bool) <| .nil, ks := [5, 4, 2], kh := [0], fresh := 0 }), (172, 122, 12289, { tag := 1, ι := (Int) × Unit, vs := .dat (.s 23) (Ty.int IntKind.i64) <| .nil, ks := [22, 5, 4, 2], kh := [0], fresh := 0 })]
def aCp (a : List UInt8) (y : List UInt8 × Bool × Unit) (j : Bool × Unit) (i : (Int) × Unit) : TT (((Int) × Unit) ⊕ ((List Int × Bool × Unit) × Bool × Unit)) :=
 .ite (decide (i.1 < len y.1))
 (.need (inb i.1 (len y.1)) <| .ite (decide ((↑(UInt8.toNat (gi y.1 i.1 0)) : Int) < 48))
 (.ok (.inr ((([], false, ()), false, ()))))
 (.need (inb i.1 (len y.1)) <| .ite (decide ((↑(UInt8.toNat (gi y.1 i.1 0)) : Int) > 57))
 (.ok (.inr ((([], false, ()), false, ()))))
 (.tt <| .lt (w64 (i.1 + 1) : Int) fun z => .triv (Qq z ∧ Qq (len y.1) ∧ Qq y.2.1 ∧ Qq y.1 ∧ (Qq 0 ∧ Qq 0 ∧ Qq true) ∧ True) tv <| .triv ((Qq (212 : TypeId) ∧ True ∧ Qq false ∧ True) ∧ Qq true ∧ True) tv <| .ok (.inl ((z, ()))))))
 (.need (asT Int 0 ≤ 0 ∧ 0 < len y.1) <| .ite ((↑(UInt8.toNat (gi y.1 0 0)) : Int) == 48)
 (.ite (y.2.1)
 (.ok (.inr ((([], false, ()), false, ()))))
 (.ite (decide (len y.1 > 1))
 (.ok (.inr ((([], false, ()), false, ()))))
 (.call (ajA (y.1, ())) Dd0 fun y1 =>
 .ok (.inr (((y1.1, y.2.1, ()), true, ()))))))
 (.call (ajA (y.1, ())) Dd0 fun y2 =>
 .ok (.inr (((y2.1, y.2.1, ()), true, ())))))
def aJ6 (a : List UInt8) (y : List UInt8 × Bool × Unit) (j : (Bool) × Unit) : TT ((List Int × Bool × Unit) × Bool × Unit) :=
 .loop 1 (.tt <| .triv (Qq (0 : Int) ∧ Qq (len y.1) ∧ Qq y.2.1 ∧ Qq y.1 ∧ (Qq 0 ∧ Qq 0 ∧ Qq true) ∧ True) tv <| .triv ((Qq (212 : TypeId) ∧ True ∧ Qq false ∧ True) ∧ Qq true ∧ True) tv <| .ok ((0, ()))) (aCp a y j)
def aAC (a : List UInt8) : TT ((List Int × Bool × Unit) × Bool × Unit) :=
 .call (abW (a, #[45].toList, ())) Dd7 fun y =>
 .join 0 (ι := (Bool) × Unit) (.ite (len y.1 == 0)
 (.ok (.inr ((([], false, ()), false, ()))))
 (.ite (decide (len y.1 > 600))
 (.ok (.inr ((([], false, ()), false, ()))))
 (.tt <| .triv (Qq false ∧ Qq y.2.1 ∧ Qq y.1 ∧ (Qq 0 ∧ Qq 0 ∧ Qq true) ∧ True) tv <| .triv ((Qq (212 : TypeId) ∧ True ∧ Qq false ∧ True) ∧ Qq true ∧ True) tv <| .ok (.inl ((false, ())))))) (aJ6 a y)
def aNr : LTab := []
def aAD (a : List UInt8) (b : List UInt8) : TT ((List Int × Bool × Unit) × (List Int × Bool × Unit) × Int × Unit) :=
 .call (afA (a, ())) Dd9 fun y =>
 .call (afA (b, ())) Dd9 fun y1 =>
 .ite (!y.2.1)
 (.ok ((([], false, ()), ([], false, ()), 10, ())))
 (.ite (!y1.2.1)
 (.ok ((([], false, ()), ([], false, ()), 10, ())))
 (.ok (((y.1.1, y.1.2.1, ()), (y1.1.1, y1.1.2.1, ()), 0, ()))))
def aKb : LTab := []
def auL (a : List UInt8) : TT (Int × Unit) :=
 .call (afA (a, ())) Dd9 fun y =>
 .ite (!y.2.1)
 (.ok ((10, ())))
 (.ok ((0, ())))
def aQI : LTab := []
def aPd (n : Int) : TT (List UInt8 × Unit) :=
 .call (aAq (n, ())) Dd2 fun y =>
 .ok ((y.1, ()))
def aPy : LTab := []
def aEF (a : List UInt8) (b : List UInt8) : TT (List UInt8 × Int × Unit) :=
 .tt <| .tt <| .call (afB (a, b, ())) aRT fun y =>
 .ite (y.2.2.1 != 0)
 (.ok ((#[].toList, y.2.2.1, ())))
 (.triv (asT Int 0 ≤ 2 ∧ 2 < (↑4 : Int)) (by decide) <| .call (ah6 ((y.1.1, y.1.2.1, ()), (y.2.1.1, y.2.1.2.1, ()), ())) Dd5 fun y1 =>
 .call (acU (y1.1, ())) aGy fun y2 =>
 .ok ((y2.1, y2.2.1, ())))
def aPA : LTab := []
def aqQ (y2 : (List (Int)) × (List (Int)) × Unit) (y : ((List (Int)) × (Bool) × Unit) × ((List (Int)) × (Bool) × Unit) × (Int) × Unit) : TT (List UInt8 × List UInt8 × Int × Unit) :=
 .call (ah7 (y2.1, !y.1.2.1 == y.2.1.2.1, ())) Dd5 fun y10 =>
 .call (acU (y10.1, ())) aGy fun y11 =>
 .ite (y11.2.1 != 0)
 (.ok ((#[].toList, #[].toList, y11.2.1, ())))
 (.call (ah7 (y2.2.1, false, ())) Dd5 fun y12 =>
 .call (acU (y12.1, ())) aGy fun y13 =>
 .ite (y13.2.1 != 0)
 (.ok ((#[].toList, #[].toList, y13.2.1, ())))
 (.ok ((y11.1, y13.1, 0, ()))))
def aEH (a : List UInt8) (b : List UInt8) : TT (List UInt8 × List UInt8 × Int × Unit) :=
 .call (afB (a, b, ())) aRT fun y =>
 .ite (y.2.2.1 != 0)
 (.ok ((#[].toList, #[].toList, y.2.2.1, ())))
 (.call (ahL (y.2.1.1, ())) Dd1 fun y1 =>
  .ite (y1.1)
  (.ok ((#[].toList, #[].toList, 7, ())))
  (.call (akI (y.1.1, y.2.1.1, ())) Dd4 fun y2 =>
   .ite (y.1.2.1)
   (.call (ahL (y2.2.1, ())) Dd1 fun y3 =>
    .ite (!y3.1)
    (.call (ap2 (y2.1, [1], ())) Dd0 fun y4 =>
     .call (ar9 (y.2.1.1, y2.2.1, ())) Dd0 fun y5 =>
     .call (ah7 (y4.1, !y.1.2.1 == y.2.1.2.1, ())) Dd5 fun y6 =>
     .call (acU (y6.1, ())) aGy fun y7 =>
     .ite (y7.2.1 != 0)
     (.ok ((#[].toList, #[].toList, y7.2.1, ())))
     (.call (ah7 (y5.1, false, ())) Dd5 fun y8 =>
      .call (acU (y8.1, ())) aGy fun y9 =>
      .ite (y9.2.1 != 0)
      (.ok ((#[].toList, #[].toList, y9.2.1, ())))
      (.ok ((y7.1, y9.1, 0, ())))))
    (aqQ y2 y))
   (aqQ y2 y)))
def aPx : LTab := []
def aEE (a : List UInt8) (n : Int) : TT (List UInt8 × Int × Unit) :=
 .call (afA (a, ())) Dd9 fun y =>
 .ite (!y.2.1)
 (.ok ((#[].toList, 10, ())))
 (.ite (decide (n < 0))
 (.ok ((#[].toList, 2, ())))
 (.ite (decide (n > 40))
 (.ok ((#[].toList, 2, ())))
 (.call (ai9 (y.1.1, n, ())) Dd0 fun y1 =>
 .ite (y.1.2.1)
 (.triv (asT Int 2 ≠ 0) (by decide) <| .call (ah7 (y1.1, Int.tmod n 2 == 1, ())) Dd5 fun y2 =>
 .call (acU (y2.1, ())) aGy fun y3 =>
 .ok ((y3.1, y3.2.1, ())))
 (.call (ah7 (y1.1, false, ())) Dd5 fun y4 =>
 .call (acU (y4.1, ())) aGy fun y5 =>
 .ok ((y5.1, y5.2.1, ()))))))
def aNt : LTab := []
def aAF (a : List UInt8) (k : Int) : TT (List UInt8 × Int × Unit) :=
 .call (afA (a, ())) Dd9 fun y =>
 .ite (!y.2.1)
 (.ok ((#[].toList, 10, ())))
 (.ite (decide (k < 1))
 (.ok ((#[].toList, 2, ())))
 (.ite (decide (k > 12))
 (.ok ((#[].toList, 2, ())))
 (.ite (y.1.2.1)
 (.ok ((#[].toList, 2, ())))
 (.call (ap1 (y.1.1, k, ())) Dd0 fun y1 =>
 .call (ah7 (y1.1, false, ())) Dd5 fun y2 =>
 .call (acU (y2.1, ())) aGy fun y3 =>
 .ok ((y3.1, y3.2.1, ()))))))
def aED : LTab := [(281, 122, 10241, { tag := 0, ι := (Int) × (Int) × Unit, vs := .dat (.s 11) (Ty.int IntKind.i64) <| .dat (.s 4) (Ty.int IntKind.u32) <| .nil, ks := [10, 3, 2, 0], kh := [4], fresh := 0 })]
def asI (n : Int) (i : (Int) × (Int) × Unit) : TT (((Int) × (Int) × Unit) ⊕ (List Int × Unit)) :=
 .ite (decide (i.1 < Int.tmod n 9))
 (.tt <| .lt (w64 (i.1 + 1) : Int) fun z => .lt (adS (i.2.1 * 10) : Int) fun z1 => .triv (Qq z1 ∧ Qq z ∧ Qq (Int.tmod n 9) ∧ (Qq 4 ∧ Qq 0 ∧ Qq (Int.toNat (w64 (w64 (Int.tdiv n 9) + 1))) ∧ Qq true) ∧ True ∧ Qq n ∧ True) tv <| .triv ((Qq (189 : TypeId) ∧ Qq (List.replicate (Int.toNat (w64 (w64 (Int.tdiv n 9) + 1))) 0 : List Int)) ∧ Qq true ∧ True) tv <| .ok (.inl ((z, z1, ()))))
 (.triv (asT Int 9 ≠ 0) (by decide) <| .need (inb (w64 (Int.tdiv n 9)) (↑(Int.toNat (w64 (w64 (Int.tdiv n 9) + 1))) : Int)) <| .ok (.inr ((List.take (Int.toNat (w64 (w64 (Int.tdiv n 9) + 1))) (List.set (List.replicate (Int.toNat (w64 (w64 (Int.tdiv n 9) + 1))) 0) (0 + Int.toNat (w64 (Int.tdiv n 9))) i.2.1), ()))))
def anI (n : Int) : TT (List Int × Unit) :=
 .triv (asT Int 9 ≠ 0) (by decide) <| .need (0 ≤ w64 (w64 (Int.tdiv n 9) + 1) ∧ w64 (w64 (Int.tdiv n 9) + 1) ≤ w64 (w64 (Int.tdiv n 9) + 1) ∧ w64 (w64 (Int.tdiv n 9) + 1) * (↑4 : Int) ≤ 140737488355328) <| .triv (asT Int 9 ≠ 0) (by decide) <| .loop 0 (.tt <| .triv (Qq (1 : Int) ∧ Qq (0 : Int) ∧ Qq (Int.tmod n 9) ∧ (Qq 4 ∧ Qq 0 ∧ Qq (Int.toNat (w64 (w64 (Int.tdiv n 9) + 1))) ∧ Qq true) ∧ True ∧ Qq n ∧ True) tv <| .triv ((Qq (189 : TypeId) ∧ Qq (List.replicate (Int.toNat (w64 (w64 (Int.tdiv n 9) + 1))) 0 : List Int)) ∧ Qq true ∧ True) tv <| .ok ((0, 1, ()))) (asI n)
def aHO : LTab := [(242, 122, 8193, { tag := 0, ι := (Int) × (List Int) × Unit, vs := .dat (.s 11) (Ty.int IntKind.i64) <| .dat (.s 5) (Ty.sl (Ty.int IntKind.u32)) <| .nil, ks := [10, 6, 4], kh := [], fresh := 0 })]
def auJ (m : List Int) (n : Int) (i : (Int) × (List Int) × Unit) : TT (((Int) × (List Int) × Unit) ⊕ (List Int × Unit)) :=
 .ite (decide (i.1 < n))
 (.call (ai8 (m, i.2.1, ())) Dd0 fun y =>
 .tt <| .lt (w64 (i.1 + 1) : Int) fun z1 => .triv (Qq y.1 ∧ Qq z1 ∧ Qq n ∧ (Qq (257 : FuncId) ∧ (Qq m ∧ True) ∧ True) ∧ True ∧ True) tv <| .tr <| .ok (.inl ((z1, y.1, ()))))
 (.ok (.inr ((i.2.1, ()))))
def ayX (m : List Int) (n : Int) : TT (List Int × Unit) :=
 .loop 0 (.tt <| .lt ([1] : List Int) fun z => .triv (Qq z ∧ Qq (0 : Int) ∧ Qq n ∧ (Qq (257 : FuncId) ∧ (Qq m ∧ True) ∧ True) ∧ True ∧ True) tv <| .tr <| .ok ((0, z, ()))) (auJ m n)
def aJ2 : LTab := [(270, 30, 10241, { tag := 0, ι := (List Int) × Unit, vs := .dat (.s 5) (Ty.sl (Ty.int IntKind.u32)) <| .nil, ks := [0, 1], kh := [], fresh := 0 })]
def aiQ (m : List Int) (k : Int) (y : Bool × Unit) (y1 : Int × Unit) (y2 : List Int × Unit) (i : (List Int) × Unit) : TT (((List Int) × Unit) ⊕ (List Int × Unit)) :=
 .call (ai9 (i.1, w64 (k - 1), ())) Dd0 fun y3 =>
 .call (akI (m, y3.1, ())) Dd4 fun y4 =>
 .call (agU (abO (w64 (k - 1)), ())) Dd0 fun y5 =>
 .call (ai8 (i.1, y5.1, ())) Dd0 fun y6 =>
 .call (ap2 (y6.1, y4.1, ())) Dd0 fun y7 =>
 .call (ar8 (y7.1, adS k, ())) aRK fun y8 =>
 .call (alU (y8.1, i.1, ())) Dd6 fun y9 =>
 .ite (decide (y9.1 ≥ 0))
 (.ok (.inr ((i.1, ()))))
 (.tt <| .triv (Qq y8.1 ∧ Qq m ∧ Qq k ∧ True) tv <| .tr <| .ok (.inl ((y8.1, ()))))
def aCm (m : List Int) (k : Int) : TT (List Int × Unit) :=
 .call (ahL (m, ())) Dd1 fun y =>
 .ite (y.1)
 (.ok (([], ())))
 (.call (akH (m, ())) Dd6 fun y1 =>
 .need (k ≠ 0) <| .call (akK (w64 (w64 (Int.tdiv y1.1 k) + 1), ())) Dd0 fun y2 =>
 .loop 0 (.tt <| .triv (Qq y2.1 ∧ Qq m ∧ Qq k ∧ True) tv <| .tr <| .ok ((y2.1, ()))) (aiQ m k y y1 y2))
def aOL : LTab := []
def aBx (a : List UInt8 × List UInt8 × Unit) : TT (((List Int × Bool × Unit) × List Int × Unit) × Bool × Unit) :=
 .call (afC (a.1, ())) Dd6 fun y =>
 .ite (y.1 != 0)
 (.ok (((([], false, ()), [], ()), false, ())))
 (.call (afC (a.2.1, ())) Dd6 fun y1 =>
 .ite (y1.1 != 0)
 (.ok (((([], false, ()), [], ()), false, ())))
 (.call (afV (a.1, ())) Dd5 fun y2 =>
 .call (afV (a.2.1, ())) Dd5 fun y3 =>
 .call (ajJ ((y3.1.1, y3.1.2.1, ()), ())) Dd6 fun y4 =>
 .ite (decide (y4.1 < 1))
 (.ok (((([], false, ()), [], ()), false, ())))
 (.call (agV (y2.1.1, y3.1.1, ())) Dd0 fun y5 =>
 .call (adM (y5.1, [1], ())) Dd6 fun y6 =>
 .ite (y6.1 != 0)
 (.ok (((([], false, ()), [], ()), false, ())))
 (.ok ((((y2.1.1, y2.1.2.1, ()), y3.1.1, ()), true, ()))))))
def aMa : LTab := []
def awC (a : List UInt8 × List UInt8 × Unit) : TT (Int × Unit) :=
 .call (abL ((a.1, a.2.1, ()), ())) aHG fun y =>
 .ite (!y.2.1)
 (.ok ((20, ())))
 (.ok ((0, ())))
def aOP : LTab := []
def aBB (n : List UInt8) (d : List UInt8) : TT ((List UInt8 × List UInt8 × Unit) × Int × Unit) :=
 .call (afC (n, ())) Dd6 fun y =>
 .ite (y.1 != 0)
 (.ok (((#[].toList, #[].toList, ()), 10, ())))
 (.call (afC (d, ())) Dd6 fun y1 =>
 .ite (y1.1 != 0)
 (.ok (((#[].toList, #[].toList, ()), 10, ())))
 (.call (afV (n, ())) Dd5 fun y2 =>
 .call (afV (d, ())) Dd5 fun y3 =>
 .call (ac4 (y3.1.1, ())) Dd1 fun y4 =>
 .ite (y4.1)
 (.ok (((#[].toList, #[].toList, ()), 7, ())))
 (.call (aa8 (y2.1.1, !y2.1.2.1 == y3.1.2.1, ())) Dd5 fun y5 =>
 .call (akM (y5.1, y3.1.1, ())) Dd8 fun y6 =>
 .call (aeU (y6.1, ())) afI fun y7 =>
 .ok (((y7.1.1, y7.1.2.1, ()), y7.2.1, ())))))
def aRc : LTab := []
def aPr (n : Int) (d : Int) : TT ((List UInt8 × List UInt8 × Unit) × Int × Unit) :=
 .call (atK (n, ())) Dd2 fun y =>
 .call (atK (d, ())) Dd2 fun y1 =>
 .call (aqF (y.1, y1.1, ())) afI fun y2 =>
 .ok (((y2.1.1, y2.1.2.1, ()), y2.2.1, ()))
def aOM : LTab := []
def aBz (a : List UInt8 × List UInt8 × Unit) : TT (Int × Int × Unit) :=
 .call (abL ((a.1, a.2.1, ()), ())) aHG fun y =>
 .ite (!y.2.1)
 (.ok ((0, 20, ())))
 (.call (ajJ ((y.1.1.1, y.1.1.2.1, ()), ())) Dd6 fun y1 =>
 .ok ((y1.1, 0, ())))
def aQm : LTab := []
def aFW (a : List UInt8 × List UInt8 × Unit) (b : List UInt8 × List UInt8 × Unit) : TT (Int × Int × Unit) :=
 .tt <| .tt <| .call (abL ((a.1, a.2.1, ()), ())) aHG fun y =>
 .call (abL ((b.1, b.2.1, ()), ())) aHG fun y1 =>
 .ite (!y.2.1)
 (.ok ((0, 20, ())))
 (.ite (!y1.2.1)
 (.ok ((0, 20, ())))
 (.call (amY (((y.1.1.1, y.1.1.2.1, ()), y.1.2.1, ()), ((y1.1.1.1, y1.1.1.2.1, ()), y1.1.2.1, ()), ())) Dd6 fun y2 =>
 .ok ((y2.1, 0, ()))))
def aQn : LTab := []
def aFY (a : List UInt8 × List UInt8 × Unit) (b : List UInt8 × List UInt8 × Unit) : TT ((List UInt8 × List UInt8 × Unit) × Int × Unit) :=
 .tt <| .tt <| .call (abL ((a.1, a.2.1, ()), ())) aHG fun y =>
 .call (abL ((b.1, b.2.1, ()), ())) aHG fun y1 =>
 .ite (!y.2.1)
 (.tt <| .tt <| .ok (((#[].toList, #[].toList, ()), 20, ())))
 (.ite (!y1.2.1)
 (.tt <| .tt <| .ok (((#[].toList, #[].toList, ()), 20, ())))
 (.call (aqD (((y.1.1.1, y.1.1.2.1, ()), y.1.2.1, ()), ((y1.1.1.1, y1.1.1.2.1, ()), y1.1.2.1, ()), ())) Dd8 fun y2 =>
 .tt <| .tt <| .call (aeU (((y2.1.1.1, y2.1.1.2.1, ()), y2.1.2.1, ()), ())) afI fun y3 =>
 .ok (((y3.1.1, y3.1.2.1, ()), y3.2.1, ()))))
def aQj : LTab := []
def aFS (a : List UInt8 × List UInt8 × Unit) (b : List UInt8 × List UInt8 × Unit) : TT ((List UInt8 × List UInt8 × Unit) × Int × Unit) :=
 .tt <| .tt <| .call (abL ((a.1, a.2.1, ()), ())) aHG fun y =>
 .call (abL ((b.1, b.2.1, ()), ())) aHG fun y1 =>
 .ite (!y.2.1)
 (.tt <| .tt <| .ok (((#[].toList, #[].toList, ()), 20, ())))
 (.ite (!y1.2.1)
 (.tt <| .tt <| .ok (((#[].toList, #[].toList, ()), 20, ())))
 (.call (auH (((y.1.1.1, y.1.1.2.1, ()), y.1.2.1, ()), ((y1.1.1.1, y1.1.1.2.1, ()), y1.1.2.1, ()), ())) Dd8 fun y2 =>
 .tt <| .tt <| .call (aeU (((y2.1.1.1, y2.1.1.2.1, ()), y2.1.2.1, ()), ())) afI fun y3 =>
 .ok (((y3.1.1, y3.1.2.1, ()), y3.2.1, ()))))
def aQk : LTab := []
def aFT (a : List UInt8 × List UInt8 × Unit) (b : List UInt8 × List UInt8 × Unit) : TT ((List UInt8 × List UInt8 × Unit) × Int × Unit) :=
 .tt <| .tt <| .call (abL ((a.1, a.2.1, ()), ())) aHG fun y =>
 .call (abL ((b.1, b.2.1, ()), ())) aHG fun y1 =>
 .ite (!y.2.1)
 (.tt <| .tt <| .ok (((#[].toList, #[].toList, ()), 20, ())))
 (.ite (!y1.2.1)
 (.tt <| .tt <| .ok (((#[].toList, #[].toList, ()), 20, ())))
 (.call (aqC (((y.1.1.1, y.1.1.2.1, ()), y.1.2.1, ()), ((y1.1.1.1, y1.1.1.2.1, ()), y1.1.2.1, ()), ())) Dd8 fun y2 =>
 .tt <| .tt <| .call (aeU (((y2.1.1.1, y2.1.1.2.1, ()), y2.1.2.1, ()), ())) afI fun y3 =>
 .ok (((y3.1.1, y3.1.2.1, ()), y3.2.1, ()))))
def aQl : LTab := []
def aFV (a : List UInt8 × List UInt8 × Unit) (b : List UInt8 × List UInt8 × Unit) : TT ((List UInt8 × List UInt8 × Unit) × Int × Unit) :=
 .call (abL ((a.1, a.2.1, ()), ())) aHG fun y =>
 .call (abL ((b.1, b.2.1, ()), ())) aHG fun y1 =>
 .ite (!y.2.1)
 (.ok (((#[].toList, #[].toList, ()), 20, ())))
 (.ite (!y1.2.1)
 (.ok (((#[].toList, #[].toList, ()), 20, ())))
 (.call (ac4 (y1.1.1.1, ())) Dd1 fun y2 =>
 .ite (y2.1)
 (.ok (((#[].toList, #[].toList, ()), 7, ())))
 (.call (ah9 (((y1.1.1.1, y1.1.1.2.1, ()), y1.1.2.1, ()), ())) Dd8 fun y3 =>
 .call (aqC (((y.1.1.1, y.1.1.2.1, ()), y.1.2.1, ()), y3.1, ())) Dd8 fun y4 =>
 .call (aeU (y4.1, ())) afI fun y5 =>
 .ok (((y5.1.1, y5.1.2.1, ()), y5.2.1, ())))))
def aL7 : LTab := []
def awB (a : List UInt8 × List UInt8 × Unit) : TT (List UInt8 × Int × Unit) :=
 .call (abL ((a.1, a.2.1, ()), ())) aHG fun y =>
 .ite (!y.2.1)
 (.ok ((#[].toList, 20, ())))
 (.call (ajK ((y.1.1.1, y.1.1.2.1, ()), y.1.2.1, ())) Dd5 fun y1 =>
 .call (ajI (y1.1, ())) Dd2 fun y2 =>
 .ok ((y2.1, 0, ())))
def aOO : LTab := []
def aBA (a : List UInt8 × List UInt8 × Unit) (scale : Int) : TT (Int × Int × Unit) :=
 .call (abL ((a.1, a.2.1, ()), ())) aHG fun y =>
 .ite (!y.2.1)
 (.ok ((0, 20, ())))
 (.ite (decide (scale < 1))
 (.ok ((0, 2, ())))
 (.ite (decide (scale > 1000000000000))
 (.ok ((0, 2, ())))
 (.call (abM (abO scale, ())) Dd0 fun y1 =>
 .call (aqB (((y.1.1.1, y.1.1.2.1, ()), y.1.2.1, ()), y1.1, ())) Dd5 fun y2 =>
 .call (ajI (y2.1, ())) Dd2 fun y3 =>
 .call (akL (y3.1, ())) aCf fun y4 =>
 .ite (y4.2.1 != 0)
 (.ok ((0, 6, ())))
 (.ok ((y4.1, 0, ()))))))
end
theorem aKD {s t : List UInt8} {b : Bool} (hc : abW (s, #[45].toList, ()) = some (t, b, ())) (h : ¬ (isD t ∧ t ≠ [] ∧ t.length ≤ 600 ∧ (t.head? = some 48 → b = false ∧ t.length = 1))) : rdW s = none := by
 refine aGL fun z hz he => h ?_
 rw [← he, aEr] at hc
 injection hc with hc
 obtain ⟨rfl, h2⟩ := Prod.mk.inj hc
 obtain ⟨rfl, -⟩ := Prod.mk.inj h2
 refine ⟨aj8 _, aeO _, hz, fun h0 => ?_⟩
 by_cases hn : z.natAbs = 0
 ·rw [hn, abG (by omega)]
  exact ⟨decide_eq_false (by omega), rfl⟩
 ·exact absurd h0 (aMv hn)
theorem aKC {s t : List UInt8} {b : Bool} (hc : abW (s, #[45].toList, ()) = some (t, b, ())) (h1 : isD t) (h2 : t ≠ []) (h3 : t.length ≤ 600) (h4 : t.head? = some 48 → b = false ∧ t.length = 1) : ∃ z : Int, rdW s = some z ∧ z.natAbs = num t ∧ decide (z < 0) = b := by
 have hu : t = aa2 (num t) := aDW h1 h2 (by
  by_cases h0 : t.head? = some 48
  ·exact Or.inr (h4 h0).2
  ·exact Or.inl h0)
 have hs : s = if b then 45 :: t else t := by
  injection hc with hc
  simp only at hc
  split at hc
  ·rename_i hp
   obtain ⟨e1, e2⟩ := Prod.mk.inj hc
   obtain ⟨rfl, -⟩ := Prod.mk.inj e2
   cases s with
   | nil => cases hp
   | cons c s =>
    have : c = 45 := by
     have h5 : ([45] : List UInt8).isPrefixOf (c :: s) = true := hp
     simp [List.isPrefixOf] at h5
     exact h5.symm
    rw [this, ← e1]; rfl
  ·obtain ⟨e1, e2⟩ := Prod.mk.inj hc
   obtain ⟨rfl, -⟩ := Prod.mk.inj e2
   rw [← e1]; rfl
 cases b
 ·refine ⟨(num t : Int), ?_, by simp, by simp⟩
  have : s = dec (num t : Int) := by rw [ad5, ← hu, hs]; rfl
  rw [this, ak5 (show (aa2 (num t : Int).natAbs).length ≤ 600 by simp; rw [← hu]; exact h3)]
 ·have hn : num t ≠ 0 := by
   intro h0
   rw [h0, abG (by omega)] at hu
   have := h4 (by rw [hu]; rfl)
   cases this.1
  refine ⟨-(num t : Int), ?_, by simp, by simp; omega⟩
  have : s = dec (-(num t : Int)) := by rw [ahH (by omega), Int.natAbs_neg, Int.natAbs_natCast, ← hu, hs]; rfl
  rw [this, ak5 (show (aa2 (-(num t : Int)).natAbs).length ≤ 600 by simp; rw [← hu]; exact h3)]
noncomputable def aQD (s : List UInt8) : SgT × Bool × Unit := match rdW s with | some z => (sg z, true, ()) | none => (([], false, ()), false, ())
theorem aHQ (a : List UInt8) (y) (h : afA (a, ()) = some y) : (aAC a).toO = some y := by
 have hy : y = aQD a := by injection h with h; exact h.symm
 clear h
 subst hy
 obtain ⟨t, b, hc⟩ : ∃ t b, abW (a, #[45].toList, ()) = some (t, b, ()) := ⟨_, _, rfl⟩
 have hnot : ¬ (isD t ∧ t ≠ [] ∧ t.length ≤ 600 ∧ (t.head? = some 48 → b = false ∧ t.length = 1)) → aQD a = (([], false, ()), false, ()) := fun h => by unfold aQD; rw [aKD hc h]
 have hyes : isD t → t ≠ [] → t.length ≤ 600 → (t.head? = some 48 → b = false ∧ t.length = 1) → ajA (t, ()) = some (mag (num t), ()) ∧ aQD a = ((mag (num t), b, ()), true, ()) := fun h1 h2 h3 h4 => by
  obtain ⟨z, e1, e2, e3⟩ := aKC hc h1 h2 h3 h4
  refine ⟨?_, ?_⟩
  ·unfold ajA
   rw [if_pos ⟨h1, h2, by simp only; omega⟩]
  ·unfold aQD
   rw [e1]
   show ((mag z.natAbs, decide (z < 0), ()), true, ()) = _
   rw [e2, e3]
 unfold aAC
 refine uC (t, b, ()) hc ?_
 by_cases h1 : t = []
 ·rw [hnot (fun h => h.2.1 h1)]
  refine uR _ (uT (by simp [h1, len]) rfl)
 have hlen : 1 ≤ t.length := List.length_pos_iff.2 h1
 by_cases h2 : t.length ≤ 600
 case neg =>
  rw [hnot (fun h => h2 h.2.2.1)]
  refine uR _ (uF sd (uT sd rfl))
 refine uL (false, ()) (uF sd (uF sd rfl)) ?_
 refine uO (0, ()) rfl ?_
 refine aaN (fun i : Int × Unit => ∃ k : Nat, i.1 = (k : Int) ∧ k ≤ t.length ∧ isD (t.take k)) (fun i => ((t.length : Int) - i.1).toNat) (fun _ => aQD a) ?_ _ ⟨0, rfl, by omega, by simp [isD]⟩
 rintro ⟨i, u⟩ ⟨k, h3, h4, h5⟩
 simp only at h3
 subst h3
 simp only [aCp, aaM]
 rcases Nat.lt_or_ge k t.length with hk | hk
 ·have e1 : t.getD k 0 = t[k] := by simp [hk]
  simp only [e1]
  by_cases c1 : t[k].toNat < 48
  ·right
   rw [hnot (fun h => by have := h.1 t[k] (List.getElem_mem hk); omega)]
   repeat (first | refine uV ?_ | refine uB ?_ | refine uN sd ?_ | refine uT sd ?_ | refine uF sd ?_ | refine uN (by simp) ?_)
   rfl
  by_cases c2 : t[k].toNat > 57
  ·right
   rw [hnot (fun h => by have := h.1 t[k] (List.getElem_mem hk); omega)]
   repeat (first | refine uV ?_ | refine uB ?_ | refine uN sd ?_ | refine uT sd ?_ | refine uF sd ?_ | refine uN (by simp) ?_)
   rfl
  ·left
   refine ⟨(((k + 1 : Nat) : Int), ()), ?_, ⟨k + 1, rfl, by omega, ?_⟩, by simp only; omega, (by first | exact True.intro | rfl)⟩
   ·repeat (first | refine uV ?_ | refine uB ?_ | refine uN sd ?_ | refine uT sd ?_ | refine uF sd ?_ | refine uN (by simp) ?_)
    simp (disch := omega) only [aaK, aaA, aaO, aa0, abN, aaM, Nat.zero_add, Int.toNat_natCast, aaC, List.take_length]
    rfl
   ·rw [List.take_succ_eq_append_getElem hk, isD_append]
    refine ⟨h5, fun c hc => ?_⟩
    have := List.mem_singleton.1 hc
    subst this
    omega
 ·right
  have hd : isD t := by rwa [List.take_of_length_le hk] at h5
  refine uF sd (uN ⟨by simp [asT], by exact sn⟩ ?_)
  cases ht : t with
  | nil => exact absurd ht h1
  | cons c r =>
   rw [← ht]
   have hg : gi t 0 0 = c := by rw [ht]; rfl
   simp only [hg]
   have hh : t.head? = some c := by rw [ht]; rfl
   by_cases c0 : c = 48
   ·subst c0
    refine uT (by rfl) ?_
    cases b
    ·refine uF rfl ?_
     by_cases hl : t.length = 1
     ·obtain ⟨g1, g2⟩ := hyes hd h1 h2 (fun _ => ⟨rfl, hl⟩)
      rw [g2]
      exact uF sd (uC _ g1 rfl)
     ·rw [hnot (fun h => hl (h.2.2.2 hh).2)]
      exact uT sd rfl
    ·rw [hnot (fun h => by have := (h.2.2.2 hh).1; cases this)]
     exact uT rfl rfl
   ·obtain ⟨g1, g2⟩ := hyes hd h1 h2 (fun h => by rw [hh] at h; injection h with h; exact absurd h c0)
    rw [g2]
    refine uF ?_ (uC _ g1 rfl)
    rw [beq_eq_false_iff_ne]
    intro h
    exact c0 (UInt8.toNat_inj.1 (Int.ofNat.inj h))
theorem acX {s : List UInt8} {z : Int} (h : rdW s = some z) : afA (s, ()) = some (sg z, true, ()) := by unfold afA; rw [h]
theorem acY {s : List UInt8} (h : rdW s = none) : afA (s, ()) = some (([], false, ()), false, ()) := by unfold afA; rw [h]
theorem aEI (a : List UInt8) (y) (h : afC (a, ()) = some y) : (auL a).toO = some y := by
 unfold afC at h
 unfold auL
 cases hr : rdW a with
 | none =>
  simp only [hr] at h
  exact uC _ (acY hr) (uT rfl h)
 | some z =>
  simp only [hr] at h
  exact uC _ (acX hr) (uF rfl h)
theorem aHR (a b : List UInt8) (y) (h : afB (a, b, ()) = some y) : (aAD a b).toO = some y := by
 unfold afB at h
 unfold aAD
 cases hr : rdW a with
 | none =>
  simp only [hr] at h
  cases hb : rdW b with
  | none => exact uC _ (acY hr) (uC _ (acY hb) (uT rfl h))
  | some w => exact uC _ (acY hr) (uC _ (acX hb) (uT rfl h))
 | some z =>
  cases hb : rdW b with
  | none =>
   simp only [hr, hb] at h
   exact uC _ (acX hr) (uC _ (acY hb) (uF rfl (uT rfl h)))
  | some w =>
   simp only [hr, hb] at h
   exact uC _ (acX hr) (uC _ (acX hb) (uF rfl (uF rfl h)))
theorem aNu (n : Int) (y) (h : atK (n, ()) = some y) : (aPd n).toO = some y := by
 unfold atK at h
 split at h
 ·rename_i hp
  exact uC (dec n, ()) (by unfold aAq; exact if_pos hp) h
 ·cases h
theorem aNf {n : Int} (h : aa9 n) : atK (n, ()) = some (dec n, ()) := by unfold atK; rw [if_pos h]
theorem aEk {a b : Int} (h1 : Bd 7 a.natAbs) (h2 : Bd 7 b.natAbs) : ah6 (sg a, sg b, ()) = some (sg (a * b), ()) := aaI (enc := fun x : Int × Int => (sg x.1, sg x.2, ())) (a, b) ⟨h1, h2⟩ (fun b hb => aAR hb)
theorem am8 {s : List UInt8} {z : Int} (h : rdW s = some z) : Bd 0 z.natAbs := apW (aeH h).1
theorem aJ8 (a b : List UInt8) (y) (h : asA (a, b, ()) = some y) : (aEF a b).toO = some y := by
 unfold asA at h
 unfold aEF
 refine uV (uV ?_)
 cases hr : rdW a with
 | none =>
  simp only [hr] at h
  refine uC (([], false, ()), ([], false, ()), 10, ()) (by unfold afB; simp only [hr]) (uT rfl h)
 | some z =>
  cases hb : rdW b with
  | none =>
   simp only [hr, hb] at h
   refine uC (([], false, ()), ([], false, ()), 10, ()) (by unfold afB; simp only [hr, hb]) (uT rfl h)
  | some w =>
   simp only [hr, hb] at h
   have b1 := am8 hr
   have b2 := am8 hb
   refine uC (sg z, sg w, 0, ()) (by unfold afB; simp only [hr, hb]) (uF rfl (uV ?_))
   refine uC _ (aEk (aaH b1 (by omega)) (aaH b2 (by omega))) ?_
   refine uC _ (aqJ (aaH (aaB b1 b2) (by omega))) ?_
   exact h
theorem adR (s : List UInt8) : afC (s, ()) = some (if (rdW s).isSome then 0 else 10, ()) := rfl
theorem aMF (n : Nat) : atF n 1 = 0 ↔ n = 1 := by
 unfold atF
 split
 ·omega
 ·split <;> omega
theorem aI8 (a : FxT) (y) (h : abL (a, ()) = some y) : (aBx a).toO = some y := by
 obtain ⟨s, t, u⟩ := a
 have hs := aPk s t
 unfold abL at h
 dsimp only at h
 unfold aBx
 dsimp only
 cases hn : rdW s with
 | none =>
  rw [hn] at hs
  have hs' : rdF (s, t, u) = none := hs
  rw [hs'] at h
  refine uC _ (adR s) (uT (by rw [hn]; rfl) h)
 | some n =>
  cases hd : rdW t with
  | none =>
   rw [hn, hd] at hs
   have hs' : rdF (s, t, u) = none := hs
   rw [hs'] at h
   refine uC _ (adR s) (uF (by rw [hn]; rfl) (uC _ (adR t) (uT (by rw [hd]; rfl) h)))
  | some d =>
   rw [hn, hd] at hs
   dsimp only at hs
   obtain ⟨f1, e1⟩ := aeH hn
   obtain ⟨f2, e2⟩ := aeH hd
   have b1 := am8 hn
   have b2 := am8 hd
   refine uC _ (adR s) (uF (by rw [hn]; rfl) (uC _ (adR t) (uF (by rw [hd]; rfl) ?_)))
   refine uC (sg n, ()) (by rw [e1]; exact am4 (aaH b1 (by omega))) ?_
   refine uC (sg d, ()) (by rw [e2]; exact am4 (aaH b2 (by omega))) ?_
   refine uC _ (axY (aaH b2 (by omega))) ?_
   by_cases hp : 0 < d
   ·refine uF ?_ ?_
    ·rw [Int.sign_eq_one_of_pos hp]; rfl
    have hg := am3 (a := n.natAbs) (b := d.natAbs) (aaH b1 (by omega)) (aaH b2 (by omega))
    refine uC _ hg ?_
    have hc := atL (a := Nat.gcd n.natAbs d.natAbs) (b := 1) (aaH (aaY b1 b2) (by omega)) (aaH (aaG (by omega)) (by omega))
    rw [arG] at hc
    refine uC _ hc ?_
    by_cases hcop : n.natAbs.Coprime d.natAbs
    ·rw [dif_pos ⟨hp, hcop⟩] at hs
     have hs' : rdF (s, t, u) = some ⟨n, d.natAbs, by omega, hcop⟩ := hs
     rw [hs'] at h
     refine uF ?_ h
     have : atF (Nat.gcd n.natAbs d.natAbs) 1 = 0 := (aMF _).2 hcop
     show (atF (Nat.gcd n.natAbs d.natAbs) 1 != 0) = false
     rw [this]; rfl
    ·rw [dif_neg (fun h => hcop h.2)] at hs
     have hs' : rdF (s, t, u) = none := hs
     rw [hs'] at h
     refine uT ?_ h
     show (atF (Nat.gcd n.natAbs d.natAbs) 1 != 0) = true
     rw [bne_iff_ne]
     exact fun h2 => hcop ((aMF _).1 h2)
   ·rw [dif_neg (fun h => hp h.1)] at hs
    have hs' : rdF (s, t, u) = none := hs
    rw [hs'] at h
    refine uT ?_ h
    rcases Int.lt_or_le d 0 with h0 | h0
    ·rw [Int.sign_eq_neg_one_of_neg h0]; rfl
    ·have : d = 0 := by omega
     rw [this]; rfl
theorem aaQ {s : FxT} {q : Rat} (h : rdF s = some q) : abL (s, ()) = some (rt q, true, ()) := by unfold abL; dsimp only; rw [h]
theorem aaR {s : FxT} (h : rdF s = none) : abL (s, ()) = some ((([], false, ()), [], ()), false, ()) := by unfold abL; dsimp only; rw [h]
theorem aeE {k j : Nat} {q : Rat} (h : BdQ k q) (hk : k ≤ j) : BdQ j q := ⟨aaH h.1 hk, aaH h.2 hk⟩
theorem agD {s : FxT} {q : Rat} (h : rdF s = some q) : BdQ 0 q := by
 obtain ⟨h1, h2⟩ := (agP h).1
 exact ⟨apW h1, apW h2⟩
theorem aGl {k : Nat} {p q : Rat} (h1 : BdQ k p) (h2 : BdQ k q) : BdQ (k + 2) (p + q) := by
 obtain ⟨g, h', top, t, hg, ht, hh, g0, h0, htt, e1, e2⟩ := aEh p q
 refine ⟨?_, ?_⟩
 ·rw [e1, ← acS htt h0]
  refine aaS _ ?_
  rw [ht]
  exact aaE (aaB h1.1 (aaP (aaS _ h2.2))) (aaB h2.1 (aaP (aaS _ h1.2)))
 ·rw [e2]
  exact aaH (aaW (aaS _ h1.2) (aaS _ h2.2)) (by omega)
theorem aQx {k : Nat} {p : Rat} (h1 : BdQ k p) : BdQ k (-p) := ⟨aaV h1.1, h1.2⟩
theorem aQw {k : Nat} {p q : Rat} (h1 : BdQ k p) (h2 : BdQ k q) : BdQ (k + 2) (p - q) := by
 rw [Rat.sub_eq_add_neg]; exact aGl h1 (aQx h2)
theorem aMR {k : Nat} {p q : Rat} (h1 : BdQ k p) (h2 : BdQ k q) : BdQ (k + 2) (p * q) := by
 obtain ⟨g, h', s, t, hg, hh, g0, h0, hs, ht, e1, e2⟩ := aDk p q
 refine ⟨?_, ?_⟩
 ·rw [e1]
  refine aaH (aaB (k := k) ?_ ?_) (by omega)
  ·rw [← acS hs g0]; exact aaS _ h1.1
  ·rw [← acS ht h0]; exact aaS _ h2.1
 ·rw [e2]
  exact aaH (aaW (aaS _ h1.2) (aaS _ h2.2)) (by omega)
theorem aMT {k : Nat} {p : Rat} (h : BdQ k p) (h0 : p ≠ 0) : BdQ k p⁻¹ := by
 obtain ⟨e1, e2, e3⟩ := aDs h0
 exact ⟨by rw [e1]; exact h.2, by rw [e3]; exact h.1⟩
theorem aMb (a b : FxT) (y) (h : adO (a, b, ()) = some y) : (aFY a b).toO = some y := by
 unfold adO aNo at h
 dsimp only at h
 unfold aFY
 refine uV (uV ?_)
 cases ha : rdF a with
 | none =>
  simp only [ha] at h
  cases hb : rdF b with
  | none => exact uC _ (aaR ha) (uC _ (aaR hb) (uT rfl (uV (uV h))))
  | some q => exact uC _ (aaR ha) (uC _ (aaQ hb) (uT rfl (uV (uV h))))
 | some p =>
  cases hb : rdF b with
  | none =>
   simp only [ha, hb] at h
   exact uC _ (aaQ ha) (uC _ (aaR hb) (uF rfl (uT rfl (uV (uV h)))))
  | some q =>
   simp only [ha, hb] at h
   have b1 := agD ha
   have b2 := agD hb
   refine uC _ (aaQ ha) (uC _ (aaQ hb) (uF rfl (uF rfl ?_)))
   refine uC _ (aHD (aeE b1 (by omega)) (aeE b2 (by omega))) (uV (uV ?_))
   exact uC _ (ajP (aeE (aGl b1 b2) (by omega))) h
theorem aL5 (a b : FxT) (y) (h : afW (a, b, ()) = some y) : (aFS a b).toO = some y := by
 unfold afW aNo at h
 dsimp only at h
 unfold aFS
 refine uV (uV ?_)
 cases ha : rdF a with
 | none =>
  simp only [ha] at h
  cases hb : rdF b with
  | none => exact uC _ (aaR ha) (uC _ (aaR hb) (uT rfl (uV (uV h))))
  | some q => exact uC _ (aaR ha) (uC _ (aaQ hb) (uT rfl (uV (uV h))))
 | some p =>
  cases hb : rdF b with
  | none =>
   simp only [ha, hb] at h
   exact uC _ (aaQ ha) (uC _ (aaR hb) (uF rfl (uT rfl (uV (uV h)))))
  | some q =>
   simp only [ha, hb] at h
   have b1 := agD ha
   have b2 := agD hb
   refine uC _ (aaQ ha) (uC _ (aaQ hb) (uF rfl (uF rfl ?_)))
   refine uC _ (aO9 (aeE b1 (by omega)) (aeE b2 (by omega))) (uV (uV ?_))
   exact uC _ (ajP (aeE (aQw b1 b2) (by omega))) h
theorem aL6 (a b : FxT) (y) (h : ad8 (a, b, ()) = some y) : (aFT a b).toO = some y := by
 unfold ad8 aNo at h
 dsimp only at h
 unfold aFT
 refine uV (uV ?_)
 cases ha : rdF a with
 | none =>
  simp only [ha] at h
  cases hb : rdF b with
  | none => exact uC _ (aaR ha) (uC _ (aaR hb) (uT rfl (uV (uV h))))
  | some q => exact uC _ (aaR ha) (uC _ (aaQ hb) (uT rfl (uV (uV h))))
 | some p =>
  cases hb : rdF b with
  | none =>
   simp only [ha, hb] at h
   exact uC _ (aaQ ha) (uC _ (aaR hb) (uF rfl (uT rfl (uV (uV h)))))
  | some q =>
   simp only [ha, hb] at h
   have b1 := agD ha
   have b2 := agD hb
   refine uC _ (aaQ ha) (uC _ (aaQ hb) (uF rfl (uF rfl ?_)))
   refine uC _ (aHC (aeE b1 (by omega)) (aeE b2 (by omega))) (uV (uV ?_))
   exact uC _ (ajP (aeE (aMR b1 b2) (by omega))) h
theorem aL8 (a b : FxT) (y) (h : afF (a, b, ()) = some y) : (aFV a b).toO = some y := by
 unfold afF at h
 dsimp only at h
 unfold aFV
 cases ha : rdF a with
 | none =>
  simp only [ha] at h
  cases hb : rdF b with
  | none => exact uC _ (aaR ha) (uC _ (aaR hb) (uT rfl h))
  | some q => exact uC _ (aaR ha) (uC _ (aaQ hb) (uT rfl h))
 | some p =>
  cases hb : rdF b with
  | none =>
   simp only [ha, hb] at h
   exact uC _ (aaQ ha) (uC _ (aaR hb) (uF rfl (uT rfl h)))
  | some q =>
   simp only [ha, hb] at h
   have b1 := agD ha
   have b2 := agD hb
   refine uC _ (aaQ ha) (uC _ (aaQ hb) (uF rfl (uF rfl ?_)))
   refine uC _ (aqL _) ?_
   by_cases h0 : q = 0
   ·rw [if_pos h0] at h
    exact uT (decide_eq_true (by rw [h0]; rfl)) h
   ·rw [if_neg h0] at h
    have := aPp h0
    refine uF sd ?_
    refine uC _ (aEp (aeE b2 (by omega)) h0) ?_
    refine uC _ (aHC (aeE b1 (by omega)) (aeE (aMT b2 h0) (by omega))) ?_
    exact uC _ (ajP (aeE (aMR b1 (aMT b2 h0)) (by omega))) h
theorem aL9 (a b : FxT) (y) (h : afX (a, b, ()) = some y) : (aFW a b).toO = some y := by
 unfold afX at h
 dsimp only at h
 unfold aFW
 refine uV (uV ?_)
 cases ha : rdF a with
 | none =>
  simp only [ha] at h
  cases hb : rdF b with
  | none => exact uC _ (aaR ha) (uC _ (aaR hb) (uT rfl h))
  | some q => exact uC _ (aaR ha) (uC _ (aaQ hb) (uT rfl h))
 | some p =>
  cases hb : rdF b with
  | none =>
   simp only [ha, hb] at h
   exact uC _ (aaQ ha) (uC _ (aaR hb) (uF rfl (uT rfl h)))
  | some q =>
   simp only [ha, hb] at h
   have b1 := agD ha
   have b2 := agD hb
   exact uC _ (aaQ ha) (uC _ (aaQ hb) (uF rfl (uF rfl (uC _ (aJR (aeE b1 (by omega)) (aeE b2 (by omega))) h))))
theorem aFX (a : FxT) (y) (h : aqG (a, ()) = some y) : (awC a).toO = some y := by
 unfold aqG at h
 dsimp only at h
 unfold awC
 cases ha : rdF a with
 | none =>
  simp only [ha] at h
  exact uC _ (aaR ha) (uT rfl h)
 | some q =>
  simp only [ha] at h
  exact uC _ (aaQ ha) (uF rfl h)
theorem aJb (a : FxT) (y) (h : aqE (a, ()) = some y) : (aBz a).toO = some y := by
 unfold aqE at h
 dsimp only at h
 unfold aBz
 cases ha : rdF a with
 | none =>
  simp only [ha] at h
  exact uC _ (aaR ha) (uT rfl h)
 | some q =>
  simp only [ha] at h
  exact uC _ (aaQ ha) (uF rfl (uC _ (axY (aaH (agD ha).1 (by omega))) h))
theorem aQh {z : Int} (h : Fit z) : (mag z.natAbs).length ≤ 600 := aiJ h
theorem aPt {n : Nat} (h : (mag n).length ≤ 1000000) : Bd 0 n := h
theorem aPq {a : Int} {d : Nat} {k : Nat} (h : (mag a.natAbs).length ≤ k) (hk : 1 ≤ k) : (mag (a / (d : Int)).natAbs).length ≤ k + 1 := by
 rcases Nat.eq_zero_or_pos d with h0 | h0
 ·subst h0
  simp only [Int.natCast_zero, Int.ediv_zero, Int.natAbs_zero, mag_zero]
  simp
 ·have hle : (a / (d : Int)).natAbs ≤ a.natAbs + 1 := by
   rcases Int.lt_or_le a 0 with h1 | h1
   ·rw [arQ h1 (by omega), Int.natAbs_neg, Int.natAbs_natCast]
    have := Nat.div_le_self a.natAbs d
    split <;> omega
   ·obtain ⟨n, rfl⟩ := Int.eq_ofNat_of_zero_le h1
    have : ((n : Int) / (d : Int)) = ((n / d : Nat) : Int) := by simp
    rw [this, Int.natAbs_natCast]
    have := Nat.div_le_self n d
    omega
  have h2 := abQ hle
  have h3 := aiI a.natAbs 1
  have h4 : (mag 1).length = 1 := by rw [arG]; rfl
  omega
theorem aFU (a : FxT) (y) (h : ajL (a, ()) = some y) : (awB a).toO = some y := by
 unfold ajL at h
 dsimp only at h
 unfold awB
 cases ha : rdF a with
 | none =>
  simp only [ha] at h
  exact uC _ (aaR ha) (uT rfl h)
 | some q =>
  simp only [ha] at h
  have b := agD ha
  refine uC _ (aaQ ha) (uF rfl ?_)
  refine uC _ (aAy (aaH b.1 (by omega)) (aaH b.2 (by omega)) q.den_nz) ?_
  refine uC _ (axX (aPt ?_)) h
  have := aPq (d := q.den) (aQh (agP ha).1.1) (by omega)
  omega
theorem aJd (n d : List UInt8) (y) (h : aqF (n, d, ()) = some y) : (aBB n d).toO = some y := by
 unfold aqF at h
 dsimp only at h
 unfold aBB
 cases hn : rdW n with
 | none =>
  simp only [hn] at h
  exact uC _ (adR n) (uT (by rw [hn]; rfl) h)
 | some a =>
  cases hd : rdW d with
  | none =>
   simp only [hn, hd] at h
   exact uC _ (adR n) (uF (by rw [hn]; rfl) (uC _ (adR d) (uT (by rw [hd]; rfl) h)))
  | some b =>
   simp only [hn, hd] at h
   have b1 := am8 hn
   have b2 := am8 hd
   refine uC _ (adR n) (uF (by rw [hn]; rfl) (uC _ (adR d) (uF (by rw [hd]; rfl) ?_)))
   refine uC (sg a, ()) (by rw [(aeH hn).2]; exact am4 (aaH b1 (by omega))) ?_
   refine uC (sg b, ()) (by rw [(aeH hd).2]; exact am4 (aaH b2 (by omega))) ?_
   refine uC _ (aqL _) ?_
   unfold ofQ at h
   by_cases h0 : b = 0
   ·rw [if_pos h0] at h
    exact uT sd h
   ·rw [if_neg h0] at h
    refine uF sd ?_
    obtain ⟨s, hs, hv⟩ : ∃ s : Int, s.natAbs = a.natAbs ∧ (s = 0 ∨ (!(decide (a < 0) == decide (b < 0))) = decide (s < 0)) ∧ Rat.divInt a b = mkRat s b.natAbs := by
     rcases Int.lt_or_le b 0 with c | c
     ·refine ⟨-a, by omega, ?_, ?_⟩
      ·by_cases ha : a = 0
       ·left; omega
       ·right
        rw [decide_eq_true c]
        rcases Int.lt_or_le a 0 with c2 | c2
        ·rw [decide_eq_true c2, decide_eq_false (by omega)]; rfl
        ·rw [decide_eq_false (by omega), decide_eq_true (by omega)]; rfl
      ·rw [← Rat.neg_divInt_neg, ← Rat.divInt_ofNat]
       congr 1; omega
     ·refine ⟨a, rfl, ?_, ?_⟩
      ·right
       rw [decide_eq_false (show ¬ b < 0 by omega)]
       cases decide (a < 0) <;> rfl
      ·rw [← Rat.divInt_ofNat]
       congr 1; omega
    obtain ⟨hv1, hv2⟩ := hv
    rw [hv2] at h
    refine uC (sg s, ()) (abT hs.symm hv1) ?_
    refine uC _ (aGw (by rw [hs]; exact aaH b1 (by omega)) (aaH b2 (by omega)) (by omega)) ?_
    refine uC _ (ajP ?_) h
    obtain ⟨g, t, hg, g0, e0, e1, e2⟩ := aeK s (d := b.natAbs) (by omega)
    refine ⟨?_, ?_⟩
    ·rw [e1, ← acS e0 g0, hs]; exact aaH (aaS _ b1) (by omega)
    ·rw [e2]; exact aaH (aaS _ b2) (by omega)
theorem abH {z : Int} (h : aa9 z) : Fit z := by
 unfold aa9 at h
 have : (aa2 z.natAbs).length ≤ 20 := (abD (by omega)).2 (by omega)
 unfold Fit; omega
theorem aON (n d : Int) (y) (h : alY (n, d, ()) = some y) : (aPr n d).toO = some y := by
 unfold alY at h
 split at h
 ·rename_i hp
  refine uC _ (aNf hp.1) (uC _ (aNf hp.2) ?_)
  refine uC (ofQ n d) ?_ h
  unfold aqF
  simp only [ak5 (abH hp.1), ak5 (abH hp.2)]
 ·cases h
theorem axR {z : Int} (h : Fit z) : akL (dec z, ()) = some (if aa9 z then (z, 0, ()) else (0, 6, ())) := by
 unfold akL
 simp only [ak5 h]
theorem azW {z : Int} (h : Fit z) : (mag z.natAbs).length ≤ 67 := by
 have hl : (aa2 z.natAbs).length ≤ 600 := h
 obtain ⟨L, hL⟩ : ∃ L : Nat, L = 67 := ⟨_, rfl⟩
 rw [← hL, mag_length_le_iff]
 have h1 := afM z.natAbs
 have h3 : (10 : Nat) ^ (9 * L) = 1000000000 ^ L := by rw [Nat.pow_mul]
 have h2 : (10 : Nat) ^ (aa2 z.natAbs).length ≤ 10 ^ (9 * L) := Nat.pow_le_pow_right (by omega) (by omega)
 omega
theorem aOq {q : Rat} (h : adE q) {s : Nat} (hs : s ≤ 1000000000000) : (mag (ao4 q s).natAbs).length ≤ 200 := by
 rw [aLz]
 have h1 := azW h.1
 have h2 := azW h.2
 have hs2 : (mag (s * 2)).length ≤ 2 := mag_length_le_iff.2 (by omega)
 have e1 : (mag (q.num * (s * 2 : Nat) + q.den).natAbs).length ≤ 100 := by
  have a1 := Int.natAbs_add_le (q.num * (s * 2 : Nat)) q.den
  have a2 := abQ a1
  have a3 := aiI (q.num * (s * 2 : Nat)).natAbs (q.den : Int).natAbs
  rw [Int.natAbs_mul] at a3 a2
  have a4 := af5 q.num.natAbs ((s * 2 : Nat) : Int).natAbs
  simp only [Int.natAbs_natCast] at a1 a2 a3 a4 h2 ⊢
  omega
 have := aPq (d := q.den * 2) e1 (by omega)
 omega
theorem aJc (a : FxT) (scale : Int) (y) (h : akN (a, scale, ()) = some y) : (aBA a scale).toO = some y := by
 unfold akN at h
 dsimp only at h
 unfold aBA
 cases ha : rdF a with
 | none =>
  simp only [ha] at h
  exact uC _ (aaR ha) (uT rfl h)
 | some q =>
  simp only [ha] at h
  refine uC _ (aaQ ha) (uF rfl ?_)
  have hq := (agP ha).1
  have hb := agD ha
  by_cases h1 : scale < 1
  ·rw [if_pos (Or.inl h1)] at h
   exact uT (decide_eq_true h1) h
  by_cases h2 : scale > 1000000000000
  ·rw [if_pos (Or.inr h2)] at h
   exact uF (decide_eq_false h1) (uT (decide_eq_true h2) h)
  rw [if_neg (by omega)] at h
  obtain ⟨s, rfl⟩ := Int.eq_ofNat_of_zero_le (show 0 ≤ scale by omega)
  rw [Int.toNat_natCast] at h
  refine uF (decide_eq_false h1) (uF (decide_eq_false h2) ?_)
  have hl := aOq hq (s := s) (by omega)
  refine uC (mag s, ()) (by rw [aaO (by omega)]; exact aCb (by omega)) ?_
  refine uC _ (aNj (aeE hb (by omega)) (aaH (aaG (by omega)) (by omega))) ?_
  refine uC _ (axX (aPt (by omega))) ?_
  by_cases hf : Fit (ao4 q s)
  ·refine uC _ (axR hf) ?_
   by_cases hi : aa9 (ao4 q s)
   ·simp only [if_pos hi] at h ⊢
    exact uF rfl h
   ·simp only [if_neg hi] at h ⊢
    exact uT rfl h
  ·have hn : rdW (dec (ao4 q s)) = none := aGL fun z hz he => hf (by rw [← aj7 he]; exact hz)
   rw [if_neg (fun h => hf (abH h))] at h
   refine uC (0, 10, ()) (by unfold akL; simp only [hn]) (uT rfl h)
theorem acN {z : Int} (h : Fit z) : acU (sg z, ()) = some (dec z, 0, ()) := by
 rw [aqJ (aaH (apW h) (by omega)), aiF h]
theorem ae4 {a b : Int} (h : Fit b) (hab : a.natAbs ≤ b.natAbs) : Fit a := by
 unfold Fit at *
 rw [abD (by omega)] at *
 omega
theorem aOT {a b : Int} (hb : b ≠ 0) : (a < 0 → (a / b).natAbs = (if a.natAbs % b.natAbs = 0 then a.natAbs / b.natAbs else a.natAbs / b.natAbs + 1) ∧ (a % b).natAbs = (if a.natAbs % b.natAbs = 0 then 0 else b.natAbs - a.natAbs % b.natAbs)) ∧ (0 ≤ a → (a / b).natAbs = a.natAbs / b.natAbs ∧ (a % b).natAbs = a.natAbs % b.natAbs) := by
 obtain ⟨d, hd, hbd⟩ : ∃ d : Nat, b.natAbs = d ∧ (b = d ∨ b = -(d : Int)) := ⟨b.natAbs, rfl, by omega⟩
 have hd0 : d ≠ 0 := by omega
 have e1 : (a / b).natAbs = (a / (d : Int)).natAbs := by
  rcases hbd with h | h
  ·rw [h]
  ·rw [h, Int.ediv_neg, Int.natAbs_neg]
 have e2 : a % b = a % (d : Int) := by
  rcases hbd with h | h
  ·rw [h]
  ·rw [h, Int.emod_neg]
 rw [e1, e2, hd]
 constructor
 ·intro ha
  have h1 := arQ ha hd0
  have h2 := Int.emod_add_mul_ediv a d
  have h3 := Nat.mod_add_div a.natAbs d
  have h4 := Nat.mod_lt a.natAbs (show 0 < d by omega)
  generalize hq : a.natAbs / d = q at *
  generalize hr : a.natAbs % d = r at *
  rw [h1] at h2
  constructor
  ·rw [h1, Int.natAbs_neg, Int.natAbs_natCast]
  ·by_cases h0 : r = 0
   ·rw [if_pos h0] at h2 ⊢
    have : (a.natAbs : Int) = ((r + d * q : Nat) : Int) := by rw [h3]
    rw [Int.natCast_add, Int.natCast_mul] at this
    have e3 : (d : Int) * -(q : Int) = -((d : Int) * q) := by rw [Int.mul_neg]
    rw [e3] at h2
    generalize (d : Int) * q = w at *
    omega
   ·rw [if_neg h0] at h2 ⊢
    have : (a.natAbs : Int) = ((r + d * q : Nat) : Int) := by rw [h3]
    rw [Int.natCast_add, Int.natCast_mul] at this
    have e3 : (d : Int) * -(((q + 1 : Nat)) : Int) = -((d : Int) * q) - d := by rw [Int.mul_neg, Int.natCast_add, Int.mul_add]; simp; omega
    rw [e3] at h2
    generalize (d : Int) * q = w at *
    omega
 ·intro ha
  obtain ⟨n, rfl⟩ := Int.eq_ofNat_of_zero_le ha
  have h1 : ((n : Int) / (d : Int)) = ((n / d : Nat) : Int) := by simp
  have h2 : ((n : Int) % (d : Int)) = ((n % d : Nat) : Int) := by simp
  exact ⟨by rw [h1, Int.natAbs_natCast, Int.natAbs_natCast], by rw [h2, Int.natAbs_natCast, Int.natAbs_natCast]⟩
theorem aMl {a b : Int} (hb : b ≠ 0) : a / b = 0 ∨ (!(decide (a < 0) == decide (b < 0))) = decide (a / b < 0) := by
 by_cases h0 : a / b = 0
 ·exact Or.inl h0
 ·right
  rcases Int.lt_or_le a 0 with ha | ha <;> rcases Int.lt_or_le b 0 with hb' | hb'
  ·have := Int.ediv_nonneg_of_nonpos_of_nonpos (Int.le_of_lt ha) (Int.le_of_lt hb')
   rw [decide_eq_true ha, decide_eq_true hb', decide_eq_false (by omega)]; rfl
  ·have := Int.ediv_neg_of_neg_of_pos ha (show 0 < b by omega)
   rw [decide_eq_true ha, decide_eq_false (by omega), decide_eq_true (by omega)]; rfl
  ·have := Int.ediv_nonpos_of_nonneg_of_nonpos ha (Int.le_of_lt hb')
   rw [decide_eq_false (by omega), decide_eq_true hb', decide_eq_true (by omega)]; rfl
  ·have := Int.ediv_nonneg ha hb'
   rw [decide_eq_false (by omega), decide_eq_false (by omega), decide_eq_false (by omega)]; rfl
theorem aKa (a b : List UInt8) (y) (h : asB (a, b, ()) = some y) : (aEH a b).toO = some y := by
 unfold asB at h
 dsimp only at h
 unfold aEH aqQ
 cases hr : rdW a with
 | none =>
  simp only [hr] at h
  exact uC (([], false, ()), ([], false, ()), 10, ()) (by unfold afB; simp only [hr]) (uT rfl h)
 | some z =>
  cases hb : rdW b with
  | none =>
   simp only [hr, hb] at h
   exact uC (([], false, ()), ([], false, ()), 10, ()) (by unfold afB; simp only [hr, hb]) (uT rfl h)
  | some w =>
   simp only [hr, hb] at h
   have b1 := am8 hr
   have b2 := am8 hb
   have f1 := (aeH hr).1
   have f2 := (aeH hb).1
   refine uC (sg z, sg w, 0, ()) (by unfold afB; simp only [hr, hb]) (uF rfl ?_)
   refine uC _ (axN _) ?_
   by_cases h0 : w = 0
   ·rw [if_pos h0] at h
    exact uT sd h
   rw [if_neg h0] at h
   refine uF sd ?_
   have hdv := axP (a := z.natAbs) (b := w.natAbs) (aaH b1 (by omega)) (aaH b2 (by omega)) (by omega)
   obtain ⟨en, ep⟩ := aOT (a := z) h0
   have hsg := aMl (a := z) h0
   have hr0 := Int.emod_nonneg z h0
   have hrlt : (z % w).natAbs < w.natAbs := by
    rcases Int.lt_or_le w 0 with c | c
    ·have := Int.emod_lt_of_pos z (show 0 < -w by omega)
     rw [Int.emod_neg] at this
     omega
    ·have := Int.emod_lt_of_pos z (show 0 < w by omega)
     omega
   have fr : Fit (z % w) := ae4 f2 (by omega)
   have hq1 := Nat.div_le_self z.natAbs w.natAbs
   have fq : Fit (z / w) := by
    refine ae4 f1 ?_
    rcases Int.lt_or_le z 0 with c | c
    ·rw [(en c).1]
     split
     ·exact hq1
     ·rename_i hm
      have : 2 ≤ w.natAbs := by
       rcases Nat.lt_or_ge w.natAbs 2 with c2 | c2
       ·have : w.natAbs = 1 := by omega
        rw [this, Nat.mod_one] at hm; exact absurd rfl hm
       ·exact c2
      have h2 := Nat.div_le_div_left this (show 0 < 2 by omega) (a := z.natAbs)
      omega
    ·rw [(ep c).1]; exact hq1
   have tail : ∀ (q r : Nat) (b : Bool), q = (z / w).natAbs → r = (z % w).natAbs → (b = (!(decide (z < 0) == decide (w < 0)))) → ah7 (mag q, b, ()) = some (sg (z / w), ()) ∧ ah7 (mag r, false, ()) = some (sg (z % w), ()) := by
    intro q r b hq hr2 hb2
    refine ⟨aAs hq ?_, aAs hr2 (Or.inr (decide_eq_false (by omega)).symm)⟩
    rw [hb2]; exact hsg
   refine uC _ hdv ?_
   by_cases c : z < 0
   ·refine uT (decide_eq_true c) ?_
    refine uC _ (axN _) ?_
    obtain ⟨g1, g2⟩ := en c
    by_cases hm : z.natAbs % w.natAbs = 0
    ·rw [if_pos hm] at g1 g2
     obtain ⟨u1, u2⟩ := tail _ _ (!(decide (z < 0) == decide (w < 0))) g1.symm (hm.trans g2.symm) rfl
     refine uF (by show (!decide _) = false; rw [decide_eq_true hm]; rfl) ?_
     refine uC _ u1 (uC _ (acN fq) (uF rfl ?_))
     exact uC _ u2 (uC _ (acN fr) (uF rfl h))
    ·rw [if_neg hm] at g1 g2
     have hlt := Nat.mod_lt z.natAbs (show 0 < w.natAbs by omega)
     obtain ⟨u1, u2⟩ := tail _ _ (!(decide (z < 0) == decide (w < 0))) g1.symm g2.symm rfl
     refine uT (by show (!decide _) = true; rw [decide_eq_false hm]; rfl) ?_
     have hp := aEl (a := z.natAbs / w.natAbs) (b := 1) (aaH (aaS _ b1) (by omega)) (aaH (aaG (by omega)) (by omega))
     rw [arG] at hp
     refine uC _ hp ?_
     refine uC _ (aJM (aaH b2 (by omega)) (by omega)) ?_
     refine uC _ u1 (uC _ (acN fq) (uF rfl ?_))
     exact uC _ u2 (uC _ (acN fr) (uF rfl h))
   ·refine uF (decide_eq_false c) ?_
    obtain ⟨g1, g2⟩ := ep (by omega)
    obtain ⟨u1, u2⟩ := tail _ _ (!(decide (z < 0) == decide (w < 0))) g1.symm g2.symm rfl
    refine uC _ u1 (uC _ (acN fq) (uF rfl ?_))
    exact uC _ u2 (uC _ (acN fr) (uF rfl h))
theorem am9 (n : Nat) : ∀ k : Nat, (mag (n ^ k)).length ≤ k * (mag n).length + 1
 | 0 => by simp [arG]
 | k + 1 => by
  have h1 := am9 n k
  have h2 := af5 (n ^ k) n
  rw [Nat.pow_succ, Nat.add_mul]
  rcases Nat.eq_zero_or_pos (mag n).length with h3 | h3
  ·have : n = 0 := mag_nil_iff.1 (List.length_eq_zero_iff.1 h3)
   subst this
   simp [mag_zero]
  ·omega
theorem aAr {a n : Nat} (h1 : Bd 2 a) (h2 : n ≤ 40) : ai9 (mag a, (n : Int), ()) = some (mag (a ^ n), ()) := by
 refine aaI (enc := fun x : Nat × Nat => (mag x.1, (x.2 : Int), ())) (a, n) ⟨h1, h2⟩ (fun b hb => ?_)
 obtain ⟨e1, e2⟩ := Prod.mk.inj hb
 obtain ⟨e2, -⟩ := Prod.mk.inj e2
 exact Prod.ext (adI e1) (Int.ofNat.inj e2)
theorem aMU {a n : Nat} (h1 : Bd 2 a) (h2 : n ≤ 40) : Bd 7 (a ^ n) := by
 have h3 := am9 a n
 unfold Bd at *
 have h4 : n * (mag a).length ≤ 40 * (1000000 * 4 ^ 2) := Nat.mul_le_mul h2 h1
 omega
theorem aCn (m : List Int) (n : Int) (y) (h : ai9 (m, n, ()) = some y) : (ayX m n).toO = some y := by
 obtain ⟨⟨a, k⟩, hp, hx, rfl⟩ := aaD h
 obtain ⟨rfl, hx2⟩ := Prod.mk.inj hx; obtain ⟨rfl, -⟩ := Prod.mk.inj hx2; dsimp only
 obtain ⟨l1, l2⟩ := hp
 simp only at l1 l2
 refine uO (0, [1], ()) rfl ?_
 refine aaN (fun i : Int × List Int × Unit => ∃ j : Nat, j ≤ k ∧ i = ((j : Int), mag (a ^ j), ())) (fun i => ((k : Int) - i.1).toNat) (fun _ => (mag (a ^ k), ())) ?_ _ ⟨0, by omega, by rw [Nat.pow_zero, arG]; rfl⟩
 rintro i ⟨j, hj, rfl⟩
 simp only [auJ]
 rcases Nat.lt_or_ge j k with h1 | h1
 ·left
  refine ⟨(((j + 1 : Nat) : Int), mag (a ^ (j + 1)), ()), ?_, ⟨j + 1, by omega, rfl⟩, by simp only; omega, (by first | exact True.intro | rfl)⟩
  refine uT sd ?_
  refine uC (mag (a ^ (j + 1)), ()) (by rw [asE (aaH l1 (by omega)) (aaH (aMU l1 (by omega)) (by omega)), Nat.pow_succ, Nat.mul_comm]) ?_
  repeat (first | refine uV ?_ | refine uB ?_ | refine uN sd ?_ | refine uT sd ?_ | refine uF sd ?_ | refine uN (by simp) ?_)
  simp (disch := omega) only [aaK, aaA, aaO, aa0, abN, aaM, Nat.zero_add, Int.toNat_natCast, aaC, List.take_length]
  rfl
 ·right
  have : j = k := by omega
  subst this
  refine uF sd rfl
theorem aJ7 (a : List UInt8) (n : Int) (y) (h : alV (a, n, ()) = some y) : (aEE a n).toO = some y := by
 unfold alV at h
 dsimp only at h
 unfold aEE
 cases hr : rdW a with
 | none =>
  simp only [hr] at h
  exact uC _ (acY hr) (uT rfl h)
 | some z =>
  simp only [hr] at h
  have b1 := am8 hr
  refine uC _ (acX hr) (uF rfl ?_)
  by_cases h1 : n < 0
  ·rw [if_pos (Or.inl h1)] at h
   exact uT (decide_eq_true h1) h
  by_cases h2 : n > 40
  ·rw [if_pos (Or.inr h2)] at h
   exact uF (decide_eq_false h1) (uT (decide_eq_true h2) h)
  rw [if_neg (by omega)] at h
  obtain ⟨k, rfl⟩ := Int.eq_ofNat_of_zero_le (show 0 ≤ n by omega)
  rw [Int.toNat_natCast] at h
  refine uF (decide_eq_false h1) (uF (decide_eq_false h2) ?_)
  have hk : k ≤ 40 := by omega
  refine uC _ (aAr (aaH b1 (by omega)) hk) ?_
  have bp := aMU (aaH b1 (show 0 ≤ 2 by omega)) hk
  have hw : acU (sg (z ^ k), ()) = some (wrW (z ^ k)) := aqJ (by rw [Int.natAbs_pow]; exact aaH bp (by omega))
  by_cases hz : z < 0
  ·refine uT (decide_eq_true hz) (uV ?_)
   refine uC (sg (z ^ k), ()) (aAs (by rw [Int.natAbs_pow]) ?_) (uC _ hw h)
   right
   obtain ⟨w, hw0, rfl⟩ : ∃ w : Int, 0 < w ∧ z = -w := ⟨-z, by omega, by omega⟩
   rw [Int.tmod_eq_emod_of_nonneg (by omega)]
   have hpos : 0 < w ^ k := Int.pow_pos hw0
   rcases Nat.mod_two_eq_zero_or_one k with hm | hm
   ·have e : (-w) ^ k = w ^ k := by
     obtain ⟨j, rfl⟩ : ∃ j, k = 2 * j := ⟨k / 2, by omega⟩
     rw [Int.pow_mul, Int.pow_mul]; congr 1; simp only [Int.pow_succ, Int.pow_zero, Int.one_mul, Int.neg_mul_neg]
    rw [e, decide_eq_false (show ¬ w ^ k < 0 by omega)]
    rw [beq_eq_false_iff_ne]; omega
   ·have e : (-w) ^ k = -(w ^ k) := by
     obtain ⟨j, rfl⟩ : ∃ j, k = 2 * j + 1 := ⟨k / 2, by omega⟩
     rw [Int.pow_succ, Int.pow_succ, Int.pow_mul, Int.pow_mul]
     have : (-w) ^ 2 = w ^ 2 := by simp only [Int.pow_succ, Int.pow_zero, Int.one_mul, Int.neg_mul_neg]
     rw [this, Int.mul_neg]
    rw [e, decide_eq_true (show -(w ^ k) < 0 by omega)]
    rw [beq_iff_eq]; omega
  ·refine uF (decide_eq_false hz) ?_
   have : 0 ≤ z ^ k := Int.pow_nonneg (by omega)
   refine uC (sg (z ^ k), ()) (aAs (by rw [Int.natAbs_pow]) (Or.inr (decide_eq_false (by omega)).symm)) (uC _ hw h)
theorem aGv {n : Nat} (h : n ≤ 100000000) : akK ((n : Int), ()) = some (mag (10 ^ n), ()) := aaI (enc := fun x : Nat => ((x : Int), ())) n h (fun b hb => Int.ofNat.inj (Prod.mk.inj hb).1)
theorem aAB (n : Int) (y) (h : akK (n, ()) = some y) : (anI n).toO = some y := by
 obtain ⟨k, hp, hx, rfl⟩ := aaD h
 obtain ⟨rfl, -⟩ := Prod.mk.inj hx
 have e1 : Int.tdiv (k : Int) 9 = ((k / 9 : Nat) : Int) := by rw [Int.tdiv_eq_ediv_of_nonneg (by omega)]; omega
 have e2 : Int.tmod (k : Int) 9 = ((k % 9 : Nat) : Int) := by rw [Int.tmod_eq_emod_of_nonneg (by omega)]; omega
 have e3 : w64 ((k / 9 : Nat) : Int) = ((k / 9 : Nat) : Int) := aaA (by omega)
 have e4 : w64 (((k / 9 : Nat) : Int) + 1) = ((k / 9 + 1 : Nat) : Int) := by rw [aaA (by omega)]; omega
 unfold anI
 simp only [e1, e3, e4]
 refine uV (uN (by omega) (uV ?_))
 refine uO (0, 1, ()) rfl ?_
 refine aaN (fun i : Int × Int × Unit => ∃ j : Nat, j ≤ k % 9 ∧ i = ((j : Int), ((10 ^ j : Nat) : Int), ())) (fun i => (((k % 9 : Nat) : Int) - i.1).toNat) (fun _ => (mag (10 ^ k), ())) ?_ _ ⟨0, by omega, rfl⟩
 rintro i ⟨j, hj, rfl⟩
 have hj9 : (10 : Nat) ^ j ≤ 10 ^ 8 := Nat.pow_le_pow_right (by omega) (by omega)
 have hp0 : (0 : Int) ≤ ((10 ^ j : Nat) : Int) := Int.natCast_nonneg _
 have hp8 : ((10 ^ j : Nat) : Int) ≤ 100000000 := Int.ofNat_le.2 hj9
 simp only [asI, e1, e2, e3, e4]
 rcases Nat.lt_or_ge j (k % 9) with h1 | h1
 ·left
  refine ⟨(((j + 1 : Nat) : Int), ((10 ^ (j + 1) : Nat) : Int), ()), ?_, ⟨j + 1, by omega, rfl⟩, by simp only; omega, (by first | exact True.intro | rfl)⟩
  repeat (first | refine uV ?_ | refine uB ?_ | refine uN sd ?_ | refine uT sd ?_ | refine uF sd ?_ | refine uN (by simp) ?_)
  rw [aa0 (x := ((10 ^ j : Nat) : Int) * 10) (by omega), aaA (x := (j : Int) + 1) (by omega), Nat.pow_succ, Int.natCast_mul]
  rfl
 ·right
  have hjk : j = k % 9 := by omega
  refine uF sd (uV (uN sd ?_))
  simp only [Int.toNat_natCast, Nat.zero_add, aaK]
  rw [List.take_of_length_le (by simp)]
  have hd : Dg 1000000000 ((List.replicate (k / 9 + 1) 0).set (k / 9) ((10 ^ j : Nat) : Int)) := aiE (af9 (by omega) _) ⟨by omega, by omega⟩ _
  have hv : V 1000000000 ((List.replicate (k / 9 + 1) 0).set (k / 9) ((10 ^ j : Nat) : Int)) = ((10 ^ k : Nat) : Int) := by
   rw [axF _ (by simp), ar7, aiK (by simp)]
   simp only [List.getElem_replicate, Int.sub_zero, Int.zero_add]
   have : (10 : Nat) ^ k = 1000000000 ^ (k / 9) * 10 ^ j := by
    rw [show (1000000000 : Nat) = 10 ^ 9 by decide, ← Nat.pow_mul, ← Nat.pow_add, hjk, Nat.div_add_mod]
   rw [this]; simp
  rw [ao7 hd (aHH (by omega) hd (Or.inr ?_)) hv]
  rw [hv]
  simp only [List.length_set, List.length_replicate, Nat.add_sub_cancel]
  have h6 : (1000000000 : Nat) ^ (k / 9) ≤ 10 ^ k := by
   rw [show (1000000000 : Nat) = 10 ^ 9 by decide, ← Nat.pow_mul]
   exact Nat.pow_le_pow_right (by omega) (by omega)
  have h7 : ((1000000000 ^ (k / 9) : Nat) : Int) ≤ ((10 ^ k : Nat) : Int) := Int.ofNat_le.2 h6
  simpa using h7
theorem aBj {k n r : Nat} (hk : 1 ≤ k) (h1 : r ^ k ≤ n) (h2 : n < (r + 1) ^ k) : adL k n = r := by
 have hex : ∃ r, r ^ k ≤ n ∧ n < (r + 1) ^ k := ⟨r, h1, h2⟩
 unfold adL
 rw [dif_pos hex]
 obtain ⟨g1, g2⟩ := hex.choose_spec
 generalize hex.choose = q at *
 rcases Nat.lt_trichotomy q r with h | h | h
 ·have := Nat.pow_le_pow_left (show q + 1 ≤ r by omega) k; omega
 ·exact h
 ·have := Nat.pow_le_pow_left (show r + 1 ≤ q by omega) k; omega
theorem aOB (k n : Nat) (hk : 1 ≤ k) : ∃ r, r ^ k ≤ n ∧ n < (r + 1) ^ k := by
 have H : ∀ m, (∃ r, r ^ k ≤ n ∧ n < (r + 1) ^ k) ∨ m ^ k ≤ n := by
  intro m
  induction m with
  | zero => right; rw [Nat.zero_pow hk]; omega
  | succ m ih =>
   rcases ih with h | h
   ·exact Or.inl h
   ·rcases Nat.lt_or_ge n ((m + 1) ^ k) with h2 | h2
    ·exact Or.inl ⟨m, h, h2⟩
    ·exact Or.inr h2
 rcases H (n + 1) with h | h
 ·exact h
 ·have : n + 1 ≤ (n + 1) ^ k := Nat.le_self_pow (by omega) _
  omega
theorem amI {k : Nat} (n : Nat) (hk : 1 ≤ k) : (adL k n) ^ k ≤ n ∧ n < (adL k n + 1) ^ k := by
 obtain ⟨r, h1, h2⟩ := aOB k n hk
 rw [aBj hk h1 h2]; exact ⟨h1, h2⟩
theorem aKg (r x : Int) (hr : 0 ≤ r) (hx : 0 ≤ x) : ∀ k : Nat, x ^ (k + 1) + (k + 1 : Nat) * x ^ k * (r - x) ≤ r ^ (k + 1)
 | 0 => by simp [Int.pow_succ]; omega
 | k + 1 => by
  have ih := aKg r x hr hx k
  have h1 := Int.mul_le_mul_of_nonneg_left ih hr
  have h2 : 0 ≤ (k + 1 : Nat) * x ^ k * ((r - x) * (r - x)) := Int.mul_nonneg (Int.mul_nonneg (by omega) (Int.pow_nonneg hx)) (by
   rcases Int.lt_or_le (r - x) 0 with h | h
   ·exact Int.le_of_lt (Int.mul_pos_of_neg_of_neg h h)
   ·exact Int.mul_nonneg h h)
  have e1 : r ^ (k + 1 + 1) = r * r ^ (k + 1) := by rw [Int.pow_succ, Int.mul_comm]
  have e2 : x ^ (k + 1 + 1) = x * (x * x ^ k) := by rw [Int.pow_succ, Int.pow_succ]; grind
  have e3 : x ^ (k + 1) = x * x ^ k := by rw [Int.pow_succ, Int.mul_comm]
  rw [e1, e2, e3]
  rw [e3] at h1
  have e4 : ((k + 1 + 1 : Nat) : Int) = ((k + 1 : Nat) : Int) + 1 := by omega
  rw [e4]
  generalize ((k + 1 : Nat) : Int) = K at *
  generalize x ^ k = P at *
  generalize r ^ (k + 1) = R at *
  have e5 : r * (x * P + K * P * (r - x)) = x * (x * P) + (K + 1) * (x * P) * (r - x) + K * P * ((r - x) * (r - x)) := by grind
  omega
theorem aLy {m r x k : Nat} (hk : 1 ≤ k) (hx : 0 < x) (h : r ^ k ≤ m) : r ≤ (x * (k - 1) + m / x ^ (k - 1)) / k := by
 rw [Nat.le_div_iff_mul_le (by omega)]
 obtain ⟨j, rfl⟩ : ∃ j, k = j + 1 := ⟨k - 1, by omega⟩
 simp only [Nat.add_sub_cancel]
 rcases Nat.lt_or_ge (x * j) (r * (j + 1)) with h1 | h1
 ·have hp : 0 < x ^ j := Nat.pow_pos hx
  have h2 : r * (j + 1) - x * j ≤ m / x ^ j := by
   rw [Nat.le_div_iff_mul_le hp]
   have ht := aKg (r : Int) (x : Int) (by omega) (by omega) j
   have h3 : ((r ^ (j + 1) : Nat) : Int) ≤ (m : Int) := Int.ofNat_le.2 h
   rw [Int.natCast_pow] at h3
   have h4 : (((r * (j + 1) - x * j) * x ^ j : Nat) : Int) ≤ (m : Int) := by
    rw [Int.natCast_mul, Int.natCast_sub (Nat.le_of_lt h1), Int.natCast_mul, Int.natCast_mul, Int.natCast_pow]
    have e1 : (x : Int) ^ (j + 1) = x * (x : Int) ^ j := by rw [Int.pow_succ, Int.mul_comm]
    rw [e1] at ht
    have e2 : ((j + 1 : Nat) : Int) = (j : Int) + 1 := by omega
    rw [e2] at ht ⊢
    generalize (x : Int) ^ j = P at *
    generalize (j : Int) = J at *
    have e3 : ((r : Int) * (J + 1) - x * J) * P = x * P + (J + 1) * P * (r - x) := by grind
    rw [e3]
    omega
   exact Int.ofNat_le.1 h4
  generalize m / x ^ j = M at *
  generalize x * j = A at *
  generalize r * (j + 1) = C at *
  omega
 ·exact Nat.le_trans h1 (Nat.le_add_right _ _)
theorem aLx {m x k : Nat} (hk : 1 ≤ k) (hx : 0 < x) (h : m < x ^ k) : (x * (k - 1) + m / x ^ (k - 1)) / k < x := by
 obtain ⟨j, rfl⟩ : ∃ j, k = j + 1 := ⟨k - 1, by omega⟩
 simp only [Nat.add_sub_cancel]
 have hp : 0 < x ^ j := Nat.pow_pos hx
 have h2 : m / x ^ j < x := by
  rw [Nat.div_lt_iff_lt_mul hp, Nat.mul_comm]
  rwa [Nat.pow_succ] at h
 rw [Nat.div_lt_iff_lt_mul (by omega), Nat.mul_add]
 omega
theorem aEz (m : List Int) (k : Int) (y) (h : ap1 (m, k, ()) = some y) : (aCm m k).toO = some y := by
 obtain ⟨⟨n, q⟩, hp, hx, rfl⟩ := aaD h
 obtain ⟨rfl, hx2⟩ := Prod.mk.inj hx; obtain ⟨rfl, -⟩ := Prod.mk.inj hx2; dsimp only
 obtain ⟨l1, l2, l3⟩ := hp
 simp only at l1 l2 l3
 have hdl := aHn l1
 refine uC _ (axN n) ?_
 by_cases h0 : n = 0
 ·refine uT (decide_eq_true h0) ?_
  subst h0
  rw [aBj (r := 0) l2 (by rw [Nat.zero_pow l2]; omega) (by simp), mag_zero]
  rfl
 refine uF (decide_eq_false h0) ?_
 refine uC _ (axO (aaH l1 (by omega))) (uN (by omega) ?_)
 have hle := Nat.div_le_self (aa2 n).length q
 have hL : (aa2 n).length ≤ ((aa2 n).length / q + 1) * q := by
  have h3 := Nat.mod_add_div (aa2 n).length q
  have h4 := Nat.mod_lt (aa2 n).length (show 0 < q by omega)
  rw [Nat.add_mul, Nat.mul_comm ((aa2 n).length / q) q]
  omega
 have e1 : Int.tdiv ((aa2 n).length : Int) (q : Int) = (((aa2 n).length / q : Nat) : Int) := by rw [Int.tdiv_eq_ediv_of_nonneg (by omega)]; simp
 simp only [e1]
 generalize (aa2 n).length / q = L at hle hL
 have e2 : w64 (L : Int) = L := aaA (by omega)
 have e3 : w64 ((L : Int) + 1) = ((L + 1 : Nat) : Int) := by rw [aaA (by omega)]; omega
 refine uC (mag (10 ^ (L + 1)), ()) (by simp only [e2, e3]; exact aGv (by omega)) ?_
 refine uO (mag (10 ^ (L + 1)), ()) rfl ?_
 obtain ⟨s1, s2⟩ := amI (k := q) n l2
 have hbx : Bd 2 (10 ^ (L + 1)) := by
  have : (mag (10 ^ (L + 1))).length ≤ 10000000 := by
   refine aiJ ?_
   rw [anE (k := L + 1) (Nat.le_refl _) (Nat.pow_lt_pow_right (by omega) (by omega))]
   omega
  unfold Bd; omega
 have hstart : n < (10 ^ (L + 1)) ^ q := by
  rw [← Nat.pow_mul]
  have h1 := afM n
  have h3 : (10 : Nat) ^ (aa2 n).length ≤ 10 ^ ((L + 1) * q) := Nat.pow_le_pow_right (by omega) hL
  omega
 have hstart2 : adL q n ≤ 10 ^ (L + 1) := by
  rcases Nat.lt_or_ge (10 ^ (L + 1)) (adL q n) with h | h
  ·have := Nat.pow_le_pow_left (Nat.le_of_lt h) q; omega
  ·exact h
 have hr1 : 1 ≤ adL q n := by
  rcases Nat.eq_zero_or_pos (adL q n) with h | h
  ·rw [h] at s2; simp at s2; omega
  ·exact h
 generalize 10 ^ (L + 1) = X at *
 refine aaN (fun i : List Int × Unit => ∃ x : Nat, i = (mag x, ()) ∧ adL q n ≤ x ∧ x ≤ X) (fun i => (V 1000000000 i.1).toNat) (fun _ => (mag (adL q n), ())) ?_ _ ⟨X, rfl, hstart2, Nat.le_refl _⟩
 rintro i ⟨x, rfl, g1, g2⟩
 have bx : Bd 2 x := amS hbx g2
 have ek : w64 ((q : Int) - 1) = ((q - 1 : Nat) : Int) := by rw [aaA (x := (q : Int) - 1) (by omega)]; omega
 have ekk : abO ((q - 1 : Nat) : Int) = ((q - 1 : Nat) : Int) := aaO (by omega)
 have ek32 : adS (q : Int) = q := aa0 (by omega)
 have hxp : 0 < x ^ (q - 1) := Nat.pow_pos (by omega)
 have bp := aMU bx (show q - 1 ≤ 40 by omega)
 have bsm : Bd 2 (q - 1) := aaH (aaG (by omega)) (by omega)
 have bsum : Bd 4 (x * (q - 1) + n / x ^ (q - 1)) := aaZ (aaW bx bsm) (aaH (aaS _ l1) (by omega))
 simp only [aiQ, ek, ekk, ek32]
 have walk : ∀ r, (TT.ite (decide (atF (((x * (q - 1) + n / x ^ (q - 1)) / q : Nat)) (x : Nat) ≥ 0)) (TT.ok (Sum.inr (mag x, ())) : TT ((List Int × Unit) ⊕ (List Int × Unit))) (TT.ok (.inl (mag ((x * (q - 1) + n / x ^ (q - 1)) / q), ())))).toO = r → (aiQ (mag n) (q : Int) (decide (n = 0), ()) (((aa2 n).length : Int), ()) (mag X, ()) (mag x, ())).toO = r := by
  intro r hr
  simp only [aiQ, ek, ekk, ek32]
  refine uC _ (aAr bx (by omega)) ?_
  refine uC _ (axP (aaH l1 (by omega)) (aaH bp (by omega)) (by omega)) ?_
  refine uC _ (aB7 (by omega)) ?_
  refine uC _ (asE (aaH bx (by omega)) (aaH bsm (by omega))) ?_
  refine uC _ (aEl (aaH (aaW bx bsm) (by omega)) (aaH (aaS _ l1) (by omega))) ?_
  refine uC _ (aJL (d := q) (aaH bsum (by omega)) (by omega) (by omega)) ?_
  refine uC _ (aEm (aaH (aaS _ bsum) (by omega)) (aaH bx (by omega))) ?_
  exact hr
 simp only [aiQ, ek, ekk, ek32] at walk
 generalize hY : (x * (q - 1) + n / x ^ (q - 1)) / q = Y at walk
 have hge : adL q n ≤ Y := by rw [← hY]; exact aLy l2 (by omega) s1
 rcases Nat.lt_or_ge Y x with hc | hc
 ·left
  refine ⟨(mag Y, ()), walk _ (uF ?_ rfl), ⟨Y, rfl, hge, by omega⟩, ?_, (by first | exact True.intro | rfl)⟩
  ·unfold atF; rw [if_pos (by omega)]; rfl
  ·simp only [alT, Int.toNat_natCast]; exact hc
 ·right
  have hxm : x ^ q ≤ n := by
   rcases Nat.lt_or_ge n (x ^ q) with h | h
   ·have := aLx l2 (show 0 < x by omega) h
    omega
   ·exact h
  have hxr : x = adL q n := by
   rcases Nat.lt_or_ge (adL q n) x with h | h
   ·have := Nat.pow_le_pow_left (show adL q n + 1 ≤ x from h) q; omega
   ·omega
  refine walk _ (uT ?_ ?_)
  ·unfold atF
   rw [if_neg (by omega)]
   split <;> rfl
  ·rw [← hxr]; rfl
theorem aNe {n k : Nat} (h1 : Bd 0 n) (h2 : 1 ≤ k) (h3 : k ≤ 12) : ap1 (mag n, (k : Int), ()) = some (mag (adL k n), ()) := by
 refine aaI (enc := fun x : Nat × Nat => (mag x.1, (x.2 : Int), ())) (n, k) ⟨h1, h2, h3⟩ (fun b hb => ?_)
 obtain ⟨e1, e2⟩ := Prod.mk.inj hb
 obtain ⟨e2, -⟩ := Prod.mk.inj e2
 exact Prod.ext (adI e1) (Int.ofNat.inj e2)
theorem auC {k n : Nat} (hk : 1 ≤ k) : adL k n ≤ n := Nat.le_trans (Nat.le_self_pow (by omega) _) (amI n hk).1
theorem aHT (a : List UInt8) (k : Int) (y) (h : ap3 (a, k, ()) = some y) : (aAF a k).toO = some y := by
 unfold ap3 at h
 dsimp only at h
 unfold aAF
 cases hr : rdW a with
 | none =>
  simp only [hr] at h
  exact uC _ (acY hr) (uT rfl h)
 | some z =>
  simp only [hr] at h
  have b1 := am8 hr
  refine uC _ (acX hr) (uF rfl ?_)
  by_cases h1 : k < 1
  ·rw [if_pos (Or.inl h1)] at h
   exact uT (decide_eq_true h1) h
  by_cases h2 : k > 12
  ·rw [if_pos (Or.inr (Or.inl h2))] at h
   exact uF (decide_eq_false h1) (uT (decide_eq_true h2) h)
  by_cases h3 : z < 0
  ·rw [if_pos (Or.inr (Or.inr h3))] at h
   exact uF (decide_eq_false h1) (uF (decide_eq_false h2) (uT (decide_eq_true h3) h))
  rw [if_neg (by omega)] at h
  obtain ⟨j, rfl⟩ := Int.eq_ofNat_of_zero_le (show 0 ≤ k by omega)
  rw [Int.toNat_natCast] at h
  refine uF (decide_eq_false h1) (uF (decide_eq_false h2) (uF (decide_eq_false h3) ?_))
  refine uC _ (aNe b1 (by omega) (by omega)) ?_
  refine uC (sg (adL j z.natAbs : Int), ()) (aAs rfl (Or.inr (decide_eq_false (by omega)).symm)) ?_
  exact uC _ (aqJ (aaH (amS b1 (auC (by omega))) (by omega))) h
end Go.Vs
