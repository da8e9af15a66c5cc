/-
  Trees of what the functions compute, and their laws. Own work; no condition.
-/
import Derived.Test.YtakjojajnblpoaaGreatDoorClL1
import Derived.Test.YtakjojajnblpoaaGreatDoorProg
set_option linter.unusedVariables false
set_option linter.unusedSimpArgs false
namespace Go.Vs
open Go Go.Vg
theorem aFn {q : Rat} (h : adK q) : wrF q = (fx q, 0, ()) := if_pos h
theorem aBj {q : Rat} (h : ¬ adK q) : wrF q = (([], [], ()), 6, ()) := if_neg h
theorem aiU {z : Int} (h : Fit z) : wrW z = (dec z, 0, ()) := if_pos h
theorem arI {z : Int} (h : ¬ Fit z) : wrW z = ([], 6, ()) := if_neg h
theorem arC {z : Int} (h : Bd 8 z.natAbs) : acX (sg z, ()) = some (wrW z) := aaI (enc := fun x : Int => (sg x, ())) z h (fun b hb => apF (Prod.mk.inj hb).1)
theorem aFr (s : SgT) (y) (h : acX (s, ()) = some y) : (avF s).toO = some y := by
 obtain ⟨a, hp, hx, rfl⟩ := aaD h
 obtain ⟨rfl, -⟩ := Prod.mk.inj hx
 unfold avF
 dsimp only
 refine uC _ (ayT hp) ?_
 by_cases hf : Fit a
 ·have hf' : (aa3 a.natAbs).length ≤ 600 := hf
  rw [aiU hf]
  refine uF zh ?_
  have hb : Bd 0 a.natAbs := al9 hf
  by_cases h0 : a < 0
  ·refine uT zh (uC _ (ayV hb) (uN ?_ ?_))
   ·show 1 + (aa3 a.natAbs).length ≤ lim
    unfold lim; omega
   ·rw [ahT h0]; rfl
  ·refine uF zh (uC _ (ayV hb) ?_)
   rw [acC zc]; rfl
 ·have hf' : ¬ (aa3 a.natAbs).length ≤ 600 := hf
  rw [arI hf]
  exact uT zh rfl
theorem aj7 {q : Rat} (h : BdQ 8 q) : aeZ (rt q, ()) = some (wrF q) := aaI (enc := fun x : Rat => (rt x, ())) q h (fun b hb => az6 (Prod.mk.inj hb).1)
theorem aEn (x : RtT) (y) (h : aeZ (x, ()) = some y) : (asG x).toO = some y := by
 obtain ⟨q, hp, hx, rfl⟩ := aaD h
 obtain ⟨rfl, -⟩ := Prod.mk.inj hx
 obtain ⟨h1, h2⟩ := hp
 unfold asG
 dsimp only
 refine uC _ (ay1 h1) ?_
 by_cases hf : Fit q.num
 ·have hf' : (aa3 q.num.natAbs).length ≤ 600 := hf
  refine uF zh ?_
  refine uC _ (ay1 h2) ?_
  by_cases hg : Fit q.den
  ·have hg' : (aa3 q.den).length ≤ 600 := hg
   rw [aFn ⟨hf, hg⟩]
   refine uF zh ?_
   exact uC _ (ay2 (al9 hf)) (uC _ (ao5 (al9 hg)) rfl)
  ·have hg' : ¬ (aa3 q.den).length ≤ 600 := hg
   rw [aBj (fun h => hg h.2)]
   exact uT zh rfl
 ·have hf' : ¬ (aa3 q.num.natAbs).length ≤ 600 := hf
  rw [aBj (fun h => hf h.1)]
  exact uT zh rfl
theorem aj9 {g : Nat} {t n : Int} (h : n = g * t) (g0 : g ≠ 0) : (n < 0 ↔ t < 0) ∧ (n = 0 ↔ t = 0) := by
 subst h
 rcases xm t 0 with h | h | h
 ·have := wj (show (0 : Int) < g by omega) h
  omega
 ·subst h; simp
 ·have := vB (show (0 : Int) < g by omega) h
  omega
theorem acV {g : Nat} {t n : Int} (h : n = g * t) (g0 : g ≠ 0) : n.natAbs / g = t.natAbs := by
 rw [h, yy, zM, yr _ zc]
theorem aHl {n : Int} {d : Nat} (h1 : Bd 7 n.natAbs) (h2 : Bd 7 d) (h3 : d ≠ 0) : ak3 (sg n, mag d, ()) = some (rt (mkRat n d), ()) := aaI (enc := fun x : Int × Nat => (sg x.1, mag x.2, ())) (n, d) ⟨h1, h2, h3⟩ (fun b hb => aFH hb)
theorem aCh (n : SgT) (d : List Int) (y) (h : ak3 (n, d, ()) = some y) : (aoS n d).toO = some y := by
 obtain ⟨⟨a, b⟩, hp, hx, rfl⟩ := aaD h
 obtain ⟨rfl, hx2⟩ := Prod.mk.inj hx; obtain ⟨rfl, -⟩ := Prod.mk.inj hx2; dsimp only
 obtain ⟨l1, l2, l3⟩ := hp
 simp only at l1 l2 l3
 obtain ⟨g, t, hg, g0, hn, e1, e2⟩ := aeO a l3
 have hs := aj9 hn g0
 have ha := acV hn g0
 unfold aoS
 dsimp only
 have bg : Bd 7 g := by rw [hg]; repeat (first | assumption | exact aaH zg zc | exact aaG zc | refine aaY ?_ ?_ | refine aaS _ ?_ | refine aa1 _ ?_ | refine aaE ?_ ?_ | refine aaB ?_ ?_ | refine aaV ?_ | refine aaW ?_ ?_ | refine aaZ ?_ ?_ | refine aaP ?_)
 refine uC (mag g, ()) (by rw [anN zd zd, hg]) ?_
 refine uC _ (ab6 zd zd g0) ?_
 refine uC _ (ab6 zd zd g0) ?_
 refine uC (sg t, ()) (abV ha (Or.inr (decide_eq_decide.2 hs.1))) ?_
 show some (((sg t), mag (b / g), ()), ()) = some (rt (mkRat a b), ())
 unfold rt
 rw [e1, e2]
theorem aFd {q : Rat} (h : BdQ 7 q) : aiN (rt q, ()) = some (rt (-q), ()) := aaI (enc := fun x : Rat => (rt x, ())) q h (fun b hb => az6 (Prod.mk.inj hb).1)
theorem azK (x : RtT) (y) (h : aiN (x, ()) = some y) : (atZ x).toO = some y := by
 obtain ⟨q, hp, hx, rfl⟩ := aaD h
 obtain ⟨rfl, -⟩ := Prod.mk.inj hx
 exact uC _ (arF (aaH hp.1 zc)) rfl
theorem aFe {q : Rat} (h : BdQ 7 q) (h0 : q ≠ 0) : aiO (rt q, ()) = some (rt q⁻¹, ()) := aaI (enc := fun x : Rat => (rt x, ())) q ⟨h, h0⟩ (fun b hb => az6 (Prod.mk.inj hb).1)
theorem aQh {q : Rat} (h : q ≠ 0) : q.num ≠ 0 := fun h2 => h (Rat.num_eq_zero.1 h2)
theorem aEh {q : Rat} (h : q ≠ 0) : (q⁻¹).num.natAbs = q.den ∧ ((q⁻¹).num < 0 ↔ q.num < 0) ∧ (q⁻¹).den = q.num.natAbs := by
 have h1 := aQh h
 have h2 := q.den_pos
 rw [Rat.num_inv, Rat.den_inv, if_neg h1]
 rcases zO q.num 0 with h3 | h3
 ·rw [xg h3]; omega
 ·rw [xw zc]; omega
theorem azL (x : RtT) (y) (h : aiO (x, ()) = some y) : (at1 x).toO = some y := by
 obtain ⟨q, hp, hx, rfl⟩ := aaD h
 obtain ⟨rfl, -⟩ := Prod.mk.inj hx
 obtain ⟨e1, e2, e3⟩ := aEh hp.2
 refine uC (sg (q⁻¹).num, ()) (abV e1.symm (Or.inr (decide_eq_decide.2 e2.symm))) ?_
 show some ((sg (q⁻¹).num, mag q.num.natAbs, ()), ()) = some (rt q⁻¹, ())
 unfold rt
 rw [e3]
theorem aIt {p q : Rat} (h : BdQ 3 p) (h2 : BdQ 3 q) : aq5 (rt p, rt q, ()) = some (rt (p + q), ()) := aaI (enc := fun x : Rat × Rat => (rt x.1, rt x.2, ())) (p, q) ⟨h, h2⟩ (fun b hb => auX hb)
theorem aJK (x x' : RtT) (y) (h : aq5 (x, x', ()) = some y) : (aCb x x').toO = some y := by
 obtain ⟨⟨p, q⟩, hp, hx, rfl⟩ := aaD h
 obtain ⟨rfl, hx2⟩ := Prod.mk.inj hx; obtain ⟨rfl, -⟩ := Prod.mk.inj hx2; dsimp only
 obtain ⟨⟨p1, p2⟩, q1, q2⟩ := hp
 simp only at p1 p2 q1 q2
 obtain ⟨g, h', top, t, hg, ht, hh, g0, h0, htt, e1, e2⟩ := aE6 p q
 have hs := aj9 htt h0
 have ha := acV htt h0
 have bg : Bd 3 g := by rw [hg]; repeat (first | assumption | exact aaH zg zc | exact aaG zc | refine aaY ?_ ?_ | refine aaS _ ?_ | refine aa1 _ ?_ | refine aaE ?_ ?_ | refine aaB ?_ ?_ | refine aaV ?_ | refine aaW ?_ ?_ | refine aaZ ?_ ?_ | refine aaP ?_)
 have bt : Bd 5 top.natAbs := by
  rw [ht]
  refine aaE (aaB ?_ (aaP ?_)) (aaB ?_ (aaP ?_)) <;> repeat (first | assumption | exact aaH zg zc | exact aaG zc | refine aaY ?_ ?_ | refine aaS _ ?_ | refine aa1 _ ?_ | refine aaE ?_ ?_ | refine aaB ?_ ?_ | refine aaV ?_ | refine aaW ?_ ?_ | refine aaZ ?_ ?_ | refine aaP ?_)
 have bh : Bd 5 h' := by rw [hh]; repeat (first | assumption | exact aaH zg zc | exact aaG zc | refine aaY ?_ ?_ | refine aaS _ ?_ | refine aa1 _ ?_ | refine aaE ?_ ?_ | refine aaB ?_ ?_ | refine aaV ?_ | refine aaW ?_ ?_ | refine aaZ ?_ ?_ | refine aaP ?_)
 unfold aCb
 dsimp only
 refine uC (mag g, ()) (by rw [anN zd zd, hg]) ?_
 refine uC _ (ab6 zd zd g0) ?_
 refine uC _ (ab6 zd zd g0) ?_
 refine uC _ (ah5 zd zd) ?_
 refine uC _ (ah5 zd zd) ?_
 refine uC (sg top, ()) (by rw [aCS zd zd, ht]) ?_
 refine uC (mag h', ()) (by rw [anN zd zd, hh]) ?_
 refine uC _ (ab6 zd zd h0) ?_
 refine uC _ (ab6 zd zd h0) ?_
 refine uC (sg t, ()) (abV ha (Or.inr (decide_eq_decide.2 hs.1))) ?_
 refine uC _ (ahB zd zd) ?_
 show some ((sg t, mag (p.den / g * (q.den / h')), ()), ()) = some (rt (p + q), ())
 unfold rt
 rw [e1, e2]
theorem aP2 {p q : Rat} (h : BdQ 3 p) (h2 : BdQ 3 q) : avC (rt p, rt q, ()) = some (rt (p - q), ()) := aaI (enc := fun x : Rat × Rat => (rt x.1, rt x.2, ())) (p, q) ⟨h, h2⟩ (fun b hb => auX hb)
theorem aJH (x x' : RtT) (y) (h : avC (x, x', ()) = some y) : (aH4 x x').toO = some y := by
 obtain ⟨⟨p, q⟩, hp, hx, rfl⟩ := aaD h
 obtain ⟨rfl, hx2⟩ := Prod.mk.inj hx; obtain ⟨rfl, -⟩ := Prod.mk.inj hx2; dsimp only
 obtain ⟨bp, bq⟩ := hp
 refine uC _ (aFd ⟨aaH bq.1 zc, aaH bq.2 zc⟩) ?_
 refine uC _ (aIt bp ⟨aaV bq.1, bq.2⟩) ?_
 rw [Rat.sub_eq_add_neg]; rfl
theorem aIs {p q : Rat} (h : BdQ 3 p) (h2 : BdQ 3 q) : aq4 (rt p, rt q, ()) = some (rt (p * q), ()) := aaI (enc := fun x : Rat × Rat => (rt x.1, rt x.2, ())) (p, q) ⟨h, h2⟩ (fun b hb => auX hb)
theorem aJJ (x x' : RtT) (y) (h : aq4 (x, x', ()) = some y) : (aCa x x').toO = some y := by
 obtain ⟨⟨p, q⟩, hp, hx, rfl⟩ := aaD h
 obtain ⟨rfl, hx2⟩ := Prod.mk.inj hx; obtain ⟨rfl, -⟩ := Prod.mk.inj hx2; dsimp only
 obtain ⟨⟨p1, p2⟩, q1, q2⟩ := hp
 simp only at p1 p2 q1 q2
 obtain ⟨g, h', s, t, hg, hh, g0, h0, hs, ht, e1, e2⟩ := aD9 p q
 have as1 := acV hs g0
 have at' := acV ht h0
 have ss := aj9 hs g0
 have st := aj9 ht h0
 have bg : Bd 3 g := by rw [hg]; repeat (first | assumption | exact aaH zg zc | exact aaG zc | refine aaY ?_ ?_ | refine aaS _ ?_ | refine aa1 _ ?_ | refine aaE ?_ ?_ | refine aaB ?_ ?_ | refine aaV ?_ | refine aaW ?_ ?_ | refine aaZ ?_ ?_ | refine aaP ?_)
 have bh : Bd 3 h' := by rw [hh]; repeat (first | assumption | exact aaH zg zc | exact aaG zc | refine aaY ?_ ?_ | refine aaS _ ?_ | refine aa1 _ ?_ | refine aaE ?_ ?_ | refine aaB ?_ ?_ | refine aaV ?_ | refine aaW ?_ ?_ | refine aaZ ?_ ?_ | refine aaP ?_)
 unfold aCa
 dsimp only
 refine uC (mag g, ()) (by rw [anN zd zd, hg]) ?_
 refine uC (mag h', ()) (by rw [anN zd zd, hh]) ?_
 refine uC _ (ab6 zd zd g0) ?_
 refine uC _ (ab6 zd zd h0) ?_
 refine uC _ (ab6 zd zd h0) ?_
 refine uC _ (ab6 zd zd g0) ?_
 refine uC _ (ahB zd zd) ?_
 refine uC (sg (s * t), ()) (abV (n := p.num.natAbs / g * (q.num.natAbs / h')) (by rw [as1, at', yy]) ?_) ?_
 ·by_cases hz : s * t = 0
  ·exact Or.inl hz
  ·right
   show (!(decide (p.num < 0) == decide (q.num < 0))) = decide (s * t < 0)
   have z1 : s ≠ 0 := fun h => hz (by rw [h]; simp)
   have z2 : t ≠ 0 := fun h => hz (by rw [h]; simp)
   rcases zO s 0 with c1 | c1 <;> rcases zO t 0 with c2 | c2
   ·have := wo c1 c2
    rw [zo (ss.1.2 c1), zo (st.1.2 c2), zn zc]; rfl
   ·have := wi c1 (show 0 < t by omega)
    rw [zo (ss.1.2 c1), zn zc, zo zc]; rfl
   ·have := wj (show 0 < s by omega) c2
    rw [zn zc, zo (st.1.2 c2), zo zc]; rfl
   ·have := vB (show 0 < s by omega) (show 0 < t by omega)
    rw [zn zc, zn zc, zn zc]; rfl
 refine uC _ (ahB zd zd) ?_
 show some ((sg (s * t), mag (p.den / h' * (q.den / g)), ()), ()) = some (rt (p * q), ())
 unfold rt
 rw [e1, e2]
theorem aKF {p q : Rat} (h : BdQ 3 p) (h2 : BdQ 3 q) : anJ (rt p, rt q, ()) = some (auZ p q, ()) := aaI (enc := fun x : Rat × Rat => (rt x.1, rt x.2, ())) (p, q) ⟨h, h2⟩ (fun b hb => auX hb)
theorem aEo (x x' : RtT) (y) (h : anJ (x, x', ()) = some y) : (asH x x').toO = some y := by
 obtain ⟨⟨p, q⟩, hp, hx, rfl⟩ := aaD h
 obtain ⟨rfl, hx2⟩ := Prod.mk.inj hx; obtain ⟨rfl, -⟩ := Prod.mk.inj hx2; dsimp only
 obtain ⟨⟨p1, p2⟩, q1, q2⟩ := hp
 simp only at p1 p2 q1 q2
 unfold asH
 dsimp only
 refine uC _ (ah5 zd zd) ?_
 refine uC _ (ah5 zd zd) ?_
 refine uC _ (arF (aaH (aaB q1 (aaP p2)) zc)) ?_
 refine uC _ (aCS (aaH (aaB p1 (aaP q2)) zc) (aaV (aaH (aaB q1 (aaP p2)) zc))) ?_
 refine uC _ (ay3 (aaH (aaE (aaB p1 (aaP q2)) (aaV (aaB q1 (aaP p2)))) zc)) ?_
 rw [aLP]; rfl
theorem aN9 {q : Rat} {s : Nat} (h : BdQ 1 q) (h2 : Bd 1 s) : aq3 (rt q, mag s, ()) = some (sg (apU q s), ()) := aaI (enc := fun x : Rat × Nat => (rt x.1, mag x.2, ())) (q, s) ⟨h, h2⟩ (fun b hb => aQx hb)
theorem aGx (x : RtT) (sc : List Int) (y) (h : aq3 (x, sc, ()) = some y) : (awU x sc).toO = some y := by
 obtain ⟨⟨q, s⟩, hp, hx, rfl⟩ := aaD h
 obtain ⟨rfl, hx2⟩ := Prod.mk.inj hx; obtain ⟨rfl, -⟩ := Prod.mk.inj hx2; dsimp only
 obtain ⟨⟨p1, p2⟩, bs⟩ := hp
 simp only at p1 p2 bs
 have b2 : Bd 1 2 := aaH (aaG zc) zc
 unfold awU
 dsimp only
 have t1 := ahB (a := s) (b := 2) zd zd
 have t2 := ahB (a := q.den) (b := 2) zd zd
 rw [aQW] at t1 t2
 refine uC _ t1 ?_
 refine uC _ (ah5 zd zd) ?_
 refine uC (sg (q.den : Int), ()) (abV (w := (q.den : Int)) zi (Or.inr (by rw [zn zc]))) ?_
 refine uC _ (aCS (aaH (aaB (aaH p1 (show 1 ≤ 2 by omega)) (aaP (aaW bs b2))) zc) zd) ?_
 refine uC _ t2 ?_
 refine uC _ (aBh zd zd (xp q.den_nz zc)) ?_
 rw [aMk]; rfl
set_option maxRecDepth 100000
open Go Go.Vg Go.Proofs
noncomputable section
def aOi : LTab := [(172, 7, 9217, ⟨0, (Bool) × Unit, .dat (.s 3) tU <| .nil, [5, 4, 2], [0], 0⟩), (172, 122, 12289, ⟨1, (Int) × Unit, .dat (.s 23) uk <| .nil, [22, 5, 4, 2], [0], 0⟩)]
def aC7 (a : List UInt8) (y : List UInt8 × Bool × Unit) (j : Bool × Unit) (i : (Int) × Unit) : TT (uW ⊕ (uv × Bool × Unit)) :=
 .ite (decide (i.1 < len y.1))
 (.need (inb i.1 (len y.1)) <| .ite (decide ((↑(UInt8.toNat (gi y.1 i.1 0)) : Int) < 48))
 (.ok (.inr ((([], false, ()), false, ()))))
 (.need (inb i.1 (len y.1)) <| .ite (decide ((↑(UInt8.toNat (gi y.1 i.1 0)) : Int) > 57))
 (.ok (.inr ((([], false, ()), false, ()))))
 (.tt <| .lt (w64 (i.1 + 1) : Int) fun z => .vT (ub z (len y.1) y.2.1 y.1 <| uq ∧ True) <| .vT tO <| .ok (.inl ((z, ()))))))
 (.need (asT Int 0 ≤ 0 ∧ 0 < len y.1) <| .ite ((↑(UInt8.toNat (gi y.1 0 0)) : Int) == 48)
 (.ite (y.2.1)
 (.ok (.inr ((([], false, ()), false, ()))))
 (.ite (decide (len y.1 > 1))
 (.ok (.inr ((([], false, ()), false, ()))))
 (.call (ajQ (y.1, ())) Dd0 fun y1 =>
 .ok (.inr (((y1.1, y.2.1, ()), true, ()))))))
 (.call (ajQ (y.1, ())) Dd0 fun y2 =>
 .ok (.inr (((y2.1, y.2.1, ()), true, ())))))
def aKT (a : List UInt8) (y : List UInt8 × Bool × Unit) (j : (Bool) × Unit) : TT (uv × Bool × Unit) :=
 .loop 1 (.tt <| .vT (ub (0 : Int) (len y.1) y.2.1 y.1 <| uq ∧ True) <| .vT tO <| .ok ((0, ()))) (aC7 a y j)
def aBl (a : List UInt8) : TT (uv × Bool × Unit) :=
 .call (abY (a, #[45].toList, ())) Dd7 fun y =>
 .join 0 (ι := (Bool) × Unit) (.ite (len y.1 == 0)
 (.ok (.inr ((([], false, ()), false, ()))))
 (.ite (decide (len y.1 > 600))
 (.ok (.inr ((([], false, ()), false, ()))))
 (.tt <| .vT (ue false y.2.1 y.1 <| uq ∧ True) <| .vT tO <| .ok (.inl ((false, ())))))) (aKT a y)
def aOj : LTab := []
def aBm (a : List UInt8) (b : List UInt8) : TT (uv × uv × Int × Unit) :=
 .call (afG (a, ())) Dd9 fun y =>
 .call (afG (b, ())) Dd9 fun y1 =>
 .ite (!y.2.1)
 (.ok ((([], false, ()), ([], false, ()), 10, ())))
 (.ite (!y1.2.1)
 (.ok ((([], false, ()), ([], false, ()), 10, ())))
 (.ok (((y.1.1, y.1.2.1, ()), (y1.1.1, y1.1.2.1, ()), 0, ()))))
def aKY : LTab := []
def avG (a : List UInt8) : TT uK :=
 .call (afG (a, ())) Dd9 fun y =>
 .ite (!y.2.1)
 (.ok ((10, ())))
 (.ok ((0, ())))
def aRA : LTab := []
def aP6 (n : Int) : TT tc :=
 .call (aA6 (n, ())) Dd2 fun y =>
 .ok ((y.1, ()))
def aQp : LTab := []
def aFu (a : List UInt8) (b : List UInt8) : TT tk :=
 .tt <| .tt <| .call (afH (a, b, ())) aSL fun y =>
 .ite (y.2.2.1 != 0)
 (.ok ((#[].toList, y.2.2.1, ())))
 (.triv (asT Int 0 ≤ 2 ∧ 2 < (↑4 : Int)) zf <| .call (aiL ((y.1.1, y.1.2.1, ()), (y.2.1.1, y.2.1.2.1, ()), ())) Dd5 fun y1 =>
 .call (acX (y1.1, ())) aHn fun y2 =>
 .ok ((y2.1, y2.2.1, ())))
def aQr : LTab := []
def arJ (y2 : (List (Int)) × (List (Int)) × Unit) (y : ((List (Int)) × (Bool) × Unit) × ((List (Int)) × (Bool) × Unit) × (Int) × Unit) : TT (List UInt8 × List UInt8 × Int × Unit) :=
 .call (aiM (y2.1, !y.1.2.1 == y.2.1.2.1, ())) Dd5 fun y10 =>
 .call (acX (y10.1, ())) aHn fun y11 =>
 .ite (y11.2.1 != 0)
 (.ok ((#[].toList, #[].toList, y11.2.1, ())))
 (.call (aiM (y2.2.1, false, ())) Dd5 fun y12 =>
 .call (acX (y12.1, ())) aHn fun y13 =>
 .ite (y13.2.1 != 0)
 (.ok ((#[].toList, #[].toList, y13.2.1, ())))
 (.ok ((y11.1, y13.1, 0, ()))))
def aFw (a : List UInt8) (b : List UInt8) : TT (List UInt8 × List UInt8 × Int × Unit) :=
 .call (afH (a, b, ())) aSL fun y =>
 .ite (y.2.2.1 != 0)
 (.ok ((#[].toList, #[].toList, y.2.2.1, ())))
 (.call (ahY (y.2.1.1, ())) Dd1 fun y1 =>
  .ite (y1.1)
  (.ok ((#[].toList, #[].toList, 7, ())))
  (.call (akZ (y.1.1, y.2.1.1, ())) Dd4 fun y2 =>
   .ite (y.1.2.1)
   (.call (ahY (y2.2.1, ())) Dd1 fun y3 =>
    .ite (!y3.1)
    (.call (aqU (y2.1, [1], ())) Dd0 fun y4 =>
     .call (as4 (y.2.1.1, y2.2.1, ())) Dd0 fun y5 =>
     .call (aiM (y4.1, !y.1.2.1 == y.2.1.2.1, ())) Dd5 fun y6 =>
     .call (acX (y6.1, ())) aHn fun y7 =>
     .ite (y7.2.1 != 0)
     (.ok ((#[].toList, #[].toList, y7.2.1, ())))
     (.call (aiM (y5.1, false, ())) Dd5 fun y8 =>
      .call (acX (y8.1, ())) aHn fun y9 =>
      .ite (y9.2.1 != 0)
      (.ok ((#[].toList, #[].toList, y9.2.1, ())))
      (.ok ((y7.1, y9.1, 0, ())))))
    (arJ y2 y))
   (arJ y2 y)))
def aQo : LTab := []
def aFt (a : List UInt8) (n : Int) : TT tk :=
 .call (afG (a, ())) Dd9 fun y =>
 .ite (!y.2.1)
 (.ok ((#[].toList, 10, ())))
 (.ite (decide (n < 0))
 (.ok ((#[].toList, 2, ())))
 (.ite (decide (n > 40))
 (.ok ((#[].toList, 2, ())))
 (.call (ajP (y.1.1, n, ())) Dd0 fun y1 =>
 .ite (y.1.2.1)
 (.triv (asT Int 2 ≠ 0) zf <| .call (aiM (y1.1, Int.tmod n 2 == 1, ())) Dd5 fun y2 =>
 .call (acX (y2.1, ())) aHn fun y3 =>
 .ok ((y3.1, y3.2.1, ())))
 (.call (aiM (y1.1, false, ())) Dd5 fun y4 =>
 .call (acX (y4.1, ())) aHn fun y5 =>
 .ok ((y5.1, y5.2.1, ()))))))
def aOl : LTab := []
def aBo (a : List UInt8) (k : Int) : TT tk :=
 .call (afG (a, ())) Dd9 fun y =>
 .ite (!y.2.1)
 (.ok ((#[].toList, 10, ())))
 (.ite (decide (k < 1))
 (.ok ((#[].toList, 2, ())))
 (.ite (decide (k > 12))
 (.ok ((#[].toList, 2, ())))
 (.ite (y.1.2.1)
 (.ok ((#[].toList, 2, ())))
 (.call (aqT (y.1.1, k, ())) Dd0 fun y1 =>
 .call (aiM (y1.1, false, ())) Dd5 fun y2 =>
 .call (acX (y2.1, ())) aHn fun y3 =>
 .ok ((y3.1, y3.2.1, ()))))))
def aFs : LTab := [(281, 122, 10241, ⟨0, (Int) × (Int) × Unit, .dat (.s 11) uk <| .dat (.s 4) un <| .nil, [10, 3, 2, 0], [4], 0⟩)]
def atG (n : Int) (i : (Int) × (Int) × Unit) : TT (uG ⊕ ux) :=
 .ite (decide (i.1 < Int.tmod n 9))
 (.tt <| .lt (w64 (i.1 + 1) : Int) fun z => .lt (adY (i.2.1 * 10) : Int) fun z1 => .vT (ue z1 z (Int.tmod n 9) <| (vY 4 0 (Int.toNat (w64 (w64 (Int.tdiv n 9) + 1))) true) ∧ True ∧ uc n) <| .vT (vS (vX 189 (List.replicate (Int.toNat (w64 (w64 (Int.tdiv n 9) + 1))) 0 : List Int)) True) <| .ok (.inl ((z, z1, ()))))
 (.triv (asT Int 9 ≠ 0) zf <| .need (inb (w64 (Int.tdiv n 9)) (↑(Int.toNat (w64 (w64 (Int.tdiv n 9) + 1))) : Int)) <| .ok (.inr ((List.take (Int.toNat (w64 (w64 (Int.tdiv n 9) + 1))) (List.set (List.replicate (Int.toNat (w64 (w64 (Int.tdiv n 9) + 1))) 0) (0 + Int.toNat (w64 (Int.tdiv n 9))) i.2.1), ()))))
def an6 (n : Int) : TT ux :=
 .triv (asT Int 9 ≠ 0) zf <| .need (0 ≤ w64 (w64 (Int.tdiv n 9) + 1) ∧ w64 (w64 (Int.tdiv n 9) + 1) ≤ w64 (w64 (Int.tdiv n 9) + 1) ∧ w64 (w64 (Int.tdiv n 9) + 1) * (↑4 : Int) ≤ 140737488355328) <| .triv (asT Int 9 ≠ 0) zf <| .loop 0 (.tt <| .vT (ue (1 : Int) (0 : Int) (Int.tmod n 9) <| (vY 4 0 (Int.toNat (w64 (w64 (Int.tdiv n 9) + 1))) true) ∧ True ∧ uc n) <| .vT (vS (vX 189 (List.replicate (Int.toNat (w64 (w64 (Int.tdiv n 9) + 1))) 0 : List Int)) True) <| .ok ((0, 1, ()))) (atG n)
def aIE : LTab := [(242, 122, 8193, ⟨0, (Int) × (List Int) × Unit, .dat (.s 11) uk <| .dat (.s 5) uZ <| .nil, [10, 6, 4], [], 0⟩)]
def avE (m : List Int) (n : Int) (i : (Int) × (List Int) × Unit) : TT th :=
 .ite (decide (i.1 < n))
 (.call (ajO (m, i.2.1, ())) Dd0 fun y =>
 .tt <| .lt (w64 (i.1 + 1) : Int) fun z1 => .vT (ue y.1 z1 n <| (vU (257 : FuncId) <| (uc m) ∧ True) ∧ True ∧ True) <| .tr <| .ok (.inl ((z1, y.1, ()))))
 (.ok (.inr ((i.2.1, ()))))
def azY (m : List Int) (n : Int) : TT ux :=
 .loop 0 (.tt <| .lt ([1] : List Int) fun z => .vT (ue z (0 : Int) n <| (vU (257 : FuncId) <| (uc m) ∧ True) ∧ True ∧ True) <| .tr <| .ok ((0, z, ()))) (avE m n)
def aKP : LTab := [(270, 30, 10241, ⟨0, (List Int) × Unit, .dat (.s 5) uZ <| .nil, [0, 1], [], 0⟩)]
def ai5 (m : List Int) (k : Int) (y : Bool × Unit) (y1 : Int × Unit) (y2 : List Int × Unit) (i : (List Int) × Unit) : TT (tW ⊕ ux) :=
 .call (ajP (i.1, w64 (k - 1), ())) Dd0 fun y3 =>
 .call (akZ (m, y3.1, ())) Dd4 fun y4 =>
 .call (ag3 (abE (w64 (k - 1)), ())) Dd0 fun y5 =>
 .call (ajO (i.1, y5.1, ())) Dd0 fun y6 =>
 .call (aqU (y6.1, y4.1, ())) Dd0 fun y7 =>
 .call (as3 (y7.1, adY k, ())) aSC fun y8 =>
 .call (amE (y8.1, i.1, ())) Dd6 fun y9 =>
 .ite (decide (y9.1 ≥ 0))
 (.ok (.inr ((i.1, ()))))
 (.tt <| .vT (vW y8.1 m k) <| .tr <| .ok (.inl ((y8.1, ()))))
def aC4 (m : List Int) (k : Int) : TT ux :=
 .call (ahY (m, ())) Dd1 fun y =>
 .ite (y.1)
 (.ok (([], ())))
 (.call (akY (m, ())) Dd6 fun y1 =>
 .need (k ≠ 0) <| .call (ak1 (w64 (w64 (Int.tdiv y1.1 k) + 1), ())) Dd0 fun y2 =>
 .loop 0 (.tt <| .vT (vW y2.1 m k) <| .tr <| .ok ((y2.1, ()))) (ai5 m k y y1 y2))
def aPD : LTab := []
def aCi (a : List UInt8 × List UInt8 × Unit) : TT ((uv × List Int × Unit) × Bool × Unit) :=
 .call (afI (a.1, ())) Dd6 fun y =>
 .ite (y.1 != 0)
 (.ok (((([], false, ()), [], ()), false, ())))
 (.call (afI (a.2.1, ())) Dd6 fun y1 =>
 .ite (y1.1 != 0)
 (.ok (((([], false, ()), [], ()), false, ())))
 (.call (af4 (a.1, ())) Dd5 fun y2 =>
 .call (af4 (a.2.1, ())) Dd5 fun y3 =>
 .call (aj1 ((y3.1.1, y3.1.2.1, ()), ())) Dd6 fun y4 =>
 .ite (decide (y4.1 < 1))
 (.ok (((([], false, ()), [], ()), false, ())))
 (.call (ag4 (y2.1.1, y3.1.1, ())) Dd0 fun y5 =>
 .call (adS (y5.1, [1], ())) Dd6 fun y6 =>
 .ite (y6.1 != 0)
 (.ok (((([], false, ()), [], ()), false, ())))
 (.ok ((((y2.1.1, y2.1.2.1, ()), y3.1.1, ()), true, ()))))))
def aMV : LTab := []
def axD (a : List UInt8 × List UInt8 × Unit) : TT uK :=
 .call (abN ((a.1, a.2.1, ()), ())) aIw fun y =>
 .ite (!y.2.1)
 (.ok ((20, ())))
 (.ok ((0, ())))
def aPH : LTab := []
def aCm (n : List UInt8) (d : List UInt8) : TT uH :=
 .call (afI (n, ())) Dd6 fun y =>
 .ite (y.1 != 0)
 (.ok (((#[].toList, #[].toList, ()), 10, ())))
 (.call (afI (d, ())) Dd6 fun y1 =>
 .ite (y1.1 != 0)
 (.ok (((#[].toList, #[].toList, ()), 10, ())))
 (.call (af4 (n, ())) Dd5 fun y2 =>
 .call (af4 (d, ())) Dd5 fun y3 =>
 .call (ac9 (y3.1.1, ())) Dd1 fun y4 =>
 .ite (y4.1)
 (.ok (((#[].toList, #[].toList, ()), 7, ())))
 (.call (aa9 (y2.1.1, !y2.1.2.1 == y3.1.2.1, ())) Dd5 fun y5 =>
 .call (ak3 (y5.1, y3.1.1, ())) Dd8 fun y6 =>
 .call (aeZ (y6.1, ())) afR fun y7 =>
 .ok (((y7.1.1, y7.1.2.1, ()), y7.2.1, ())))))
def aR2 : LTab := []
def aQj (n : Int) (d : Int) : TT uH :=
 .call (auG (n, ())) Dd2 fun y =>
 .call (auG (d, ())) Dd2 fun y1 =>
 .call (aq7 (y.1, y1.1, ())) afR fun y2 =>
 .ok (((y2.1.1, y2.1.2.1, ()), y2.2.1, ()))
def aPE : LTab := []
def aCk (a : List UInt8 × List UInt8 × Unit) : TT uo :=
 .call (abN ((a.1, a.2.1, ()), ())) aIw fun y =>
 .ite (!y.2.1)
 (.ok ((0, 20, ())))
 (.call (aj1 ((y.1.1.1, y.1.1.2.1, ()), ())) Dd6 fun y1 =>
 .ok ((y1.1, 0, ())))
def aRb : LTab := []
def aGL (a : List UInt8 × List UInt8 × Unit) (b : List UInt8 × List UInt8 × Unit) : TT uo :=
 .tt <| .tt <| .call (abN ((a.1, a.2.1, ()), ())) aIw fun y =>
 .call (abN ((b.1, b.2.1, ()), ())) aIw fun y1 =>
 .ite (!y.2.1)
 (.ok ((0, 20, ())))
 (.ite (!y1.2.1)
 (.ok ((0, 20, ())))
 (.call (anJ (((y.1.1.1, y.1.1.2.1, ()), y.1.2.1, ()), ((y1.1.1.1, y1.1.1.2.1, ()), y1.1.2.1, ()), ())) Dd6 fun y2 =>
 .ok ((y2.1, 0, ()))))
def aRc : LTab := []
def aGN (a : List UInt8 × List UInt8 × Unit) (b : List UInt8 × List UInt8 × Unit) : TT uH :=
 .tt <| .tt <| .call (abN ((a.1, a.2.1, ()), ())) aIw fun y =>
 .call (abN ((b.1, b.2.1, ()), ())) aIw fun y1 =>
 .ite (!y.2.1)
 (.tt <| .tt <| .ok (((#[].toList, #[].toList, ()), 20, ())))
 (.ite (!y1.2.1)
 (.tt <| .tt <| .ok (((#[].toList, #[].toList, ()), 20, ())))
 (.call (aq5 (((y.1.1.1, y.1.1.2.1, ()), y.1.2.1, ()), ((y1.1.1.1, y1.1.1.2.1, ()), y1.1.2.1, ()), ())) Dd8 fun y2 =>
 .tt <| .tt <| .call (aeZ (((y2.1.1.1, y2.1.1.2.1, ()), y2.1.2.1, ()), ())) afR fun y3 =>
 .ok (((y3.1.1, y3.1.2.1, ()), y3.2.1, ()))))
def aQ8 : LTab := []
def aGH (a : List UInt8 × List UInt8 × Unit) (b : List UInt8 × List UInt8 × Unit) : TT uH :=
 .tt <| .tt <| .call (abN ((a.1, a.2.1, ()), ())) aIw fun y =>
 .call (abN ((b.1, b.2.1, ()), ())) aIw fun y1 =>
 .ite (!y.2.1)
 (.tt <| .tt <| .ok (((#[].toList, #[].toList, ()), 20, ())))
 (.ite (!y1.2.1)
 (.tt <| .tt <| .ok (((#[].toList, #[].toList, ()), 20, ())))
 (.call (avC (((y.1.1.1, y.1.1.2.1, ()), y.1.2.1, ()), ((y1.1.1.1, y1.1.1.2.1, ()), y1.1.2.1, ()), ())) Dd8 fun y2 =>
 .tt <| .tt <| .call (aeZ (((y2.1.1.1, y2.1.1.2.1, ()), y2.1.2.1, ()), ())) afR fun y3 =>
 .ok (((y3.1.1, y3.1.2.1, ()), y3.2.1, ()))))
def aQ9 : LTab := []
def aGI (a : List UInt8 × List UInt8 × Unit) (b : List UInt8 × List UInt8 × Unit) : TT uH :=
 .tt <| .tt <| .call (abN ((a.1, a.2.1, ()), ())) aIw fun y =>
 .call (abN ((b.1, b.2.1, ()), ())) aIw fun y1 =>
 .ite (!y.2.1)
 (.tt <| .tt <| .ok (((#[].toList, #[].toList, ()), 20, ())))
 (.ite (!y1.2.1)
 (.tt <| .tt <| .ok (((#[].toList, #[].toList, ()), 20, ())))
 (.call (aq4 (((y.1.1.1, y.1.1.2.1, ()), y.1.2.1, ()), ((y1.1.1.1, y1.1.1.2.1, ()), y1.1.2.1, ()), ())) Dd8 fun y2 =>
 .tt <| .tt <| .call (aeZ (((y2.1.1.1, y2.1.1.2.1, ()), y2.1.2.1, ()), ())) afR fun y3 =>
 .ok (((y3.1.1, y3.1.2.1, ()), y3.2.1, ()))))
def aRa : LTab := []
def aGK (a : List UInt8 × List UInt8 × Unit) (b : List UInt8 × List UInt8 × Unit) : TT uH :=
 .call (abN ((a.1, a.2.1, ()), ())) aIw fun y =>
 .call (abN ((b.1, b.2.1, ()), ())) aIw fun y1 =>
 .ite (!y.2.1)
 (.ok (((#[].toList, #[].toList, ()), 20, ())))
 (.ite (!y1.2.1)
 (.ok (((#[].toList, #[].toList, ()), 20, ())))
 (.call (ac9 (y1.1.1.1, ())) Dd1 fun y2 =>
 .ite (y2.1)
 (.ok (((#[].toList, #[].toList, ()), 7, ())))
 (.call (aiO (((y1.1.1.1, y1.1.1.2.1, ()), y1.1.2.1, ()), ())) Dd8 fun y3 =>
 .call (aq4 (((y.1.1.1, y.1.1.2.1, ()), y.1.2.1, ()), y3.1, ())) Dd8 fun y4 =>
 .call (aeZ (y4.1, ())) afR fun y5 =>
 .ok (((y5.1.1, y5.1.2.1, ()), y5.2.1, ())))))
def aMS : LTab := []
def axC (a : List UInt8 × List UInt8 × Unit) : TT tk :=
 .call (abN ((a.1, a.2.1, ()), ())) aIw fun y =>
 .ite (!y.2.1)
 (.ok ((#[].toList, 20, ())))
 (.call (aj2 ((y.1.1.1, y.1.1.2.1, ()), y.1.2.1, ())) Dd5 fun y1 =>
 .call (aj0 (y1.1, ())) Dd2 fun y2 =>
 .ok ((y2.1, 0, ())))
def aPG : LTab := []
def aCl (a : List UInt8 × List UInt8 × Unit) (scale : Int) : TT uo :=
 .call (abN ((a.1, a.2.1, ()), ())) aIw fun y =>
 .ite (!y.2.1)
 (.ok ((0, 20, ())))
 (.ite (decide (scale < 1))
 (.ok ((0, 2, ())))
 (.ite (decide (scale > 1000000000000))
 (.ok ((0, 2, ())))
 (.call (abO (abE scale, ())) Dd0 fun y1 =>
 .call (aq3 (((y.1.1.1, y.1.1.2.1, ()), y.1.2.1, ()), y1.1, ())) Dd5 fun y2 =>
 .call (aj0 (y2.1, ())) Dd2 fun y3 =>
 .call (ak2 (y3.1, ())) aFj fun y4 =>
 .ite (y4.2.1 != 0)
 (.ok ((0, 6, ())))
 (.ok ((y4.1, 0, ()))))))
end
theorem aLr {s t : List UInt8} {b : Bool} (hc : abY (s, #[45].toList, ()) = some (t, b, ())) (h : ¬ (isD t ∧ t ≠ [] ∧ t.length ≤ 600 ∧ (t.head? = some 48 → b = false ∧ t.length = 1))) : rdW s = none := by
 refine aHB fun z hz he => h ?_
 rw [← he, aFg] at hc
 injection hc with hc
 obtain ⟨rfl, h2⟩ := Prod.mk.inj hc
 obtain ⟨rfl, -⟩ := Prod.mk.inj h2
 refine ⟨akQ _, aeR _, hz, fun h0 => ?_⟩
 by_cases hn : z.natAbs = 0
 ·rw [hn, abI zc]
  exact ⟨zn zc, rfl⟩
 ·exact absurd h0 (aNh hn)
theorem aLq {s t : List UInt8} {b : Bool} (hc : abY (s, #[45].toList, ()) = some (t, b, ())) (h1 : isD t) (h2 : t ≠ []) (h3 : t.length ≤ 600) (h4 : t.head? = some 48 → b = false ∧ t.length = 1) : ∃ z : Int, rdW s = some z ∧ z.natAbs = num t ∧ decide (z < 0) = b := by
 have hu : t = aa3 (num t) := aEL h1 h2 (by
  by_cases h0 : t.head? = some 48
  ·exact Or.inr (h4 h0).2
  ·exact Or.inl h0)
 have hs : s = if b then 45 :: t else t := by
  injection hc with hc
  simp only at hc
  split at hc
  ·rename_i hp
   obtain ⟨e1, e2⟩ := Prod.mk.inj hc
   obtain ⟨rfl, -⟩ := Prod.mk.inj e2
   cases s with
   | nil => cases hp
   | cons c s =>
    have : c = 45 := by
     have h5 : ([45] : List UInt8).isPrefixOf (c :: s) = true := hp
     simp [List.isPrefixOf] at h5
     exact h5.symm
    rw [this, ← e1]; rfl
  ·obtain ⟨e1, e2⟩ := Prod.mk.inj hc
   obtain ⟨rfl, -⟩ := Prod.mk.inj e2
   rw [← e1]; rfl
 cases b
 ·refine ⟨(num t : Int), ?_, by simp, by simp⟩
  have : s = dec (num t : Int) := by rw [aeA, ← hu, hs]; rfl
  rw [this, alP (show (aa3 (num t : Int).natAbs).length ≤ 600 by simp; rw [← hu]; exact h3)]
 ·have hn : num t ≠ 0 := by
   intro h0
   rw [h0, abI zc] at hu
   have := h4 (by rw [hu]; rfl)
   cases this.1
  refine ⟨-(num t : Int), ?_, by simp, by simp; omega⟩
  have : s = dec (-(num t : Int)) := by rw [ahT zc, xN, zM, ← hu, hs]; rfl
  rw [this, alP (show (aa3 (-(num t : Int)).natAbs).length ≤ 600 by simp; rw [← hu]; exact h3)]
noncomputable def aRv (s : List UInt8) : SgT × Bool × Unit := match rdW s with | some z => (sg z, true, ()) | none => (([], false, ()), false, ())
theorem aIG (a : List UInt8) (y) (h : afG (a, ()) = some y) : (aBl a).toO = some y := by
 have hy : y = aRv a := by injection h with h; exact h.symm
 clear h
 subst hy
 obtain ⟨t, b, hc⟩ : ∃ t b, abY (a, #[45].toList, ()) = some (t, b, ()) := ⟨_, _, rfl⟩
 have hnot : ¬ (isD t ∧ t ≠ [] ∧ t.length ≤ 600 ∧ (t.head? = some 48 → b = false ∧ t.length = 1)) → aRv a = (([], false, ()), false, ()) := fun h => by unfold aRv; rw [aLr hc h]
 have hyes : isD t → t ≠ [] → t.length ≤ 600 → (t.head? = some 48 → b = false ∧ t.length = 1) → ajQ (t, ()) = some (mag (num t), ()) ∧ aRv a = ((mag (num t), b, ()), true, ()) := fun h1 h2 h3 h4 => by
  obtain ⟨z, e1, e2, e3⟩ := aLq hc h1 h2 h3 h4
  refine ⟨?_, ?_⟩
  ·unfold ajQ
   rw [if_pos ⟨h1, h2, by simp only; omega⟩]
  ·unfold aRv
   rw [e1]
   show ((mag z.natAbs, decide (z < 0), ()), true, ()) = _
   rw [e2, e3]
 unfold aBl
 refine uC (t, b, ()) hc ?_
 by_cases h1 : t = []
 ·rw [hnot (fun h => h.2.1 h1)]
  refine uR _ (uT (by simp [h1, len]) rfl)
 have hlen : 1 ≤ t.length := ya.2 h1
 by_cases h2 : t.length ≤ 600
 case neg =>
  rw [hnot (fun h => h2 h.2.2.1)]
  refine uR _ (uF sd (uT sd rfl))
 refine uL (false, ()) (uF sd (uF sd rfl)) ?_
 refine uO (0, ()) rfl ?_
 refine aaO (fun i : Int × Unit => ∃ k : Nat, i.1 = (k : Int) ∧ k ≤ t.length ∧ isD (t.take k)) (fun i => ((t.length : Int) - i.1).toNat) (fun _ => aRv a) ?_ _ ⟨0, rfl, by omega, by simp [isD]⟩
 rintro ⟨i, u⟩ ⟨k, h3, h4, h5⟩
 simp only at h3
 subst h3
 simp only [aC7, aaM]
 rcases zr k t.length with hk | hk
 ·have e1 : t.getD k 0 = t[k] := by simp [hk]
  simp only [e1]
  by_cases c1 : t[k].toNat < 48
  ·right
   rw [hnot (fun h => by have := h.1 t[k] (yg hk); omega)]
   repeat refine za ?_
   rfl
  by_cases c2 : t[k].toNat > 57
  ·right
   rw [hnot (fun h => by have := h.1 t[k] (yg hk); omega)]
   repeat refine za ?_
   rfl
  ·left
   refine ⟨(((k + 1 : Nat) : Int), ()), ?_, ⟨k + 1, rfl, by omega, ?_⟩, by simp only; omega, ze⟩
   ·repeat refine za ?_
    simp (disch := omega) only [aaK, aaA, aaN, aa0, abP, aaM, zw, zp, aaC, zt]
    rfl
   ·rw [zW hk, isD_append]
    refine ⟨h5, fun c hc => ?_⟩
    have := zZ.1 hc
    subst this
    omega
 ·right
  have hd : isD t := by rwa [zz hk] at h5
  refine uF sd (uN ⟨by simp [asT], by exact sn⟩ ?_)
  cases ht : t with
  | nil => exact absurd ht h1
  | cons c r =>
   rw [← ht]
   have hg : gi t 0 0 = c := by rw [ht]; rfl
   simp only [hg]
   have hh : t.head? = some c := by rw [ht]; rfl
   by_cases c0 : c = 48
   ·subst c0
    refine uT (by rfl) ?_
    cases b
    ·refine uF rfl ?_
     by_cases hl : t.length = 1
     ·obtain ⟨g1, g2⟩ := hyes hd h1 h2 (fun _ => ⟨rfl, hl⟩)
      rw [g2]
      exact uF sd (uC _ g1 rfl)
     ·rw [hnot (fun h => hl (h.2.2.2 hh).2)]
      exact uT sd rfl
    ·rw [hnot (fun h => by have := (h.2.2.2 hh).1; cases this)]
     exact uT rfl rfl
   ·obtain ⟨g1, g2⟩ := hyes hd h1 h2 (fun h => by rw [hh] at h; injection h with h; exact absurd h c0)
    rw [g2]
    refine uF ?_ (uC _ g1 rfl)
    rw [beq_eq_false_iff_ne]
    intro h
    exact c0 (UInt8.toNat_inj.1 (Int.ofNat.inj h))
theorem ac2 {s : List UInt8} {z : Int} (h : rdW s = some z) : afG (s, ()) = some (sg z, true, ()) := by unfold afG; rw [h]
theorem ac3 {s : List UInt8} (h : rdW s = none) : afG (s, ()) = some (([], false, ()), false, ()) := by unfold afG; rw [h]
theorem aFx (a : List UInt8) (y) (h : afI (a, ()) = some y) : (avG a).toO = some y := by
 unfold afI at h
 unfold avG
 cases hr : rdW a with
 | none =>
  simp only [hr] at h
  exact uC _ (ac3 hr) (uT rfl h)
 | some z =>
  simp only [hr] at h
  exact uC _ (ac2 hr) (uF rfl h)
theorem aIH (a b : List UInt8) (y) (h : afH (a, b, ()) = some y) : (aBm a b).toO = some y := by
 unfold afH at h
 unfold aBm
 cases hr : rdW a with
 | none =>
  simp only [hr] at h
  cases hb : rdW b with
  | none => exact uC _ (ac3 hr) (uC _ (ac3 hb) (uT rfl h))
  | some w => exact uC _ (ac3 hr) (uC _ (ac2 hb) (uT rfl h))
 | some z =>
  cases hb : rdW b with
  | none =>
   simp only [hr, hb] at h
   exact uC _ (ac2 hr) (uC _ (ac3 hb) (uF rfl (uT rfl h)))
  | some w =>
   simp only [hr, hb] at h
   exact uC _ (ac2 hr) (uC _ (ac2 hb) (uF rfl (uF rfl h)))
theorem aOm (n : Int) (y) (h : auG (n, ()) = some y) : (aP6 n).toO = some y := by
 unfold auG at h
 split at h
 ·rename_i hp
  exact uC (dec n, ()) (by unfold aA6; exact if_pos hp) h
 ·cases h
theorem aN5 {n : Int} (h : aa8 n) : auG (n, ()) = some (dec n, ()) := by unfold auG; rw [if_pos h]
theorem aE9 {a b : Int} (h1 : Bd 7 a.natAbs) (h2 : Bd 7 b.natAbs) : aiL (sg a, sg b, ()) = some (sg (a * b), ()) := aaI (enc := fun x : Int × Int => (sg x.1, sg x.2, ())) (a, b) ⟨h1, h2⟩ (fun b hb => aBB hb)
theorem anV {s : List UInt8} {z : Int} (h : rdW s = some z) : Bd 0 z.natAbs := al9 (aeL h).1
theorem aKV (a b : List UInt8) (y) (h : as5 (a, b, ()) = some y) : (aFu a b).toO = some y := by
 unfold as5 at h
 unfold aFu
 refine uV (uV ?_)
 cases hr : rdW a with
 | none =>
  simp only [hr] at h
  refine uC (([], false, ()), ([], false, ()), 10, ()) (by unfold afH; simp only [hr]) (uT rfl h)
 | some z =>
  cases hb : rdW b with
  | none =>
   simp only [hr, hb] at h
   refine uC (([], false, ()), ([], false, ()), 10, ()) (by unfold afH; simp only [hr, hb]) (uT rfl h)
  | some w =>
   simp only [hr, hb] at h
   have b1 := anV hr
   have b2 := anV hb
   refine uC (sg z, sg w, 0, ()) (by unfold afH; simp only [hr, hb]) (uF rfl (uV ?_))
   refine uC _ (aE9 (aaH b1 zc) (aaH b2 zc)) ?_
   refine uC _ (arC (aaH (aaB b1 b2) zc)) ?_
   exact h
theorem adX (s : List UInt8) : afI (s, ()) = some (if (rdW s).isSome then 0 else 10, ()) := rfl
theorem aNr (n : Nat) : auC n 1 = 0 ↔ n = 1 := by
 unfold auC
 split
 ·omega
 ·split <;> omega
theorem aJV (a : FxT) (y) (h : abN (a, ()) = some y) : (aCi a).toO = some y := by
 obtain ⟨s, t, u⟩ := a
 have hs := aQc s t
 unfold abN at h
 dsimp only at h
 unfold aCi
 dsimp only
 cases hn : rdW s with
 | none =>
  rw [hn] at hs
  have hs' : rdF (s, t, u) = none := hs
  rw [hs'] at h
  refine uC _ (adX s) (uT (by rw [hn]; rfl) h)
 | some n =>
  cases hd : rdW t with
  | none =>
   rw [hn, hd] at hs
   have hs' : rdF (s, t, u) = none := hs
   rw [hs'] at h
   refine uC _ (adX s) (uF (by rw [hn]; rfl) (uC _ (adX t) (uT (by rw [hd]; rfl) h)))
  | some d =>
   rw [hn, hd] at hs
   dsimp only at hs
   obtain ⟨f1, e1⟩ := aeL hn
   obtain ⟨f2, e2⟩ := aeL hd
   have b1 := anV hn
   have b2 := anV hd
   refine uC _ (adX s) (uF (by rw [hn]; rfl) (uC _ (adX t) (uF (by rw [hd]; rfl) ?_)))
   refine uC (sg n, ()) (by rw [e1]; exact anO (aaH b1 zc)) ?_
   refine uC (sg d, ()) (by rw [e2]; exact anO (aaH b2 zc)) ?_
   refine uC _ (ay3 (aaH b2 zc)) ?_
   by_cases hp : 0 < d
   ·refine uF ?_ ?_
    ·rw [xw hp]; rfl
    have hg := anN (a := n.natAbs) (b := d.natAbs) (aaH b1 zc) (aaH b2 zc)
    refine uC _ hg ?_
    have hc := auH (a := Nat.gcd n.natAbs d.natAbs) (b := 1) (aaH (aaY b1 b2) zc) (aaH (aaG zc) zc)
    rw [asA] at hc
    refine uC _ hc ?_
    by_cases hcop : n.natAbs.Coprime d.natAbs
    ·rw [dif_pos ⟨hp, hcop⟩] at hs
     have hs' : rdF (s, t, u) = some ⟨n, d.natAbs, by omega, hcop⟩ := hs
     rw [hs'] at h
     refine uF ?_ h
     have : auC (Nat.gcd n.natAbs d.natAbs) 1 = 0 := (aNr _).2 hcop
     show (auC (Nat.gcd n.natAbs d.natAbs) 1 != 0) = false
     rw [this]; rfl
    ·rw [dif_neg (fun h => hcop h.2)] at hs
     have hs' : rdF (s, t, u) = none := hs
     rw [hs'] at h
     refine uT ?_ h
     show (auC (Nat.gcd n.natAbs d.natAbs) 1 != 0) = true
     rw [yW]
     exact fun h2 => hcop ((aNr _).1 h2)
   ·rw [dif_neg (fun h => hp h.1)] at hs
    have hs' : rdF (s, t, u) = none := hs
    rw [hs'] at h
    refine uT ?_ h
    rcases zO d 0 with h0 | h0
    ·rw [xg h0]; rfl
    ·have : d = 0 := zc
     rw [this]; rfl
theorem aaQ {s : FxT} {q : Rat} (h : rdF s = some q) : abN (s, ()) = some (rt q, true, ()) := by unfold abN; dsimp only; rw [h]
theorem aaR {s : FxT} (h : rdF s = none) : abN (s, ()) = some ((([], false, ()), [], ()), false, ()) := by unfold abN; dsimp only; rw [h]
theorem aeI {k j : Nat} {q : Rat} (h : BdQ k q) (hk : k ≤ j) : BdQ j q := ⟨aaH h.1 hk, aaH h.2 hk⟩
theorem ahF {s : FxT} {q : Rat} (h : rdF s = some q) : BdQ 0 q := by
 obtain ⟨h1, h2⟩ := (ah7 h).1
 exact ⟨al9 h1, al9 h2⟩
theorem aG9 {k : Nat} {p q : Rat} (h1 : BdQ k p) (h2 : BdQ k q) : BdQ (k + 2) (p + q) := by
 obtain ⟨g, h', top, t, hg, ht, hh, g0, h0, htt, e1, e2⟩ := aE6 p q
 refine ⟨?_, ?_⟩
 ·rw [e1, ← acV htt h0]
  refine aaS _ ?_
  rw [ht]
  exact aaE (aaB h1.1 (aaP (aaS _ h2.2))) (aaB h2.1 (aaP (aaS _ h1.2)))
 ·rw [e2]
  exact aaH (aaW (aaS _ h1.2) (aaS _ h2.2)) zc
theorem aRp {k : Nat} {p : Rat} (h1 : BdQ k p) : BdQ k (-p) := ⟨aaV h1.1, h1.2⟩
theorem aRo {k : Nat} {p q : Rat} (h1 : BdQ k p) (h2 : BdQ k q) : BdQ (k + 2) (p - q) := by
 rw [Rat.sub_eq_add_neg]; exact aG9 h1 (aRp h2)
theorem aNG {k : Nat} {p q : Rat} (h1 : BdQ k p) (h2 : BdQ k q) : BdQ (k + 2) (p * q) := by
 obtain ⟨g, h', s, t, hg, hh, g0, h0, hs, ht, e1, e2⟩ := aD9 p q
 refine ⟨?_, ?_⟩
 ·rw [e1]
  refine aaH (aaB (k := k) ?_ ?_) zc
  ·rw [← acV hs g0]; exact aaS _ h1.1
  ·rw [← acV ht h0]; exact aaS _ h2.1
 ·rw [e2]
  exact aaH (aaW (aaS _ h1.2) (aaS _ h2.2)) zc
theorem aNI {k : Nat} {p : Rat} (h : BdQ k p) (h0 : p ≠ 0) : BdQ k p⁻¹ := by
 obtain ⟨e1, e2, e3⟩ := aEh h0
 exact ⟨by rw [e1]; exact h.2, by rw [e3]; exact h.1⟩
theorem aMW (a b : FxT) (y) (h : adU (a, b, ()) = some y) : (aGN a b).toO = some y := by
 unfold adU aOf at h
 dsimp only at h
 unfold aGN
 refine uV (uV ?_)
 cases ha : rdF a with
 | none =>
  simp only [ha] at h
  cases hb : rdF b with
  | none => exact uC _ (aaR ha) (uC _ (aaR hb) (uT rfl (uV (uV h))))
  | some q => exact uC _ (aaR ha) (uC _ (aaQ hb) (uT rfl (uV (uV h))))
 | some p =>
  cases hb : rdF b with
  | none =>
   simp only [ha, hb] at h
   exact uC _ (aaQ ha) (uC _ (aaR hb) (uF rfl (uT rfl (uV (uV h)))))
  | some q =>
   simp only [ha, hb] at h
   have b1 := ahF ha
   have b2 := ahF hb
   refine uC _ (aaQ ha) (uC _ (aaQ hb) (uF rfl (uF rfl ?_)))
   refine uC _ (aIt (aeI b1 zc) (aeI b2 zc)) (uV (uV ?_))
   exact uC _ (aj7 (aeI (aG9 b1 b2) zc)) h
theorem aMQ (a b : FxT) (y) (h : af5 (a, b, ()) = some y) : (aGH a b).toO = some y := by
 unfold af5 aOf at h
 dsimp only at h
 unfold aGH
 refine uV (uV ?_)
 cases ha : rdF a with
 | none =>
  simp only [ha] at h
  cases hb : rdF b with
  | none => exact uC _ (aaR ha) (uC _ (aaR hb) (uT rfl (uV (uV h))))
  | some q => exact uC _ (aaR ha) (uC _ (aaQ hb) (uT rfl (uV (uV h))))
 | some p =>
  cases hb : rdF b with
  | none =>
   simp only [ha, hb] at h
   exact uC _ (aaQ ha) (uC _ (aaR hb) (uF rfl (uT rfl (uV (uV h)))))
  | some q =>
   simp only [ha, hb] at h
   have b1 := ahF ha
   have b2 := ahF hb
   refine uC _ (aaQ ha) (uC _ (aaQ hb) (uF rfl (uF rfl ?_)))
   refine uC _ (aP2 (aeI b1 zc) (aeI b2 zc)) (uV (uV ?_))
   exact uC _ (aj7 (aeI (aRo b1 b2) zc)) h
theorem aMR (a b : FxT) (y) (h : aeD (a, b, ()) = some y) : (aGI a b).toO = some y := by
 unfold aeD aOf at h
 dsimp only at h
 unfold aGI
 refine uV (uV ?_)
 cases ha : rdF a with
 | none =>
  simp only [ha] at h
  cases hb : rdF b with
  | none => exact uC _ (aaR ha) (uC _ (aaR hb) (uT rfl (uV (uV h))))
  | some q => exact uC _ (aaR ha) (uC _ (aaQ hb) (uT rfl (uV (uV h))))
 | some p =>
  cases hb : rdF b with
  | none =>
   simp only [ha, hb] at h
   exact uC _ (aaQ ha) (uC _ (aaR hb) (uF rfl (uT rfl (uV (uV h)))))
  | some q =>
   simp only [ha, hb] at h
   have b1 := ahF ha
   have b2 := ahF hb
   refine uC _ (aaQ ha) (uC _ (aaQ hb) (uF rfl (uF rfl ?_)))
   refine uC _ (aIs (aeI b1 zc) (aeI b2 zc)) (uV (uV ?_))
   exact uC _ (aj7 (aeI (aNG b1 b2) zc)) h
theorem aMT (a b : FxT) (y) (h : afL (a, b, ()) = some y) : (aGK a b).toO = some y := by
 unfold afL at h
 dsimp only at h
 unfold aGK
 cases ha : rdF a with
 | none =>
  simp only [ha] at h
  cases hb : rdF b with
  | none => exact uC _ (aaR ha) (uC _ (aaR hb) (uT rfl h))
  | some q => exact uC _ (aaR ha) (uC _ (aaQ hb) (uT rfl h))
 | some p =>
  cases hb : rdF b with
  | none =>
   simp only [ha, hb] at h
   exact uC _ (aaQ ha) (uC _ (aaR hb) (uF rfl (uT rfl h)))
  | some q =>
   simp only [ha, hb] at h
   have b1 := ahF ha
   have b2 := ahF hb
   refine uC _ (aaQ ha) (uC _ (aaQ hb) (uF rfl (uF rfl ?_)))
   refine uC _ (arE _) ?_
   by_cases h0 : q = 0
   ·rw [if_pos h0] at h
    exact uT (zo (by rw [h0]; rfl)) h
   ·rw [if_neg h0] at h
    have := aQh h0
    refine uF sd ?_
    refine uC _ (aFe (aeI b2 zc) h0) ?_
    refine uC _ (aIs (aeI b1 zc) (aeI (aNI b2 h0) zc)) ?_
    exact uC _ (aj7 (aeI (aNG b1 (aNI b2 h0)) zc)) h
theorem aMU (a b : FxT) (y) (h : ah4 (a, b, ()) = some y) : (aGL a b).toO = some y := by
 unfold ah4 at h
 dsimp only at h
 unfold aGL
 refine uV (uV ?_)
 cases ha : rdF a with
 | none =>
  simp only [ha] at h
  cases hb : rdF b with
  | none => exact uC _ (aaR ha) (uC _ (aaR hb) (uT rfl h))
  | some q => exact uC _ (aaR ha) (uC _ (aaQ hb) (uT rfl h))
 | some p =>
  cases hb : rdF b with
  | none =>
   simp only [ha, hb] at h
   exact uC _ (aaQ ha) (uC _ (aaR hb) (uF rfl (uT rfl h)))
  | some q =>
   simp only [ha, hb] at h
   have b1 := ahF ha
   have b2 := ahF hb
   exact uC _ (aaQ ha) (uC _ (aaQ hb) (uF rfl (uF rfl (uC _ (aKF (aeI b1 zc) (aeI b2 zc)) h))))
theorem aGM (a : FxT) (y) (h : aq8 (a, ()) = some y) : (axD a).toO = some y := by
 unfold aq8 at h
 dsimp only at h
 unfold axD
 cases ha : rdF a with
 | none =>
  simp only [ha] at h
  exact uC _ (aaR ha) (uT rfl h)
 | some q =>
  simp only [ha] at h
  exact uC _ (aaQ ha) (uF rfl h)
theorem aJY (a : FxT) (y) (h : aq6 (a, ()) = some y) : (aCk a).toO = some y := by
 unfold aq6 at h
 dsimp only at h
 unfold aCk
 cases ha : rdF a with
 | none =>
  simp only [ha] at h
  exact uC _ (aaR ha) (uT rfl h)
 | some q =>
  simp only [ha] at h
  exact uC _ (aaQ ha) (uF rfl (uC _ (ay3 (aaH (ahF ha).1 zc)) h))
theorem aQ5 {z : Int} (h : Fit z) : (mag z.natAbs).length ≤ 600 := aiY h
theorem aQl {n : Nat} (h : (mag n).length ≤ 1000000) : Bd 0 n := h
theorem aQi {a : Int} {d : Nat} {k : Nat} (h : (mag a.natAbs).length ≤ k) (hk : 1 ≤ k) : (mag (a / (d : Int)).natAbs).length ≤ k + 1 := by
 rcases zE d with h0 | h0
 ·subst h0
  simp only [Int.natCast_zero, Int.ediv_zero, vN, mag_zero]
  simp
 ·have hle : (a / (d : Int)).natAbs ≤ a.natAbs + 1 := by
   rcases zO a 0 with h1 | h1
   ·rw [asJ h1 zc, xN, zM]
    have := xo a.natAbs d
    split <;> omega
   ·obtain ⟨n, rfl⟩ := zv h1
    have : ((n : Int) / (d : Int)) = ((n / d : Nat) : Int) := zi
    rw [this, zM]
    have := xo n d
    omega
  have h2 := abR hle
  have h3 := aiX a.natAbs 1
  have h4 : (mag 1).length = 1 := by rw [asA]; rfl
  omega
theorem aGJ (a : FxT) (y) (h : aj3 (a, ()) = some y) : (axC a).toO = some y := by
 unfold aj3 at h
 dsimp only at h
 unfold axC
 cases ha : rdF a with
 | none =>
  simp only [ha] at h
  exact uC _ (aaR ha) (uT rfl h)
 | some q =>
  simp only [ha] at h
  have b := ahF ha
  refine uC _ (aaQ ha) (uF rfl ?_)
  refine uC _ (aBh (aaH b.1 zc) (aaH b.2 zc) q.den_nz) ?_
  refine uC _ (ay2 (aQl ?_)) h
  have := aQi (d := q.den) (aQ5 (ah7 ha).1.1) zc
  omega
theorem aJ0 (n d : List UInt8) (y) (h : aq7 (n, d, ()) = some y) : (aCm n d).toO = some y := by
 unfold aq7 at h
 dsimp only at h
 unfold aCm
 cases hn : rdW n with
 | none =>
  simp only [hn] at h
  exact uC _ (adX n) (uT (by rw [hn]; rfl) h)
 | some a =>
  cases hd : rdW d with
  | none =>
   simp only [hn, hd] at h
   exact uC _ (adX n) (uF (by rw [hn]; rfl) (uC _ (adX d) (uT (by rw [hd]; rfl) h)))
  | some b =>
   simp only [hn, hd] at h
   have b1 := anV hn
   have b2 := anV hd
   refine uC _ (adX n) (uF (by rw [hn]; rfl) (uC _ (adX d) (uF (by rw [hd]; rfl) ?_)))
   refine uC (sg a, ()) (by rw [(aeL hn).2]; exact anO (aaH b1 zc)) ?_
   refine uC (sg b, ()) (by rw [(aeL hd).2]; exact anO (aaH b2 zc)) ?_
   refine uC _ (arE _) ?_
   unfold ofQ at h
   by_cases h0 : b = 0
   ·rw [if_pos h0] at h
    exact uT sd h
   ·rw [if_neg h0] at h
    refine uF sd ?_
    obtain ⟨s, hs, hv⟩ : ∃ s : Int, s.natAbs = a.natAbs ∧ (s = 0 ∨ (!(decide (a < 0) == decide (b < 0))) = decide (s < 0)) ∧ Rat.divInt a b = mkRat s b.natAbs := by
     rcases zO b 0 with c | c
     ·refine ⟨-a, by omega, ?_, ?_⟩
      ·by_cases ha : a = 0
       ·left; omega
       ·right
        rw [zo c]
        rcases zO a 0 with c2 | c2
        ·rw [zo c2, zn zc]; rfl
        ·rw [zn zc, zo zc]; rfl
      ·rw [← Rat.neg_divInt_neg, ← xP]
       congr 1; omega
     ·refine ⟨a, rfl, ?_, ?_⟩
      ·right
       rw [zn (show ¬ b < 0 by omega)]
       cases decide (a < 0) <;> rfl
      ·rw [← xP]
       congr 1; omega
    obtain ⟨hv1, hv2⟩ := hv
    rw [hv2] at h
    refine uC (sg s, ()) (abV hs.symm hv1) ?_
    refine uC _ (aHl (by rw [hs]; exact aaH b1 zc) (aaH b2 zc) zc) ?_
    refine uC _ (aj7 ?_) h
    obtain ⟨g, t, hg, g0, e0, e1, e2⟩ := aeO s (d := b.natAbs) zc
    refine ⟨?_, ?_⟩
    ·rw [e1, ← acV e0 g0, hs]; exact aaH (aaS _ b1) zc
    ·rw [e2]; exact aaH (aaS _ b2) zc
theorem abJ {z : Int} (h : aa8 z) : Fit z := by
 unfold aa8 at h
 have : (aa3 z.natAbs).length ≤ 20 := (abF zc).2 zc
 unfold Fit; omega
theorem aPF (n d : Int) (y) (h : amI (n, d, ()) = some y) : (aQj n d).toO = some y := by
 unfold amI at h
 split at h
 ·rename_i hp
  refine uC _ (aN5 hp.1) (uC _ (aN5 hp.2) ?_)
  refine uC (ofQ n d) ?_ h
  unfold aq7
  simp only [alP (abJ hp.1), alP (abJ hp.2)]
 ·cases h
theorem ayW {z : Int} (h : Fit z) : ak2 (dec z, ()) = some (if aa8 z then (z, 0, ()) else (0, 6, ())) := by
 unfold ak2
 simp only [alP h]
theorem aAy {z : Int} (h : Fit z) : (mag z.natAbs).length ≤ 67 := by
 have hl : (aa3 z.natAbs).length ≤ 600 := h
 obtain ⟨L, hL⟩ : ∃ L : Nat, L = 67 := ⟨_, rfl⟩
 rw [← hL, mag_length_le_iff]
 have h1 := afU z.natAbs
 have h3 : (10 : Nat) ^ (9 * L) = 1000000000 ^ L := by rw [xi]
 have h2 : (10 : Nat) ^ (aa3 z.natAbs).length ≤ 10 ^ (9 * L) := zU zc zc
 omega
theorem aPi {q : Rat} (h : adK q) {s : Nat} (hs : s ≤ 1000000000000) : (mag (apU q s).natAbs).length ≤ 200 := by
 rw [aMk]
 have h1 := aAy h.1
 have h2 := aAy h.2
 have hs2 : (mag (s * 2)).length ≤ 2 := mag_length_le_iff.2 zc
 have e1 : (mag (q.num * (s * 2 : Nat) + q.den).natAbs).length ≤ 100 := by
  have a1 := Int.natAbs_add_le (q.num * (s * 2 : Nat)) q.den
  have a2 := abR a1
  have a3 := aiX (q.num * (s * 2 : Nat)).natAbs (q.den : Int).natAbs
  rw [yy] at a3 a2
  have a4 := agD q.num.natAbs ((s * 2 : Nat) : Int).natAbs
  simp only [zM] at a1 a2 a3 a4 h2 ⊢
  omega
 have := aQi (d := q.den * 2) e1 zc
 omega
theorem aJZ (a : FxT) (scale : Int) (y) (h : ak4 (a, scale, ()) = some y) : (aCl a scale).toO = some y := by
 unfold ak4 at h
 dsimp only at h
 unfold aCl
 cases ha : rdF a with
 | none =>
  simp only [ha] at h
  exact uC _ (aaR ha) (uT rfl h)
 | some q =>
  simp only [ha] at h
  refine uC _ (aaQ ha) (uF rfl ?_)
  have hq := (ah7 ha).1
  have hb := ahF ha
  by_cases h1 : scale < 1
  ·rw [if_pos (Or.inl h1)] at h
   exact uT (zo h1) h
  by_cases h2 : scale > 1000000000000
  ·rw [if_pos (Or.inr h2)] at h
   exact uF (zn h1) (uT (zo h2) h)
  rw [if_neg zc] at h
  obtain ⟨s, rfl⟩ := zv (show 0 ≤ scale by omega)
  rw [zp] at h
  refine uF (zn h1) (uF (zn h2) ?_)
  have hl := aPi hq (s := s) zc
  refine uC (mag s, ()) (by rw [aaN zc]; exact aCT zc) ?_
  refine uC _ (aN9 (aeI hb zc) (aaH (aaG zc) zc)) ?_
  refine uC _ (ay2 (aQl zc)) ?_
  by_cases hf : Fit (apU q s)
  ·refine uC _ (ayW hf) ?_
   by_cases hi : aa8 (apU q s)
   ·simp only [if_pos hi] at h ⊢
    exact uF rfl h
   ·simp only [if_neg hi] at h ⊢
    exact uT rfl h
  ·have hn : rdW (dec (apU q s)) = none := aHB fun z hz he => hf (by rw [← akP he]; exact hz)
   rw [if_neg (fun h => hf (abJ h))] at h
   refine uC (0, 10, ()) (by unfold ak2; simp only [hn]) (uT rfl h)
theorem acP {z : Int} (h : Fit z) : acX (sg z, ()) = some (dec z, 0, ()) := by
 rw [arC (aaH (al9 h) zc), aiU h]
theorem afA {a b : Int} (h : Fit b) (hab : a.natAbs ≤ b.natAbs) : Fit a := by
 unfold Fit at *
 rw [abF zc] at *
 omega
theorem aPM {a b : Int} (hb : b ≠ 0) : (a < 0 → (a / b).natAbs = (if a.natAbs % b.natAbs = 0 then a.natAbs / b.natAbs else a.natAbs / b.natAbs + 1) ∧ (a % b).natAbs = (if a.natAbs % b.natAbs = 0 then 0 else b.natAbs - a.natAbs % b.natAbs)) ∧ (0 ≤ a → (a / b).natAbs = a.natAbs / b.natAbs ∧ (a % b).natAbs = a.natAbs % b.natAbs) := by
 obtain ⟨d, hd, hbd⟩ : ∃ d : Nat, b.natAbs = d ∧ (b = d ∨ b = -(d : Int)) := ⟨b.natAbs, rfl, by omega⟩
 have hd0 : d ≠ 0 := zc
 have e1 : (a / b).natAbs = (a / (d : Int)).natAbs := by
  rcases hbd with h | h
  ·rw [h]
  ·rw [h, Int.ediv_neg, xN]
 have e2 : a % b = a % (d : Int) := by
  rcases hbd with h | h
  ·rw [h]
  ·rw [h, Int.emod_neg]
 rw [e1, e2, hd]
 constructor
 ·intro ha
  have h1 := asJ ha hd0
  have h2 := ym a d
  have h3 := xY a.natAbs d
  have h4 := yX a.natAbs (show 0 < d by omega)
  generalize hq : a.natAbs / d = q at *
  generalize hr : a.natAbs % d = r at *
  rw [h1] at h2
  constructor
  ·rw [h1, xN, zM]
  ·by_cases h0 : r = 0
   ·rw [if_pos h0] at h2 ⊢
    have : (a.natAbs : Int) = ((r + d * q : Nat) : Int) := by rw [h3]
    rw [vl, yq] at this
    have e3 : (d : Int) * -(q : Int) = -((d : Int) * q) := by rw [Int.mul_neg]
    rw [e3] at h2
    generalize (d : Int) * q = w at *
    omega
   ·rw [if_neg h0] at h2 ⊢
    have : (a.natAbs : Int) = ((r + d * q : Nat) : Int) := by rw [h3]
    rw [vl, yq] at this
    have e3 : (d : Int) * -(((q + 1 : Nat)) : Int) = -((d : Int) * q) - d := by rw [Int.mul_neg, vl, wx]; simp; omega
    rw [e3] at h2
    generalize (d : Int) * q = w at *
    omega
 ·intro ha
  obtain ⟨n, rfl⟩ := zv ha
  have h1 : ((n : Int) / (d : Int)) = ((n / d : Nat) : Int) := zi
  have h2 : ((n : Int) % (d : Int)) = ((n % d : Nat) : Int) := zi
  exact ⟨by rw [h1, zM, zM], by rw [h2, zM, zM]⟩
theorem aM6 {a b : Int} (hb : b ≠ 0) : a / b = 0 ∨ (!(decide (a < 0) == decide (b < 0))) = decide (a / b < 0) := by
 by_cases h0 : a / b = 0
 ·exact Or.inl h0
 ·right
  rcases zO a 0 with ha | ha <;> rcases zO b 0 with hb' | hb'
  ·have := Int.ediv_nonneg_of_nonpos_of_nonpos (xf ha) (xf hb')
   rw [zo ha, zo hb', zn zc]; rfl
  ·have := Int.ediv_neg_of_neg_of_pos ha (show 0 < b by omega)
   rw [zo ha, zn zc, zo zc]; rfl
  ·have := Int.ediv_nonpos_of_nonneg_of_nonpos ha (xf hb')
   rw [zn zc, zo hb', zo zc]; rfl
  ·have := xJ ha hb'
   rw [zn zc, zn zc, zn zc]; rfl
theorem aKX (a b : List UInt8) (y) (h : as6 (a, b, ()) = some y) : (aFw a b).toO = some y := by
 unfold as6 at h
 dsimp only at h
 unfold aFw arJ
 cases hr : rdW a with
 | none =>
  simp only [hr] at h
  exact uC (([], false, ()), ([], false, ()), 10, ()) (by unfold afH; simp only [hr]) (uT rfl h)
 | some z =>
  cases hb : rdW b with
  | none =>
   simp only [hr, hb] at h
   exact uC (([], false, ()), ([], false, ()), 10, ()) (by unfold afH; simp only [hr, hb]) (uT rfl h)
  | some w =>
   simp only [hr, hb] at h
   have b1 := anV hr
   have b2 := anV hb
   have f1 := (aeL hr).1
   have f2 := (aeL hb).1
   refine uC (sg z, sg w, 0, ()) (by unfold afH; simp only [hr, hb]) (uF rfl ?_)
   refine uC _ (ayS _) ?_
   by_cases h0 : w = 0
   ·rw [if_pos h0] at h
    exact uT sd h
   rw [if_neg h0] at h
   refine uF sd ?_
   have hdv := ayU (a := z.natAbs) (b := w.natAbs) (aaH b1 zc) (aaH b2 zc) zc
   obtain ⟨en, ep⟩ := aPM (a := z) h0
   have hsg := aM6 (a := z) h0
   have hr0 := yR z h0
   have hrlt : (z % w).natAbs < w.natAbs := by
    rcases zO w 0 with c | c
    ·have := yC z (show 0 < -w by omega)
     rw [Int.emod_neg] at this
     omega
    ·have := yC z (show 0 < w by omega)
     omega
   have fr : Fit (z % w) := afA f2 zc
   have hq1 := xo z.natAbs w.natAbs
   have fq : Fit (z / w) := by
    refine afA f1 ?_
    rcases zO z 0 with c | c
    ·rw [(en c).1]
     split
     ·exact hq1
     ·rename_i hm
      have : 2 ≤ w.natAbs := by
       rcases zr w.natAbs 2 with c2 | c2
       ·have : w.natAbs = 1 := zc
        rw [this, Nat.mod_one] at hm; exact absurd rfl hm
       ·exact c2
      have h2 := Nat.div_le_div_left this (show 0 < 2 by omega) (a := z.natAbs)
      omega
    ·rw [(ep c).1]; exact hq1
   have tail : ∀ (q r : Nat) (b : Bool), q = (z / w).natAbs → r = (z % w).natAbs → (b = (!(decide (z < 0) == decide (w < 0)))) → aiM (mag q, b, ()) = some (sg (z / w), ()) ∧ aiM (mag r, false, ()) = some (sg (z % w), ()) := by
    intro q r b hq hr2 hb2
    refine ⟨aA8 hq ?_, aA8 hr2 (Or.inr (zn zc).symm)⟩
    rw [hb2]; exact hsg
   refine uC _ hdv ?_
   by_cases c : z < 0
   ·refine uT (zo c) ?_
    refine uC _ (ayS _) ?_
    obtain ⟨g1, g2⟩ := en c
    by_cases hm : z.natAbs % w.natAbs = 0
    ·rw [if_pos hm] at g1 g2
     obtain ⟨u1, u2⟩ := tail _ _ (!(decide (z < 0) == decide (w < 0))) g1.symm (hm.trans g2.symm) rfl
     refine uF (by show (!decide _) = false; rw [zo hm]; rfl) ?_
     refine uC _ u1 (uC _ (acP fq) (uF rfl ?_))
     exact uC _ u2 (uC _ (acP fr) (uF rfl h))
    ·rw [if_neg hm] at g1 g2
     have hlt := yX z.natAbs (show 0 < w.natAbs by omega)
     obtain ⟨u1, u2⟩ := tail _ _ (!(decide (z < 0) == decide (w < 0))) g1.symm g2.symm rfl
     refine uT (by show (!decide _) = true; rw [zn hm]; rfl) ?_
     have hp := aFa (a := z.natAbs / w.natAbs) (b := 1) (aaH (aaS _ b1) zc) (aaH (aaG zc) zc)
     rw [asA] at hp
     refine uC _ hp ?_
     refine uC _ (aKB (aaH b2 zc) zc) ?_
     refine uC _ u1 (uC _ (acP fq) (uF rfl ?_))
     exact uC _ u2 (uC _ (acP fr) (uF rfl h))
   ·refine uF (zn c) ?_
    obtain ⟨g1, g2⟩ := ep zc
    obtain ⟨u1, u2⟩ := tail _ _ (!(decide (z < 0) == decide (w < 0))) g1.symm g2.symm rfl
    refine uC _ u1 (uC _ (acP fq) (uF rfl ?_))
    exact uC _ u2 (uC _ (acP fr) (uF rfl h))
theorem anW (n : Nat) : ∀ k : Nat, (mag (n ^ k)).length ≤ k * (mag n).length + 1
 | 0 => by simp [asA]
 | k + 1 => by
  have h1 := anW n k
  have h2 := agD (n ^ k) n
  rw [yD, yP]
  rcases zE (mag n).length with h3 | h3
  ·have : n = 0 := mag_nil_iff.1 (zV.1 h3)
   subst this
   simp [mag_zero]
  ·omega
theorem aA7 {a n : Nat} (h1 : Bd 2 a) (h2 : n ≤ 40) : ajP (mag a, (n : Int), ()) = some (mag (a ^ n), ()) := by
 refine aaI (enc := fun x : Nat × Nat => (mag x.1, (x.2 : Int), ())) (a, n) ⟨h1, h2⟩ (fun b hb => ?_)
 obtain ⟨e1, e2⟩ := Prod.mk.inj hb
 obtain ⟨e2, -⟩ := Prod.mk.inj e2
 exact Prod.ext (adO e1) (Int.ofNat.inj e2)
theorem aNK {a n : Nat} (h1 : Bd 2 a) (h2 : n ≤ 40) : Bd 7 (a ^ n) := by
 have h3 := anW a n
 unfold Bd at *
 have h4 : n * (mag a).length ≤ 40 * (1000000 * 4 ^ 2) := Nat.mul_le_mul h2 h1
 omega
theorem aC5 (m : List Int) (n : Int) (y) (h : ajP (m, n, ()) = some y) : (azY m n).toO = some y := by
 obtain ⟨⟨a, k⟩, hp, hx, rfl⟩ := aaD h
 obtain ⟨rfl, hx2⟩ := Prod.mk.inj hx; obtain ⟨rfl, -⟩ := Prod.mk.inj hx2; dsimp only
 obtain ⟨l1, l2⟩ := hp
 simp only at l1 l2
 refine uO (0, [1], ()) rfl ?_
 refine aaO (fun i : Int × List Int × Unit => ∃ j : Nat, j ≤ k ∧ i = ((j : Int), mag (a ^ j), ())) (fun i => ((k : Int) - i.1).toNat) (fun _ => (mag (a ^ k), ())) ?_ _ ⟨0, by omega, by rw [Nat.pow_zero, asA]; rfl⟩
 rintro i ⟨j, hj, rfl⟩
 simp only [avE]
 rcases zr j k with h1 | h1
 ·left
  refine ⟨(((j + 1 : Nat) : Int), mag (a ^ (j + 1)), ()), ?_, ⟨j + 1, by omega, rfl⟩, by simp only; omega, ze⟩
  refine uT sd ?_
  refine uC (mag (a ^ (j + 1)), ()) (by rw [atA (aaH l1 zc) (aaH (aNK l1 zc) zc), yD, yH]) ?_
  repeat refine za ?_
  simp (disch := omega) only [aaK, aaA, aaN, aa0, abP, aaM, zw, zp, aaC, zt]
  rfl
 ·right
  have : j = k := zc
  subst this
  refine uF sd rfl
theorem aKU (a : List UInt8) (n : Int) (y) (h : amF (a, n, ()) = some y) : (aFt a n).toO = some y := by
 unfold amF at h
 dsimp only at h
 unfold aFt
 cases hr : rdW a with
 | none =>
  simp only [hr] at h
  exact uC _ (ac3 hr) (uT rfl h)
 | some z =>
  simp only [hr] at h
  have b1 := anV hr
  refine uC _ (ac2 hr) (uF rfl ?_)
  by_cases h1 : n < 0
  ·rw [if_pos (Or.inl h1)] at h
   exact uT (zo h1) h
  by_cases h2 : n > 40
  ·rw [if_pos (Or.inr h2)] at h
   exact uF (zn h1) (uT (zo h2) h)
  rw [if_neg zc] at h
  obtain ⟨k, rfl⟩ := zv (show 0 ≤ n by omega)
  rw [zp] at h
  refine uF (zn h1) (uF (zn h2) ?_)
  have hk : k ≤ 40 := zc
  refine uC _ (aA7 (aaH b1 zc) hk) ?_
  have bp := aNK (aaH b1 (show 0 ≤ 2 by omega)) hk
  have hw : acX (sg (z ^ k), ()) = some (wrW (z ^ k)) := arC (by rw [vw]; exact aaH bp zc)
  by_cases hz : z < 0
  ·refine uT (zo hz) (uV ?_)
   refine uC (sg (z ^ k), ()) (aA8 (by rw [vw]) ?_) (uC _ hw h)
   right
   obtain ⟨w, hw0, rfl⟩ : ∃ w : Int, 0 < w ∧ z = -w := ⟨-z, by omega, by omega⟩
   rw [zH zc]
   have hpos : 0 < w ^ k := yK hw0
   rcases Nat.mod_two_eq_zero_or_one k with hm | hm
   ·have e : (-w) ^ k = w ^ k := by
     obtain ⟨j, rfl⟩ : ∃ j, k = 2 * j := ⟨k / 2, by omega⟩
     rw [Int.pow_mul, Int.pow_mul]; congr 1; simp only [zY, Int.pow_zero, Int.one_mul, Int.neg_mul_neg]
    rw [e, zn (show ¬ w ^ k < 0 by omega)]
    rw [beq_eq_false_iff_ne]; omega
   ·have e : (-w) ^ k = -(w ^ k) := by
     obtain ⟨j, rfl⟩ : ∃ j, k = 2 * j + 1 := ⟨k / 2, by omega⟩
     rw [zY, zY, Int.pow_mul, Int.pow_mul]
     have : (-w) ^ 2 = w ^ 2 := by simp only [zY, Int.pow_zero, Int.one_mul, Int.neg_mul_neg]
     rw [this, Int.mul_neg]
    rw [e, zo (show -(w ^ k) < 0 by omega)]
    rw [yJ]; omega
  ·refine uF (zn hz) ?_
   have : 0 ≤ z ^ k := Int.pow_nonneg zc
   refine uC (sg (z ^ k), ()) (aA8 (by rw [vw]) (Or.inr (zn zc).symm)) (uC _ hw h)
theorem aHj {n : Nat} (h : n ≤ 100000000) : ak1 ((n : Int), ()) = some (mag (10 ^ n), ()) := aaI (enc := fun x : Nat => ((x : Int), ())) n h (fun b hb => Int.ofNat.inj (Prod.mk.inj hb).1)
theorem aBk (n : Int) (y) (h : ak1 (n, ()) = some y) : (an6 n).toO = some y := by
 obtain ⟨k, hp, hx, rfl⟩ := aaD h
 obtain ⟨rfl, -⟩ := Prod.mk.inj hx
 have e1 : Int.tdiv (k : Int) 9 = ((k / 9 : Nat) : Int) := by rw [zN zc]; omega
 have e2 : Int.tmod (k : Int) 9 = ((k % 9 : Nat) : Int) := by rw [zH zc]; omega
 have e3 : w64 ((k / 9 : Nat) : Int) = ((k / 9 : Nat) : Int) := aaA zc
 have e4 : w64 (((k / 9 : Nat) : Int) + 1) = ((k / 9 + 1 : Nat) : Int) := by rw [aaA zc]; omega
 unfold an6
 simp only [e1, e3, e4]
 refine uV (uN zc (uV ?_))
 refine uO (0, 1, ()) rfl ?_
 refine aaO (fun i : Int × Int × Unit => ∃ j : Nat, j ≤ k % 9 ∧ i = ((j : Int), ((10 ^ j : Nat) : Int), ())) (fun i => (((k % 9 : Nat) : Int) - i.1).toNat) (fun _ => (mag (10 ^ k), ())) ?_ _ ⟨0, by omega, rfl⟩
 rintro i ⟨j, hj, rfl⟩
 have hj9 : (10 : Nat) ^ j ≤ 10 ^ 8 := zU zc zc
 have hp0 : (0 : Int) ≤ ((10 ^ j : Nat) : Int) := Int.natCast_nonneg _
 have hp8 : ((10 ^ j : Nat) : Int) ≤ 100000000 := wN.2 hj9
 simp only [atG, e1, e2, e3, e4]
 rcases zr j (k % 9) with h1 | h1
 ·left
  refine ⟨(((j + 1 : Nat) : Int), ((10 ^ (j + 1) : Nat) : Int), ()), ?_, ⟨j + 1, by omega, rfl⟩, by simp only; omega, ze⟩
  repeat refine za ?_
  rw [aa0 (x := ((10 ^ j : Nat) : Int) * 10) zc, aaA (x := (j : Int) + 1) zc, yD, yq]
  rfl
 ·right
  have hjk : j = k % 9 := zc
  refine uF sd (uV (uN sd ?_))
  simp only [zp, zw, aaK]
  rw [zz zi]
  have hd : Dg 1000000000 ((List.replicate (k / 9 + 1) 0).set (k / 9) ((10 ^ j : Nat) : Int)) := aiT (agH zc _) ⟨by omega, by omega⟩ _
  have hv : V 1000000000 ((List.replicate (k / 9 + 1) 0).set (k / 9) ((10 ^ j : Nat) : Int)) = ((10 ^ k : Nat) : Int) := by
   rw [ayK _ zi, as2, aiZ zi]
   simp only [List.getElem_replicate, wO, vu]
   have : (10 : Nat) ^ k = 1000000000 ^ (k / 9) * 10 ^ j := by
    rw [show (1000000000 : Nat) = 10 ^ 9 by decide, ← xi, ← xv, hjk, Nat.div_add_mod]
   rw [this]; simp
  rw [apX hd (aIx zc hd (Or.inr ?_)) hv]
  rw [hv]
  simp only [xn, xV, xC]
  have h6 : (1000000000 : Nat) ^ (k / 9) ≤ 10 ^ k := by
   rw [show (1000000000 : Nat) = 10 ^ 9 by decide, ← xi]
   exact zU zc zc
  have h7 : ((1000000000 ^ (k / 9) : Nat) : Int) ≤ ((10 ^ k : Nat) : Int) := wN.2 h6
  simpa using h7
theorem aB5 {k n r : Nat} (hk : 1 ≤ k) (h1 : r ^ k ≤ n) (h2 : n < (r + 1) ^ k) : adR k n = r := by
 have hex : ∃ r, r ^ k ≤ n ∧ n < (r + 1) ^ k := ⟨r, h1, h2⟩
 unfold adR
 rw [dif_pos hex]
 obtain ⟨g1, g2⟩ := hex.choose_spec
 generalize hex.choose = q at *
 rcases Nat.lt_trichotomy q r with h | h | h
 ·have := yw (show q + 1 ≤ r by omega) k; omega
 ·exact h
 ·have := yw (show r + 1 ≤ q by omega) k; omega
theorem aPt (k n : Nat) (hk : 1 ≤ k) : ∃ r, r ^ k ≤ n ∧ n < (r + 1) ^ k := by
 have H : ∀ m, (∃ r, r ^ k ≤ n ∧ n < (r + 1) ^ k) ∨ m ^ k ≤ n := by
  intro m
  induction m with
  | zero => right; rw [Nat.zero_pow hk]; omega
  | succ m ih =>
   rcases ih with h | h
   ·exact Or.inl h
   ·rcases zr n ((m + 1) ^ k) with h2 | h2
    ·exact Or.inl ⟨m, h, h2⟩
    ·exact Or.inr h2
 rcases H (n + 1) with h | h
 ·exact h
 ·have : n + 1 ≤ (n + 1) ^ k := Nat.le_self_pow zc _
  omega
theorem ajH {k : Nat} (n : Nat) (hk : 1 ≤ k) : (adR k n) ^ k ≤ n ∧ n < (adR k n + 1) ^ k := by
 obtain ⟨r, h1, h2⟩ := aPt k n hk
 rw [aB5 hk h1 h2]; exact ⟨h1, h2⟩
theorem aK5 (r x : Int) (hr : 0 ≤ r) (hx : 0 ≤ x) : ∀ k : Nat, x ^ (k + 1) + (k + 1 : Nat) * x ^ k * (r - x) ≤ r ^ (k + 1)
 | 0 => by simp [zY]; omega
 | k + 1 => by
  have ih := aK5 r x hr hx k
  have h1 := zD ih hr
  have h2 : 0 ≤ (k + 1 : Nat) * x ^ k * ((r - x) * (r - x)) := ye (ye zc (Int.pow_nonneg hx)) (by
   rcases zO (r - x) 0 with h | h
   ·exact xf (wo h h)
   ·exact ye h h)
  have e1 : r ^ (k + 1 + 1) = r * r ^ (k + 1) := by rw [zY, yN]
  have e2 : x ^ (k + 1 + 1) = x * (x * x ^ k) := by rw [zY, zY]; grind
  have e3 : x ^ (k + 1) = x * x ^ k := by rw [zY, yN]
  rw [e1, e2, e3]
  rw [e3] at h1
  have e4 : ((k + 1 + 1 : Nat) : Int) = ((k + 1 : Nat) : Int) + 1 := zc
  rw [e4]
  generalize ((k + 1 : Nat) : Int) = K at *
  generalize x ^ k = P at *
  generalize r ^ (k + 1) = R at *
  have e5 : r * (x * P + K * P * (r - x)) = x * (x * P) + (K + 1) * (x * P) * (r - x) + K * P * ((r - x) * (r - x)) := by grind
  omega
theorem aMj {m r x k : Nat} (hk : 1 ≤ k) (hx : 0 < x) (h : r ^ k ≤ m) : r ≤ (x * (k - 1) + m / x ^ (k - 1)) / k := by
 rw [xZ zc]
 obtain ⟨j, rfl⟩ : ∃ j, k = j + 1 := ⟨k - 1, by omega⟩
 simp only [xC]
 rcases zr (x * j) (r * (j + 1)) with h1 | h1
 ·have hp : 0 < x ^ j := yS hx
  have h2 : r * (j + 1) - x * j ≤ m / x ^ j := by
   rw [xZ hp]
   have ht := aK5 (r : Int) (x : Int) zc zc j
   have h3 : ((r ^ (j + 1) : Nat) : Int) ≤ (m : Int) := wN.2 h
   rw [we] at h3
   have h4 : (((r * (j + 1) - x * j) * x ^ j : Nat) : Int) ≤ (m : Int) := by
    rw [yq, Int.natCast_sub (vt h1), yq, yq, we]
    have e1 : (x : Int) ^ (j + 1) = x * (x : Int) ^ j := by rw [zY, yN]
    rw [e1] at ht
    have e2 : ((j + 1 : Nat) : Int) = (j : Int) + 1 := zc
    rw [e2] at ht ⊢
    generalize (x : Int) ^ j = P at *
    generalize (j : Int) = J at *
    have e3 : ((r : Int) * (J + 1) - x * J) * P = x * P + (J + 1) * P * (r - x) := by grind
    rw [e3]
    omega
   exact wN.1 h4
  generalize m / x ^ j = M at *
  generalize x * j = A at *
  generalize r * (j + 1) = C at *
  omega
 ·exact zC h1 (xk _ _)
theorem aMi {m x k : Nat} (hk : 1 ≤ k) (hx : 0 < x) (h : m < x ^ k) : (x * (k - 1) + m / x ^ (k - 1)) / k < x := by
 obtain ⟨j, rfl⟩ : ∃ j, k = j + 1 := ⟨k - 1, by omega⟩
 simp only [xC]
 have hp : 0 < x ^ j := yS hx
 have h2 : m / x ^ j < x := by
  rw [yF hp, yH]
  rwa [yD] at h
 rw [yF zc, Nat.mul_add]
 omega
theorem aFo (m : List Int) (k : Int) (y) (h : aqT (m, k, ()) = some y) : (aC4 m k).toO = some y := by
 obtain ⟨⟨n, q⟩, hp, hx, rfl⟩ := aaD h
 obtain ⟨rfl, hx2⟩ := Prod.mk.inj hx; obtain ⟨rfl, -⟩ := Prod.mk.inj hx2; dsimp only
 obtain ⟨l1, l2, l3⟩ := hp
 simp only at l1 l2 l3
 have hdl := aIc l1
 refine uC _ (ayS n) ?_
 by_cases h0 : n = 0
 ·refine uT (zo h0) ?_
  subst h0
  rw [aB5 (r := 0) l2 (by rw [Nat.zero_pow l2]; omega) zi, mag_zero]
  rfl
 refine uF (zn h0) ?_
 refine uC _ (ayT (aaH l1 zc)) (uN zc ?_)
 have hle := xo (aa3 n).length q
 have hL : (aa3 n).length ≤ ((aa3 n).length / q + 1) * q := by
  have h3 := xY (aa3 n).length q
  have h4 := yX (aa3 n).length (show 0 < q by omega)
  rw [yP, yH ((aa3 n).length / q) q]
  omega
 have e1 : Int.tdiv ((aa3 n).length : Int) (q : Int) = (((aa3 n).length / q : Nat) : Int) := by rw [zN zc]; simp
 simp only [e1]
 generalize (aa3 n).length / q = L at hle hL
 have e2 : w64 (L : Int) = L := aaA zc
 have e3 : w64 ((L : Int) + 1) = ((L + 1 : Nat) : Int) := by rw [aaA zc]; omega
 refine uC (mag (10 ^ (L + 1)), ()) (by simp only [e2, e3]; exact aHj zc) ?_
 refine uO (mag (10 ^ (L + 1)), ()) rfl ?_
 obtain ⟨s1, s2⟩ := ajH (k := q) n l2
 have hbx : Bd 2 (10 ^ (L + 1)) := by
  have : (mag (10 ^ (L + 1))).length ≤ 10000000 := by
   refine aiY ?_
   rw [an2 (k := L + 1) (zq _) (wu zc zc)]
   omega
  unfold Bd; omega
 have hstart : n < (10 ^ (L + 1)) ^ q := by
  rw [← xi]
  have h1 := afU n
  have h3 : (10 : Nat) ^ (aa3 n).length ≤ 10 ^ ((L + 1) * q) := zU zc hL
  omega
 have hstart2 : adR q n ≤ 10 ^ (L + 1) := by
  rcases zr (10 ^ (L + 1)) (adR q n) with h | h
  ·have := yw (vt h) q; omega
  ·exact h
 have hr1 : 1 ≤ adR q n := by
  rcases zE (adR q n) with h | h
  ·rw [h] at s2; simp at s2; omega
  ·exact h
 generalize 10 ^ (L + 1) = X at *
 refine aaO (fun i : List Int × Unit => ∃ x : Nat, i = (mag x, ()) ∧ adR q n ≤ x ∧ x ≤ X) (fun i => (V 1000000000 i.1).toNat) (fun _ => (mag (adR q n), ())) ?_ _ ⟨X, rfl, hstart2, zq _⟩
 rintro i ⟨x, rfl, g1, g2⟩
 have bx : Bd 2 x := anE hbx g2
 have ek : w64 ((q : Int) - 1) = ((q - 1 : Nat) : Int) := by rw [aaA (x := (q : Int) - 1) zc]; omega
 have ekk : abE ((q - 1 : Nat) : Int) = ((q - 1 : Nat) : Int) := aaN zc
 have ek32 : adY (q : Int) = q := aa0 zc
 have hxp : 0 < x ^ (q - 1) := yS zc
 have bp := aNK bx (show q - 1 ≤ 40 by omega)
 have bsm : Bd 2 (q - 1) := aaH (aaG zc) zc
 have bsum : Bd 4 (x * (q - 1) + n / x ^ (q - 1)) := aaZ (aaW bx bsm) (aaH (aaS _ l1) zc)
 simp only [ai5, ek, ekk, ek32]
 have walk : ∀ r, (TT.ite (decide (auC (((x * (q - 1) + n / x ^ (q - 1)) / q : Nat)) (x : Nat) ≥ 0)) (TT.ok (Sum.inr (mag x, ())) : TT (ux ⊕ ux)) (TT.ok (.inl (mag ((x * (q - 1) + n / x ^ (q - 1)) / q), ())))).toO = r → (ai5 (mag n) (q : Int) (decide (n = 0), ()) (((aa3 n).length : Int), ()) (mag X, ()) (mag x, ())).toO = r := by
  intro r hr
  simp only [ai5, ek, ekk, ek32]
  refine uC _ (aA7 bx zc) ?_
  refine uC _ (ayU (aaH l1 zc) (aaH bp zc) zc) ?_
  refine uC _ (aCQ zc) ?_
  refine uC _ (atA (aaH bx zc) (aaH bsm zc)) ?_
  refine uC _ (aFa (aaH (aaW bx bsm) zc) (aaH (aaS _ l1) zc)) ?_
  refine uC _ (aKA (d := q) (aaH bsum zc) zc zc) ?_
  refine uC _ (aFb (aaH (aaS _ bsum) zc) (aaH bx zc)) ?_
  exact hr
 simp only [ai5, ek, ekk, ek32] at walk
 generalize hY : (x * (q - 1) + n / x ^ (q - 1)) / q = Y at walk
 have hge : adR q n ≤ Y := by rw [← hY]; exact aMj l2 zc s1
 rcases zr Y x with hc | hc
 ·left
  refine ⟨(mag Y, ()), walk _ (uF ?_ rfl), ⟨Y, rfl, hge, by omega⟩, ?_, ze⟩
  ·unfold auC; rw [if_pos zc]; rfl
  ·simp only [amD, zp]; exact hc
 ·right
  have hxm : x ^ q ≤ n := by
   rcases zr n (x ^ q) with h | h
   ·have := aMi l2 (show 0 < x by omega) h
    omega
   ·exact h
  have hxr : x = adR q n := by
   rcases zr (adR q n) x with h | h
   ·have := yw (show adR q n + 1 ≤ x from h) q; omega
   ·omega
  refine walk _ (uT ?_ ?_)
  ·unfold auC
   rw [if_neg zc]
   split <;> rfl
  ·rw [← hxr]; rfl
theorem aN4 {n k : Nat} (h1 : Bd 0 n) (h2 : 1 ≤ k) (h3 : k ≤ 12) : aqT (mag n, (k : Int), ()) = some (mag (adR k n), ()) := by
 refine aaI (enc := fun x : Nat × Nat => (mag x.1, (x.2 : Int), ())) (n, k) ⟨h1, h2, h3⟩ (fun b hb => ?_)
 obtain ⟨e1, e2⟩ := Prod.mk.inj hb
 obtain ⟨e2, -⟩ := Prod.mk.inj e2
 exact Prod.ext (adO e1) (Int.ofNat.inj e2)
theorem au7 {k n : Nat} (hk : 1 ≤ k) : adR k n ≤ n := zC (Nat.le_self_pow zc _) (ajH n hk).1
theorem zk {p : Prop} (h : p := by simp only [Int.natAbs_natCast]; exact au7 (by omega)) : p := h
theorem aIJ (a : List UInt8) (k : Int) (y) (h : aqV (a, k, ()) = some y) : (aBo a k).toO = some y := by
 unfold aqV at h
 dsimp only at h
 unfold aBo
 cases hr : rdW a with
 | none =>
  simp only [hr] at h
  exact uC _ (ac3 hr) (uT rfl h)
 | some z =>
  simp only [hr] at h
  have b1 := anV hr
  refine uC _ (ac2 hr) (uF rfl ?_)
  by_cases h1 : k < 1
  ·rw [if_pos (Or.inl h1)] at h
   exact uT (zo h1) h
  by_cases h2 : k > 12
  ·rw [if_pos (Or.inr (Or.inl h2))] at h
   exact uF (zn h1) (uT (zo h2) h)
  by_cases h3 : z < 0
  ·rw [if_pos (Or.inr (Or.inr h3))] at h
   exact uF (zn h1) (uF (zn h2) (uT (zo h3) h))
  rw [if_neg zc] at h
  obtain ⟨j, rfl⟩ := zv (show 0 ≤ k by omega)
  rw [zp] at h
  refine uF (zn h1) (uF (zn h2) (uF (zn h3) ?_))
  refine uC _ (aN4 b1 zc zc) ?_
  refine uC (sg (adR j z.natAbs : Int), ()) (aA8 rfl (Or.inr (zn zc).symm)) ?_
  exact uC _ (arC (aaH (anE b1 (au7 zc)) zc)) h
end Go.Vs
