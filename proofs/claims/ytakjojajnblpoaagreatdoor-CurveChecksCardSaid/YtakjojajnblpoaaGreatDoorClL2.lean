/-
  Trees of what the functions compute, and their laws. Own work; no condition.
-/
import Derived.Test.YtakjojajnblpoaaGreatDoorClL1
import Derived.Test.YtakjojajnblpoaaGreatDoorProg
set_option linter.unusedVariables false
set_option linter.unusedSimpArgs false
namespace Go.Vs
open Go Go.Vg
theorem aEy {q : Rat} (h : aeI q) : wrF q = (fx q, 0, ()) := if_pos h
theorem aAE {q : Rat} (h : ¬ aeI q) : wrF q = (([], [], ()), 6, ()) := if_neg h
theorem aiC {z : Int} (h : Fit z) : wrW z = (dec z, 0, ()) := if_pos h
theorem aqQ {z : Int} (h : ¬ Fit z) : wrW z = ([], 6, ()) := if_neg h
theorem aqK {z : Int} (h : Bd 8 z.natAbs) : acU (sg z, ()) = some (wrW z) := aaK (enc := fun x : Int => (sg x, ())) z h (fun b hb => aoT (Prod.mk.inj hb).1)
theorem aEC (s : SgT) (y) (h : acU (s, ()) = some y) : (auL s).toO = some y := by
 obtain ⟨a, hp, hx, rfl⟩ := aaE h
 obtain ⟨rfl, -⟩ := Prod.mk.inj hx
 unfold auL
 dsimp only
 refine uC _ (axQ hp) ?_
 by_cases hf : Fit a
 ·have hf' : (aa3 a.natAbs).length ≤ 600 := hf
  rw [aiC hf]
  refine uF zh ?_
  have hb : Bd 0 a.natAbs := aw7 hf
  by_cases h0 : a < 0
  ·refine uT zh (uC _ (axS hb) (uN ?_ ?_))
   ·show 1 + (aa3 a.natAbs).length ≤ lim
    unfold lim; omega
   ·rw [aiJ h0]; rfl
  ·refine uF zh (uC _ (axS hb) ?_)
   rw [acP zc]; rfl
 ·have hf' : ¬ (aa3 a.natAbs).length ≤ 600 := hf
  rw [aqQ hf]
  exact uT zh rfl
theorem ajO {q : Rat} (h : BdQ 8 q) : aeQ (rt q, ()) = some (wrF q) := aaK (enc := fun x : Rat => (rt x, ())) q h (fun b hb => azB (Prod.mk.inj hb).1)
theorem aDC (x : RtT) (y) (h : aeQ (x, ()) = some y) : (arQ x).toO = some y := by
 obtain ⟨q, hp, hx, rfl⟩ := aaE h
 obtain ⟨rfl, -⟩ := Prod.mk.inj hx
 obtain ⟨h1, h2⟩ := hp
 unfold arQ
 dsimp only
 refine uC _ (axX h1) ?_
 by_cases hf : Fit q.num
 ·have hf' : (aa3 q.num.natAbs).length ≤ 600 := hf
  refine uF zh ?_
  refine uC _ (axX h2) ?_
  by_cases hg : Fit q.den
  ·have hg' : (aa3 q.den).length ≤ 600 := hg
   rw [aEy ⟨hf, hg⟩]
   refine uF zh ?_
   exact uC _ (axY (aw7 hf)) (uC _ (aoL (aw7 hg)) rfl)
  ·have hg' : ¬ (aa3 q.den).length ≤ 600 := hg
   rw [aAE (fun h => hg h.2)]
   exact uT zh rfl
 ·have hf' : ¬ (aa3 q.num.natAbs).length ≤ 600 := hf
  rw [aAE (fun h => hf h.1)]
  exact uT zh rfl
theorem ajQ {g : Nat} {t n : Int} (h : n = g * t) (g0 : g ≠ 0) : (n < 0 ↔ t < 0) ∧ (n = 0 ↔ t = 0) := by
 subst h
 rcases xB t 0 with h | h | h
 ·have := xX (show (0 : Int) < g by omega) h
  omega
 ·subst h; simp
 ·have := vh (show (0 : Int) < g by omega) h
  omega
theorem acS {g : Nat} {t n : Int} (h : n = g * t) (g0 : g ≠ 0) : n.natAbs / g = t.natAbs := by
 rw [h, yF, zQ, yn _ zc]
theorem aGx {n : Int} {d : Nat} (h1 : Bd 7 n.natAbs) (h2 : Bd 7 d) (h3 : d ≠ 0) : akN (sg n, mag d, ()) = some (rt (mkRat n d), ()) := aaK (enc := fun x : Int × Nat => (sg x.1, mag x.2, ())) (n, d) ⟨h1, h2, h3⟩ (fun b hb => aEU hb)
theorem aBz (n : SgT) (d : List Int) (y) (h : akN (n, d, ()) = some y) : (aoB n d).toO = some y := by
 obtain ⟨⟨a, b⟩, hp, hx, rfl⟩ := aaE h
 obtain ⟨rfl, hx2⟩ := Prod.mk.inj hx; obtain ⟨rfl, -⟩ := Prod.mk.inj hx2; dsimp only
 obtain ⟨l1, l2, l3⟩ := hp
 simp only at l1 l2 l3
 obtain ⟨g, t, hg, g0, hn, e1, e2⟩ := aeD a l3
 have hs := ajQ hn g0
 have ha := acS hn g0
 unfold aoB
 dsimp only
 have bg : Bd 7 g := by rw [hg]; repeat (first | assumption | exact aaI zg zc | exact aaG zc | refine aa0 ?_ ?_ | refine aaR _ ?_ | refine aa1 _ ?_ | refine aaD ?_ ?_ | refine aaC ?_ ?_ | refine aaV ?_ | refine aaW ?_ ?_ | refine aaY ?_ ?_ | refine aaT ?_)
 refine uC (mag g, ()) (by rw [am4 zd zd, hg]) ?_
 refine uC _ (ab2 zd zd g0) ?_
 refine uC _ (ab2 zd zd g0) ?_
 refine uC (sg t, ()) (abR ha (Or.inr (decide_eq_decide.2 hs.1))) ?_
 show some (((sg t), mag (b / g), ()), ()) = some (rt (mkRat a b), ())
 unfold rt
 rw [e1, e2]
theorem aEq {q : Rat} (h : BdQ 7 q) : ah5 (rt q, ()) = some (rt (-q), ()) := aaK (enc := fun x : Rat => (rt x, ())) q h (fun b hb => azB (Prod.mk.inj hb).1)
theorem ayM (x : RtT) (y) (h : ah5 (x, ()) = some y) : (as3 x).toO = some y := by
 obtain ⟨q, hp, hx, rfl⟩ := aaE h
 obtain ⟨rfl, -⟩ := Prod.mk.inj hx
 exact uC _ (aqM (aaI hp.1 zc)) rfl
theorem aEr {q : Rat} (h : BdQ 7 q) (h0 : q ≠ 0) : ah6 (rt q, ()) = some (rt q⁻¹, ()) := aaK (enc := fun x : Rat => (rt x, ())) q ⟨h, h0⟩ (fun b hb => azB (Prod.mk.inj hb).1)
theorem aPf {q : Rat} (h : q ≠ 0) : q.num ≠ 0 := fun h2 => h (Rat.num_eq_zero.1 h2)
theorem aDw {q : Rat} (h : q ≠ 0) : (q⁻¹).num.natAbs = q.den ∧ ((q⁻¹).num < 0 ↔ q.num < 0) ∧ (q⁻¹).den = q.num.natAbs := by
 have h1 := aPf h
 have h2 := q.den_pos
 rw [Rat.num_inv, Rat.den_inv, if_neg h1]
 rcases zS q.num 0 with h3 | h3
 ·rw [xo h3]; omega
 ·rw [xJ zc]; omega
theorem ayN (x : RtT) (y) (h : ah6 (x, ()) = some y) : (as4 x).toO = some y := by
 obtain ⟨q, hp, hx, rfl⟩ := aaE h
 obtain ⟨rfl, -⟩ := Prod.mk.inj hx
 obtain ⟨e1, e2, e3⟩ := aDw hp.2
 refine uC (sg (q⁻¹).num, ()) (abR e1.symm (Or.inr (decide_eq_decide.2 e2.symm))) ?_
 show some ((sg (q⁻¹).num, mag q.num.natAbs, ()), ()) = some (rt q⁻¹, ())
 unfold rt
 rw [e3]
theorem aHB {p q : Rat} (h : BdQ 3 p) (h2 : BdQ 3 q) : aqD (rt p, rt q, ()) = some (rt (p + q), ()) := aaK (enc := fun x : Rat × Rat => (rt x.1, rt x.2, ())) (p, q) ⟨h, h2⟩ (fun b hb => at4 hb)
theorem aIR (x x' : RtT) (y) (h : aqD (x, x', ()) = some y) : (aBt x x').toO = some y := by
 obtain ⟨⟨p, q⟩, hp, hx, rfl⟩ := aaE h
 obtain ⟨rfl, hx2⟩ := Prod.mk.inj hx; obtain ⟨rfl, -⟩ := Prod.mk.inj hx2; dsimp only
 obtain ⟨⟨p1, p2⟩, q1, q2⟩ := hp
 simp only at p1 p2 q1 q2
 obtain ⟨g, h', top, t, hg, ht, hh, g0, h0, htt, e1, e2⟩ := aEj p q
 have hs := ajQ htt h0
 have ha := acS htt h0
 have bg : Bd 3 g := by rw [hg]; repeat (first | assumption | exact aaI zg zc | exact aaG zc | refine aa0 ?_ ?_ | refine aaR _ ?_ | refine aa1 _ ?_ | refine aaD ?_ ?_ | refine aaC ?_ ?_ | refine aaV ?_ | refine aaW ?_ ?_ | refine aaY ?_ ?_ | refine aaT ?_)
 have bt : Bd 5 top.natAbs := by
  rw [ht]
  refine aaD (aaC ?_ (aaT ?_)) (aaC ?_ (aaT ?_)) <;> repeat (first | assumption | exact aaI zg zc | exact aaG zc | refine aa0 ?_ ?_ | refine aaR _ ?_ | refine aa1 _ ?_ | refine aaD ?_ ?_ | refine aaC ?_ ?_ | refine aaV ?_ | refine aaW ?_ ?_ | refine aaY ?_ ?_ | refine aaT ?_)
 have bh : Bd 5 h' := by rw [hh]; repeat (first | assumption | exact aaI zg zc | exact aaG zc | refine aa0 ?_ ?_ | refine aaR _ ?_ | refine aa1 _ ?_ | refine aaD ?_ ?_ | refine aaC ?_ ?_ | refine aaV ?_ | refine aaW ?_ ?_ | refine aaY ?_ ?_ | refine aaT ?_)
 unfold aBt
 dsimp only
 refine uC (mag g, ()) (by rw [am4 zd zd, hg]) ?_
 refine uC _ (ab2 zd zd g0) ?_
 refine uC _ (ab2 zd zd g0) ?_
 refine uC _ (ahM zd zd) ?_
 refine uC _ (ahM zd zd) ?_
 refine uC (sg top, ()) (by rw [aCd zd zd, ht]) ?_
 refine uC (mag h', ()) (by rw [am4 zd zd, hh]) ?_
 refine uC _ (ab2 zd zd h0) ?_
 refine uC _ (ab2 zd zd h0) ?_
 refine uC (sg t, ()) (abR ha (Or.inr (decide_eq_decide.2 hs.1))) ?_
 refine uC _ (agZ zd zd) ?_
 show some ((sg t, mag (p.den / g * (q.den / h')), ()), ()) = some (rt (p + q), ())
 unfold rt
 rw [e1, e2]
theorem aO1 {p q : Rat} (h : BdQ 3 p) (h2 : BdQ 3 q) : auI (rt p, rt q, ()) = some (rt (p - q), ()) := aaK (enc := fun x : Rat × Rat => (rt x.1, rt x.2, ())) (p, q) ⟨h, h2⟩ (fun b hb => at4 hb)
theorem aIO (x x' : RtT) (y) (h : auI (x, x', ()) = some y) : (aHg x x').toO = some y := by
 obtain ⟨⟨p, q⟩, hp, hx, rfl⟩ := aaE h
 obtain ⟨rfl, hx2⟩ := Prod.mk.inj hx; obtain ⟨rfl, -⟩ := Prod.mk.inj hx2; dsimp only
 obtain ⟨bp, bq⟩ := hp
 refine uC _ (aEq ⟨aaI bq.1 zc, aaI bq.2 zc⟩) ?_
 refine uC _ (aHB bp ⟨aaV bq.1, bq.2⟩) ?_
 rw [Rat.sub_eq_add_neg]; rfl
theorem aHA {p q : Rat} (h : BdQ 3 p) (h2 : BdQ 3 q) : aqC (rt p, rt q, ()) = some (rt (p * q), ()) := aaK (enc := fun x : Rat × Rat => (rt x.1, rt x.2, ())) (p, q) ⟨h, h2⟩ (fun b hb => at4 hb)
theorem aIQ (x x' : RtT) (y) (h : aqC (x, x', ()) = some y) : (aBr x x').toO = some y := by
 obtain ⟨⟨p, q⟩, hp, hx, rfl⟩ := aaE h
 obtain ⟨rfl, hx2⟩ := Prod.mk.inj hx; obtain ⟨rfl, -⟩ := Prod.mk.inj hx2; dsimp only
 obtain ⟨⟨p1, p2⟩, q1, q2⟩ := hp
 simp only at p1 p2 q1 q2
 obtain ⟨g, h', s, t, hg, hh, g0, h0, hs, ht, e1, e2⟩ := aDo p q
 have as1 := acS hs g0
 have at' := acS ht h0
 have ss := ajQ hs g0
 have st := ajQ ht h0
 have bg : Bd 3 g := by rw [hg]; repeat (first | assumption | exact aaI zg zc | exact aaG zc | refine aa0 ?_ ?_ | refine aaR _ ?_ | refine aa1 _ ?_ | refine aaD ?_ ?_ | refine aaC ?_ ?_ | refine aaV ?_ | refine aaW ?_ ?_ | refine aaY ?_ ?_ | refine aaT ?_)
 have bh : Bd 3 h' := by rw [hh]; repeat (first | assumption | exact aaI zg zc | exact aaG zc | refine aa0 ?_ ?_ | refine aaR _ ?_ | refine aa1 _ ?_ | refine aaD ?_ ?_ | refine aaC ?_ ?_ | refine aaV ?_ | refine aaW ?_ ?_ | refine aaY ?_ ?_ | refine aaT ?_)
 unfold aBr
 dsimp only
 refine uC (mag g, ()) (by rw [am4 zd zd, hg]) ?_
 refine uC (mag h', ()) (by rw [am4 zd zd, hh]) ?_
 refine uC _ (ab2 zd zd g0) ?_
 refine uC _ (ab2 zd zd h0) ?_
 refine uC _ (ab2 zd zd h0) ?_
 refine uC _ (ab2 zd zd g0) ?_
 refine uC _ (agZ zd zd) ?_
 refine uC (sg (s * t), ()) (abR (n := p.num.natAbs / g * (q.num.natAbs / h')) (by rw [as1, at', yF]) ?_) ?_
 ·by_cases hz : s * t = 0
  ·exact Or.inl hz
  ·right
   show (!(decide (p.num < 0) == decide (q.num < 0))) = decide (s * t < 0)
   have z1 : s ≠ 0 := fun h => hz (by rw [h]; simp)
   have z2 : t ≠ 0 := fun h => hz (by rw [h]; simp)
   rcases zS s 0 with c1 | c1 <;> rcases zS t 0 with c2 | c2
   ·have := xY c1 c2
    rw [zo (ss.1.2 c1), zo (st.1.2 c2), zn zc]; rfl
   ·have := xW c1 (show 0 < t by omega)
    rw [zo (ss.1.2 c1), zn zc, zo zc]; rfl
   ·have := xX (show 0 < s by omega) c2
    rw [zn zc, zo (st.1.2 c2), zo zc]; rfl
   ·have := vh (show 0 < s by omega) (show 0 < t by omega)
    rw [zn zc, zn zc, zn zc]; rfl
 refine uC _ (agZ zd zd) ?_
 show some ((sg (s * t), mag (p.den / h' * (q.den / g)), ()), ()) = some (rt (p * q), ())
 unfold rt
 rw [e1, e2]
theorem aJK {p q : Rat} (h : BdQ 3 p) (h2 : BdQ 3 q) : am0 (rt p, rt q, ()) = some (ax6 p q, ()) := aaK (enc := fun x : Rat × Rat => (rt x.1, rt x.2, ())) (p, q) ⟨h, h2⟩ (fun b hb => at4 hb)
theorem aDE (x x' : RtT) (y) (h : am0 (x, x', ()) = some y) : (arR x x').toO = some y := by
 obtain ⟨⟨p, q⟩, hp, hx, rfl⟩ := aaE h
 obtain ⟨rfl, hx2⟩ := Prod.mk.inj hx; obtain ⟨rfl, -⟩ := Prod.mk.inj hx2; dsimp only
 obtain ⟨⟨p1, p2⟩, q1, q2⟩ := hp
 simp only at p1 p2 q1 q2
 unfold arR
 dsimp only
 refine uC _ (ahM zd zd) ?_
 refine uC _ (ahM zd zd) ?_
 refine uC _ (aqM (aaI (aaC q1 (aaT p2)) zc)) ?_
 refine uC _ (aCd (aaI (aaC p1 (aaT q2)) zc) (aaV (aaI (aaC q1 (aaT p2)) zc))) ?_
 refine uC _ (axZ (aaI (aaD (aaC p1 (aaT q2)) (aaV (aaC q1 (aaT p2)))) zc)) ?_
 rw [aPG]; rfl
theorem aNa {q : Rat} {s : Nat} (h : BdQ 1 q) (h2 : Bd 1 s) : aqB (rt q, mag s, ()) = some (sg (apA q s), ()) := aaK (enc := fun x : Rat × Nat => (rt x.1, mag x.2, ())) (q, s) ⟨h, h2⟩ (fun b hb => aPA hb)
theorem aFK (x : RtT) (sc : List Int) (y) (h : aqB (x, sc, ()) = some y) : (avZ x sc).toO = some y := by
 obtain ⟨⟨q, s⟩, hp, hx, rfl⟩ := aaE h
 obtain ⟨rfl, hx2⟩ := Prod.mk.inj hx; obtain ⟨rfl, -⟩ := Prod.mk.inj hx2; dsimp only
 obtain ⟨⟨p1, p2⟩, bs⟩ := hp
 simp only at p1 p2 bs
 have b2 : Bd 1 2 := aaI (aaG zc) zc
 unfold avZ
 dsimp only
 have t1 := agZ (a := s) (b := 2) zd zd
 have t2 := agZ (a := q.den) (b := 2) zd zd
 rw [aP3] at t1 t2
 refine uC _ t1 ?_
 refine uC _ (ahM zd zd) ?_
 refine uC (sg (q.den : Int), ()) (abR (w := (q.den : Int)) zi (Or.inr (by rw [zn zc]))) ?_
 refine uC _ (aCd (aaI (aaC (aaI p1 (show 1 ≤ 2 by omega)) (aaT (aaW bs b2))) zc) zd) ?_
 refine uC _ t2 ?_
 refine uC _ (aAC zd zd (xT q.den_nz zc)) ?_
 rw [aLm]; rfl
set_option maxRecDepth 100000
open Go Go.Vg Go.Proofs
noncomputable section
def aNg : LTab := [(172, 7, 9217, ⟨0, (Bool) × Unit, .dat (.s 3) tw <| .nil, [5, 4, 2], [0], 0⟩), (172, 122, 12289, ⟨1, (Int) × Unit, .dat (.s 23) vZ <| .nil, [22, 5, 4, 2], [0], 0⟩)]
def aCt (a : List UInt8) (y : List UInt8 × Bool × Unit) (j : Bool × Unit) (i : (Int) × Unit) : TT (uq ⊕ (ug × Bool × Unit)) :=
 .ite (decide (i.1 < len y.1))
 (.need (inb i.1 (len y.1)) <| .ite (decide ((↑(UInt8.toNat (gi y.1 i.1 0)) : Int) < 48))
 (.ok (.inr ((([], false, ()), false, ()))))
 (.need (inb i.1 (len y.1)) <| .ite (decide ((↑(UInt8.toNat (gi y.1 i.1 0)) : Int) > 57))
 (.ok (.inr ((([], false, ()), false, ()))))
 (.tt <| .lt (w64 (i.1 + 1) : Int) fun z => .vI (vQ z (len y.1) y.2.1 y.1 <| ue ∧ True) <| .vI tq <| .ok (.inl ((z, ()))))))
 (.need (asT Int 0 ≤ 0 ∧ 0 < len y.1) <| .ite ((↑(UInt8.toNat (gi y.1 0 0)) : Int) == 48)
 (.ite (y.2.1)
 (.ok (.inr ((([], false, ()), false, ()))))
 (.ite (decide (len y.1 > 1))
 (.ok (.inr ((([], false, ()), false, ()))))
 (.call (ai8 (y.1, ())) Dd0 fun y1 =>
 .ok (.inr (((y1.1, y.2.1, ()), true, ()))))))
 (.call (ai8 (y.1, ())) Dd0 fun y2 =>
 .ok (.inr (((y2.1, y.2.1, ()), true, ())))))
def aJ0 (a : List UInt8) (y : List UInt8 × Bool × Unit) (j : (Bool) × Unit) : TT (ug × Bool × Unit) :=
 .loop 1 (.tt <| .vI (vQ (0 : Int) (len y.1) y.2.1 y.1 <| ue ∧ True) <| .vI tq <| .ok ((0, ()))) (aCt a y j)
def aAG (a : List UInt8) : TT (ug × Bool × Unit) :=
 .call (acX (a, #[45].toList, ())) Dd7 fun y =>
 .join 0 (ι := (Bool) × Unit) (.ite (len y.1 == 0)
 (.ok (.inr ((([], false, ()), false, ()))))
 (.ite (decide (len y.1 > 600))
 (.ok (.inr ((([], false, ()), false, ()))))
 (.tt <| .vI (vT false y.2.1 y.1 <| ue ∧ True) <| .vI tq <| .ok (.inl ((false, ())))))) (aJ0 a y)
def aNh : LTab := []
def aAH (a : List UInt8) (b : List UInt8) : TT (ug × ug × Int × Unit) :=
 .call (ae7 (a, ())) Dd9 fun y =>
 .call (ae7 (b, ())) Dd9 fun y1 =>
 .ite (!y.2.1)
 (.ok ((([], false, ()), ([], false, ()), 10, ())))
 (.ite (!y1.2.1)
 (.ok ((([], false, ()), ([], false, ()), 10, ())))
 (.ok (((y.1.1, y.1.2.1, ()), (y1.1.1, y1.1.2.1, ()), 0, ()))))
def aJ5 : LTab := []
def auM (a : List UInt8) : TT uz :=
 .call (ae7 (a, ())) Dd9 fun y =>
 .ite (!y.2.1)
 (.ok ((10, ())))
 (.ok ((0, ())))
def aQE : LTab := []
def aO5 (n : Int) : TT uM :=
 .call (aAw (n, ())) Dd2 fun y =>
 .ok ((y.1, ()))
def aPn : LTab := []
def aEF (a : List UInt8) (b : List UInt8) : TT uX :=
 .tt <| .tt <| .call (ae8 (a, b, ())) aRU fun y =>
 .ite (y.2.2.1 != 0)
 (.ok ((#[].toList, y.2.2.1, ())))
 (.triv (asT Int 0 ≤ 2 ∧ 2 < (↑4 : Int)) zf <| .call (ah2 ((y.1.1, y.1.2.1, ()), (y.2.1.1, y.2.1.2.1, ()), ())) Dd5 fun y1 =>
 .call (acU (y1.1, ())) aGA fun y2 =>
 .ok ((y2.1, y2.2.1, ())))
def aPp : LTab := []
def aqR (y2 : (List (Int)) × (List (Int)) × Unit) (y : ((List (Int)) × (Bool) × Unit) × ((List (Int)) × (Bool) × Unit) × (Int) × Unit) : TT (List UInt8 × List UInt8 × Int × Unit) :=
 .call (ah3 (y2.1, !y.1.2.1 == y.2.1.2.1, ())) Dd5 fun y10 =>
 .call (acU (y10.1, ())) aGA fun y11 =>
 .ite (y11.2.1 != 0)
 (.ok ((#[].toList, #[].toList, y11.2.1, ())))
 (.call (ah3 (y2.2.1, false, ())) Dd5 fun y12 =>
 .call (acU (y12.1, ())) aGA fun y13 =>
 .ite (y13.2.1 != 0)
 (.ok ((#[].toList, #[].toList, y13.2.1, ())))
 (.ok ((y11.1, y13.1, 0, ()))))
def aEH (a : List UInt8) (b : List UInt8) : TT (List UInt8 × List UInt8 × Int × Unit) :=
 .call (ae8 (a, b, ())) aRU fun y =>
 .ite (y.2.2.1 != 0)
 (.ok ((#[].toList, #[].toList, y.2.2.1, ())))
 (.call (ahF (y.2.1.1, ())) Dd1 fun y1 =>
  .ite (y1.1)
  (.ok ((#[].toList, #[].toList, 7, ())))
  (.call (akH (y.1.1, y.2.1.1, ())) Dd4 fun y2 =>
   .ite (y.1.2.1)
   (.call (ahF (y2.2.1, ())) Dd1 fun y3 =>
    .ite (!y3.1)
    (.call (ap2 (y2.1, [1], ())) Dd0 fun y4 =>
     .call (asD (y.2.1.1, y2.2.1, ())) Dd0 fun y5 =>
     .call (ah3 (y4.1, !y.1.2.1 == y.2.1.2.1, ())) Dd5 fun y6 =>
     .call (acU (y6.1, ())) aGA fun y7 =>
     .ite (y7.2.1 != 0)
     (.ok ((#[].toList, #[].toList, y7.2.1, ())))
     (.call (ah3 (y5.1, false, ())) Dd5 fun y8 =>
      .call (acU (y8.1, ())) aGA fun y9 =>
      .ite (y9.2.1 != 0)
      (.ok ((#[].toList, #[].toList, y9.2.1, ())))
      (.ok ((y7.1, y9.1, 0, ())))))
    (aqR y2 y))
   (aqR y2 y)))
def aPm : LTab := []
def aEE (a : List UInt8) (n : Int) : TT uX :=
 .call (ae7 (a, ())) Dd9 fun y =>
 .ite (!y.2.1)
 (.ok ((#[].toList, 10, ())))
 (.ite (decide (n < 0))
 (.ok ((#[].toList, 2, ())))
 (.ite (decide (n > 40))
 (.ok ((#[].toList, 2, ())))
 (.call (ai7 (y.1.1, n, ())) Dd0 fun y1 =>
 .ite (y.1.2.1)
 (.triv (asT Int 2 ≠ 0) zf <| .call (ah3 (y1.1, Int.tmod n 2 == 1, ())) Dd5 fun y2 =>
 .call (acU (y2.1, ())) aGA fun y3 =>
 .ok ((y3.1, y3.2.1, ())))
 (.call (ah3 (y1.1, false, ())) Dd5 fun y4 =>
 .call (acU (y4.1, ())) aGA fun y5 =>
 .ok ((y5.1, y5.2.1, ()))))))
def aNj : LTab := []
def aAJ (a : List UInt8) (k : Int) : TT uX :=
 .call (ae7 (a, ())) Dd9 fun y =>
 .ite (!y.2.1)
 (.ok ((#[].toList, 10, ())))
 (.ite (decide (k < 1))
 (.ok ((#[].toList, 2, ())))
 (.ite (decide (k > 12))
 (.ok ((#[].toList, 2, ())))
 (.ite (y.1.2.1)
 (.ok ((#[].toList, 2, ())))
 (.call (ap1 (y.1.1, k, ())) Dd0 fun y1 =>
 .call (ah3 (y1.1, false, ())) Dd5 fun y2 =>
 .call (acU (y2.1, ())) aGA fun y3 =>
 .ok ((y3.1, y3.2.1, ()))))))
def aED : LTab := [(281, 122, 10241, ⟨0, (Int) × (Int) × Unit, .dat (.s 11) vZ <| .dat (.s 4) ud <| .nil, [10, 3, 2, 0], [4], 0⟩)]
def asN (n : Int) (i : (Int) × (Int) × Unit) : TT (ur ⊕ uj) :=
 .ite (decide (i.1 < Int.tmod n 9))
 (.tt <| .lt (w64 (i.1 + 1) : Int) fun z => .lt (adT (i.2.1 * 10) : Int) fun z1 => .vI (vT z1 z (Int.tmod n 9) <| (vN 4 0 (Int.toNat (w64 (w64 (Int.tdiv n 9) + 1))) true) ∧ True ∧ vR n) <| .vI (vH (vM 189 (List.replicate (Int.toNat (w64 (w64 (Int.tdiv n 9) + 1))) 0 : List Int)) True) <| .ok (.inl ((z, z1, ()))))
 (.triv (asT Int 9 ≠ 0) zf <| .need (inb (w64 (Int.tdiv n 9)) (↑(Int.toNat (w64 (w64 (Int.tdiv n 9) + 1))) : Int)) <| .ok (.inr ((List.take (Int.toNat (w64 (w64 (Int.tdiv n 9) + 1))) (List.set (List.replicate (Int.toNat (w64 (w64 (Int.tdiv n 9) + 1))) 0) (0 + Int.toNat (w64 (Int.tdiv n 9))) i.2.1), ()))))
def anO (n : Int) : TT uj :=
 .triv (asT Int 9 ≠ 0) zf <| .need (0 ≤ w64 (w64 (Int.tdiv n 9) + 1) ∧ w64 (w64 (Int.tdiv n 9) + 1) ≤ w64 (w64 (Int.tdiv n 9) + 1) ∧ w64 (w64 (Int.tdiv n 9) + 1) * (↑4 : Int) ≤ 140737488355328) <| .triv (asT Int 9 ≠ 0) zf <| .loop 0 (.tt <| .vI (vT (1 : Int) (0 : Int) (Int.tmod n 9) <| (vN 4 0 (Int.toNat (w64 (w64 (Int.tdiv n 9) + 1))) true) ∧ True ∧ vR n) <| .vI (vH (vM 189 (List.replicate (Int.toNat (w64 (w64 (Int.tdiv n 9) + 1))) 0 : List Int)) True) <| .ok ((0, 1, ()))) (asN n)
def aHN : LTab := [(242, 122, 8193, ⟨0, (Int) × (List Int) × Unit, .dat (.s 11) vZ <| .dat (.s 5) uI <| .nil, [10, 6, 4], [], 0⟩)]
def auK (m : List Int) (n : Int) (i : (Int) × (List Int) × Unit) : TT uU :=
 .ite (decide (i.1 < n))
 (.call (ai6 (m, i.2.1, ())) Dd0 fun y =>
 .tt <| .lt (w64 (i.1 + 1) : Int) fun z1 => .vI (vT y.1 z1 n <| (vJ (257 : FuncId) <| (vR m) ∧ True) ∧ True ∧ True) <| .tr <| .ok (.inl ((z1, y.1, ()))))
 (.ok (.inr ((i.2.1, ()))))
def ay1 (m : List Int) (n : Int) : TT uj :=
 .loop 0 (.tt <| .lt ([1] : List Int) fun z => .vI (vT z (0 : Int) n <| (vJ (257 : FuncId) <| (vR m) ∧ True) ∧ True ∧ True) <| .tr <| .ok ((0, z, ()))) (auK m n)
def aJW : LTab := [(270, 30, 10241, ⟨0, (List Int) × Unit, .dat (.s 5) uI <| .nil, [0, 1], [], 0⟩)]
def aiP (m : List Int) (k : Int) (y : Bool × Unit) (y1 : Int × Unit) (y2 : List Int × Unit) (i : (List Int) × Unit) : TT (tu ⊕ uj) :=
 .call (ai7 (i.1, w64 (k - 1), ())) Dd0 fun y3 =>
 .call (akH (m, y3.1, ())) Dd4 fun y4 =>
 .call (agS (abN (w64 (k - 1)), ())) Dd0 fun y5 =>
 .call (ai6 (i.1, y5.1, ())) Dd0 fun y6 =>
 .call (ap2 (y6.1, y4.1, ())) Dd0 fun y7 =>
 .call (asC (y7.1, adT k, ())) aRJ fun y8 =>
 .call (al1 (y8.1, i.1, ())) Dd6 fun y9 =>
 .ite (decide (y9.1 ≥ 0))
 (.ok (.inr ((i.1, ()))))
 (.tt <| .vI (vL y8.1 m k) <| .tr <| .ok (.inl ((y8.1, ()))))
def aCq (m : List Int) (k : Int) : TT uj :=
 .call (ahF (m, ())) Dd1 fun y =>
 .ite (y.1)
 (.ok (([], ())))
 (.call (akG (m, ())) Dd6 fun y1 =>
 .need (k ≠ 0) <| .call (akJ (w64 (w64 (Int.tdiv y1.1 k) + 1), ())) Dd0 fun y2 =>
 .loop 0 (.tt <| .vI (vL y2.1 m k) <| .tr <| .ok ((y2.1, ()))) (aiP m k y y1 y2))
def aOB : LTab := []
def aBA (a : List UInt8 × List UInt8 × Unit) : TT ((ug × List Int × Unit) × Bool × Unit) :=
 .call (ae9 (a.1, ())) Dd6 fun y =>
 .ite (y.1 != 0)
 (.ok (((([], false, ()), [], ()), false, ())))
 (.call (ae9 (a.2.1, ())) Dd6 fun y1 =>
 .ite (y1.1 != 0)
 (.ok (((([], false, ()), [], ()), false, ())))
 (.call (afS (a.1, ())) Dd5 fun y2 =>
 .call (afS (a.2.1, ())) Dd5 fun y3 =>
 .call (ajJ ((y3.1.1, y3.1.2.1, ()), ())) Dd6 fun y4 =>
 .ite (decide (y4.1 < 1))
 (.ok (((([], false, ()), [], ()), false, ())))
 (.call (agT (y2.1.1, y3.1.1, ())) Dd0 fun y5 =>
 .call (adN (y5.1, [1], ())) Dd6 fun y6 =>
 .ite (y6.1 != 0)
 (.ok (((([], false, ()), [], ()), false, ())))
 (.ok ((((y2.1.1, y2.1.2.1, ()), y3.1.1, ()), true, ()))))))
def aL0 : LTab := []
def awE (a : List UInt8 × List UInt8 × Unit) : TT uz :=
 .call (abL ((a.1, a.2.1, ()), ())) aHF fun y =>
 .ite (!y.2.1)
 (.ok ((20, ())))
 (.ok ((0, ())))
def aOF : LTab := []
def aBE (n : List UInt8) (d : List UInt8) : TT ut :=
 .call (ae9 (n, ())) Dd6 fun y =>
 .ite (y.1 != 0)
 (.ok (((#[].toList, #[].toList, ()), 10, ())))
 (.call (ae9 (d, ())) Dd6 fun y1 =>
 .ite (y1.1 != 0)
 (.ok (((#[].toList, #[].toList, ()), 10, ())))
 (.call (afS (n, ())) Dd5 fun y2 =>
 .call (afS (d, ())) Dd5 fun y3 =>
 .call (ac6 (y3.1.1, ())) Dd1 fun y4 =>
 .ite (y4.1)
 (.ok (((#[].toList, #[].toList, ()), 7, ())))
 (.call (aa8 (y2.1.1, !y2.1.2.1 == y3.1.2.1, ())) Dd5 fun y5 =>
 .call (akN (y5.1, y3.1.1, ())) Dd8 fun y6 =>
 .call (aeQ (y6.1, ())) af6 fun y7 =>
 .ok (((y7.1.1, y7.1.2.1, ()), y7.2.1, ())))))
def aQ9 : LTab := []
def aPh (n : Int) (d : Int) : TT ut :=
 .call (atL (n, ())) Dd2 fun y =>
 .call (atL (d, ())) Dd2 fun y1 =>
 .call (aqF (y.1, y1.1, ())) af6 fun y2 =>
 .ok (((y2.1.1, y2.1.2.1, ()), y2.2.1, ()))
def aOC : LTab := []
def aBC (a : List UInt8 × List UInt8 × Unit) : TT uc :=
 .call (abL ((a.1, a.2.1, ()), ())) aHF fun y =>
 .ite (!y.2.1)
 (.ok ((0, 20, ())))
 (.call (ajJ ((y.1.1.1, y.1.1.2.1, ()), ())) Dd6 fun y1 =>
 .ok ((y1.1, 0, ())))
def aQi : LTab := []
def aFY (a : List UInt8 × List UInt8 × Unit) (b : List UInt8 × List UInt8 × Unit) : TT uc :=
 .tt <| .tt <| .call (abL ((a.1, a.2.1, ()), ())) aHF fun y =>
 .call (abL ((b.1, b.2.1, ()), ())) aHF fun y1 =>
 .ite (!y.2.1)
 (.ok ((0, 20, ())))
 (.ite (!y1.2.1)
 (.ok ((0, 20, ())))
 (.call (am0 (((y.1.1.1, y.1.1.2.1, ()), y.1.2.1, ()), ((y1.1.1.1, y1.1.1.2.1, ()), y1.1.2.1, ()), ())) Dd6 fun y2 =>
 .ok ((y2.1, 0, ()))))
def aQj : LTab := []
def aF0 (a : List UInt8 × List UInt8 × Unit) (b : List UInt8 × List UInt8 × Unit) : TT ut :=
 .tt <| .tt <| .call (abL ((a.1, a.2.1, ()), ())) aHF fun y =>
 .call (abL ((b.1, b.2.1, ()), ())) aHF fun y1 =>
 .ite (!y.2.1)
 (.tt <| .tt <| .ok (((#[].toList, #[].toList, ()), 20, ())))
 (.ite (!y1.2.1)
 (.tt <| .tt <| .ok (((#[].toList, #[].toList, ()), 20, ())))
 (.call (aqD (((y.1.1.1, y.1.1.2.1, ()), y.1.2.1, ()), ((y1.1.1.1, y1.1.1.2.1, ()), y1.1.2.1, ()), ())) Dd8 fun y2 =>
 .tt <| .tt <| .call (aeQ (((y2.1.1.1, y2.1.1.2.1, ()), y2.1.2.1, ()), ())) af6 fun y3 =>
 .ok (((y3.1.1, y3.1.2.1, ()), y3.2.1, ()))))
def aQf : LTab := []
def aFU (a : List UInt8 × List UInt8 × Unit) (b : List UInt8 × List UInt8 × Unit) : TT ut :=
 .tt <| .tt <| .call (abL ((a.1, a.2.1, ()), ())) aHF fun y =>
 .call (abL ((b.1, b.2.1, ()), ())) aHF fun y1 =>
 .ite (!y.2.1)
 (.tt <| .tt <| .ok (((#[].toList, #[].toList, ()), 20, ())))
 (.ite (!y1.2.1)
 (.tt <| .tt <| .ok (((#[].toList, #[].toList, ()), 20, ())))
 (.call (auI (((y.1.1.1, y.1.1.2.1, ()), y.1.2.1, ()), ((y1.1.1.1, y1.1.1.2.1, ()), y1.1.2.1, ()), ())) Dd8 fun y2 =>
 .tt <| .tt <| .call (aeQ (((y2.1.1.1, y2.1.1.2.1, ()), y2.1.2.1, ()), ())) af6 fun y3 =>
 .ok (((y3.1.1, y3.1.2.1, ()), y3.2.1, ()))))
def aQg : LTab := []
def aFV (a : List UInt8 × List UInt8 × Unit) (b : List UInt8 × List UInt8 × Unit) : TT ut :=
 .tt <| .tt <| .call (abL ((a.1, a.2.1, ()), ())) aHF fun y =>
 .call (abL ((b.1, b.2.1, ()), ())) aHF fun y1 =>
 .ite (!y.2.1)
 (.tt <| .tt <| .ok (((#[].toList, #[].toList, ()), 20, ())))
 (.ite (!y1.2.1)
 (.tt <| .tt <| .ok (((#[].toList, #[].toList, ()), 20, ())))
 (.call (aqC (((y.1.1.1, y.1.1.2.1, ()), y.1.2.1, ()), ((y1.1.1.1, y1.1.1.2.1, ()), y1.1.2.1, ()), ())) Dd8 fun y2 =>
 .tt <| .tt <| .call (aeQ (((y2.1.1.1, y2.1.1.2.1, ()), y2.1.2.1, ()), ())) af6 fun y3 =>
 .ok (((y3.1.1, y3.1.2.1, ()), y3.2.1, ()))))
def aQh : LTab := []
def aFX (a : List UInt8 × List UInt8 × Unit) (b : List UInt8 × List UInt8 × Unit) : TT ut :=
 .call (abL ((a.1, a.2.1, ()), ())) aHF fun y =>
 .call (abL ((b.1, b.2.1, ()), ())) aHF fun y1 =>
 .ite (!y.2.1)
 (.ok (((#[].toList, #[].toList, ()), 20, ())))
 (.ite (!y1.2.1)
 (.ok (((#[].toList, #[].toList, ()), 20, ())))
 (.call (ac6 (y1.1.1.1, ())) Dd1 fun y2 =>
 .ite (y2.1)
 (.ok (((#[].toList, #[].toList, ()), 7, ())))
 (.call (ah6 (((y1.1.1.1, y1.1.1.2.1, ()), y1.1.2.1, ()), ())) Dd8 fun y3 =>
 .call (aqC (((y.1.1.1, y.1.1.2.1, ()), y.1.2.1, ()), y3.1, ())) Dd8 fun y4 =>
 .call (aeQ (y4.1, ())) af6 fun y5 =>
 .ok (((y5.1.1, y5.1.2.1, ()), y5.2.1, ())))))
def aLX : LTab := []
def awD (a : List UInt8 × List UInt8 × Unit) : TT uX :=
 .call (abL ((a.1, a.2.1, ()), ())) aHF fun y =>
 .ite (!y.2.1)
 (.ok ((#[].toList, 20, ())))
 (.call (ajK ((y.1.1.1, y.1.1.2.1, ()), y.1.2.1, ())) Dd5 fun y1 =>
 .call (ajI (y1.1, ())) Dd2 fun y2 =>
 .ok ((y2.1, 0, ())))
def aOE : LTab := []
def aBD (a : List UInt8 × List UInt8 × Unit) (scale : Int) : TT uc :=
 .call (abL ((a.1, a.2.1, ()), ())) aHF fun y =>
 .ite (!y.2.1)
 (.ok ((0, 20, ())))
 (.ite (decide (scale < 1))
 (.ok ((0, 2, ())))
 (.ite (decide (scale > 1000000000000))
 (.ok ((0, 2, ())))
 (.call (abM (abN scale, ())) Dd0 fun y1 =>
 .call (aqB (((y.1.1.1, y.1.1.2.1, ()), y.1.2.1, ()), y1.1, ())) Dd5 fun y2 =>
 .call (ajI (y2.1, ())) Dd2 fun y3 =>
 .call (akK (y3.1, ())) aCj fun y4 =>
 .ite (y4.2.1 != 0)
 (.ok ((0, 6, ())))
 (.ok ((y4.1, 0, ()))))))
end
theorem aPD {s t : List UInt8} {b : Bool} (hc : acX (s, #[45].toList, ()) = some (t, b, ())) (h : ¬ (isD t ∧ t ≠ [] ∧ t.length ≤ 600 ∧ (t.head? = some 48 → b = false ∧ t.length = 1))) : rdW s = none := by
 refine aGP fun z hz he => h ?_
 rw [← he, aEt] at hc
 injection hc with hc
 obtain ⟨rfl, h2⟩ := Prod.mk.inj hc
 obtain ⟨rfl, -⟩ := Prod.mk.inj h2
 refine ⟨amR _, afL _, hz, fun h0 => ?_⟩
 by_cases hn : z.natAbs = 0
 ·rw [hn, abK zc]
  exact ⟨zn zc, rfl⟩
 ·exact absurd h0 (aMl hn)
theorem aPC {s t : List UInt8} {b : Bool} (hc : acX (s, #[45].toList, ()) = some (t, b, ())) (h1 : isD t) (h2 : t ≠ []) (h3 : t.length ≤ 600) (h4 : t.head? = some 48 → b = false ∧ t.length = 1) : ∃ z : Int, rdW s = some z ∧ z.natAbs = num t ∧ decide (z < 0) = b := by
 have hu : t = aa3 (num t) := aDY h1 h2 (by
  by_cases h0 : t.head? = some 48
  ·exact Or.inr (h4 h0).2
  ·exact Or.inl h0)
 have hs : s = if b then 45 :: t else t := by
  injection hc with hc
  simp only at hc
  split at hc
  ·rename_i hp
   obtain ⟨e1, e2⟩ := Prod.mk.inj hc
   obtain ⟨rfl, -⟩ := Prod.mk.inj e2
   cases s with
   | nil => cases hp
   | cons c s =>
    have : c = 45 := by
     have h5 : ([45] : List UInt8).isPrefixOf (c :: s) = true := hp
     simp [List.isPrefixOf] at h5
     exact h5.symm
    rw [this, ← e1]; rfl
  ·obtain ⟨e1, e2⟩ := Prod.mk.inj hc
   obtain ⟨rfl, -⟩ := Prod.mk.inj e2
   rw [← e1]; rfl
 cases b
 ·refine ⟨(num t : Int), ?_, by simp, by simp⟩
  have : s = dec (num t : Int) := by rw [ae0, ← hu, hs]; rfl
  rw [this, ak6 (show (aa3 (num t : Int).natAbs).length ≤ 600 by simp; rw [← hu]; exact h3)]
 ·have hn : num t ≠ 0 := by
   intro h0
   rw [h0, abK zc] at hu
   have := h4 (by rw [hu]; rfl)
   cases this.1
  refine ⟨-(num t : Int), ?_, by simp, by simp; omega⟩
  have : s = dec (-(num t : Int)) := by rw [aiJ zc, xE, zQ, ← hu, hs]; rfl
  rw [this, ak6 (show (aa3 (-(num t : Int)).natAbs).length ≤ 600 by simp; rw [← hu]; exact h3)]
noncomputable def aQz (s : List UInt8) : SgT × Bool × Unit := match rdW s with | some z => (sg z, true, ()) | none => (([], false, ()), false, ())
theorem aHP (a : List UInt8) (y) (h : ae7 (a, ()) = some y) : (aAG a).toO = some y := by
 have hy : y = aQz a := by injection h with h; exact h.symm
 clear h
 subst hy
 obtain ⟨t, b, hc⟩ : ∃ t b, acX (a, #[45].toList, ()) = some (t, b, ()) := ⟨_, _, rfl⟩
 have hnot : ¬ (isD t ∧ t ≠ [] ∧ t.length ≤ 600 ∧ (t.head? = some 48 → b = false ∧ t.length = 1)) → aQz a = (([], false, ()), false, ()) := fun h => by unfold aQz; rw [aPD hc h]
 have hyes : isD t → t ≠ [] → t.length ≤ 600 → (t.head? = some 48 → b = false ∧ t.length = 1) → ai8 (t, ()) = some (mag (num t), ()) ∧ aQz a = ((mag (num t), b, ()), true, ()) := fun h1 h2 h3 h4 => by
  obtain ⟨z, e1, e2, e3⟩ := aPC hc h1 h2 h3 h4
  refine ⟨?_, ?_⟩
  ·unfold ai8
   rw [if_pos ⟨h1, h2, by simp only; omega⟩]
  ·unfold aQz
   rw [e1]
   show ((mag z.natAbs, decide (z < 0), ()), true, ()) = _
   rw [e2, e3]
 unfold aAG
 refine uC (t, b, ()) hc ?_
 by_cases h1 : t = []
 ·rw [hnot (fun h => h.2.1 h1)]
  refine uR _ (uT (by simp [h1, len]) rfl)
 have hlen : 1 ≤ t.length := yd.2 h1
 by_cases h2 : t.length ≤ 600
 case neg =>
  rw [hnot (fun h => h2 h.2.2.1)]
  refine uR _ (uF sd (uT sd rfl))
 refine uL (false, ()) (uF sd (uF sd rfl)) ?_
 refine uO (0, ()) rfl ?_
 refine aaL (fun i : Int × Unit => ∃ k : Nat, i.1 = (k : Int) ∧ k ≤ t.length ∧ isD (t.take k)) (fun i => ((t.length : Int) - i.1).toNat) (fun _ => aQz a) ?_ _ ⟨0, rfl, by omega, by simp [isD]⟩
 rintro ⟨i, u⟩ ⟨k, h3, h4, h5⟩
 simp only at h3
 subst h3
 simp only [aCt, aaM]
 rcases zr k t.length with hk | hk
 ·have e1 : t.getD k 0 = t[k] := by simp [hk]
  simp only [e1]
  by_cases c1 : t[k].toNat < 48
  ·right
   rw [hnot (fun h => by have := h.1 t[k] (ym hk); omega)]
   repeat refine za ?_
   rfl
  by_cases c2 : t[k].toNat > 57
  ·right
   rw [hnot (fun h => by have := h.1 t[k] (ym hk); omega)]
   repeat refine za ?_
   rfl
  ·left
   refine ⟨(((k + 1 : Nat) : Int), ()), ?_, ⟨k + 1, rfl, by omega, ?_⟩, by simp only; omega, ze⟩
   ·repeat refine za ?_
    simp (disch := omega) only [aaH, aaA, aaO, aaZ, abJ, aaM, zv, zp, aaB, zt]
    rfl
   ·rw [zO hk, isD_append]
    refine ⟨h5, fun c hc => ?_⟩
    have := zX.1 hc
    subst this
    omega
 ·right
  have hd : isD t := by rwa [zu hk] at h5
  refine uF sd (uN ⟨by simp [asT], by exact sn⟩ ?_)
  cases ht : t with
  | nil => exact absurd ht h1
  | cons c r =>
   rw [← ht]
   have hg : gi t 0 0 = c := by rw [ht]; rfl
   simp only [hg]
   have hh : t.head? = some c := by rw [ht]; rfl
   by_cases c0 : c = 48
   ·subst c0
    refine uT (by rfl) ?_
    cases b
    ·refine uF rfl ?_
     by_cases hl : t.length = 1
     ·obtain ⟨g1, g2⟩ := hyes hd h1 h2 (fun _ => ⟨rfl, hl⟩)
      rw [g2]
      exact uF sd (uC _ g1 rfl)
     ·rw [hnot (fun h => hl (h.2.2.2 hh).2)]
      exact uT sd rfl
    ·rw [hnot (fun h => by have := (h.2.2.2 hh).1; cases this)]
     exact uT rfl rfl
   ·obtain ⟨g1, g2⟩ := hyes hd h1 h2 (fun h => by rw [hh] at h; injection h with h; exact absurd h c0)
    rw [g2]
    refine uF ?_ (uC _ g1 rfl)
    rw [beq_eq_false_iff_ne]
    intro h
    exact c0 (UInt8.toNat_inj.1 (Int.ofNat.inj h))
theorem ac0 {s : List UInt8} {z : Int} (h : rdW s = some z) : ae7 (s, ()) = some (sg z, true, ()) := by unfold ae7; rw [h]
theorem ac1 {s : List UInt8} (h : rdW s = none) : ae7 (s, ()) = some (([], false, ()), false, ()) := by unfold ae7; rw [h]
theorem aEI (a : List UInt8) (y) (h : ae9 (a, ()) = some y) : (auM a).toO = some y := by
 unfold ae9 at h
 unfold auM
 cases hr : rdW a with
 | none =>
  simp only [hr] at h
  exact uC _ (ac1 hr) (uT rfl h)
 | some z =>
  simp only [hr] at h
  exact uC _ (ac0 hr) (uF rfl h)
theorem aHQ (a b : List UInt8) (y) (h : ae8 (a, b, ()) = some y) : (aAH a b).toO = some y := by
 unfold ae8 at h
 unfold aAH
 cases hr : rdW a with
 | none =>
  simp only [hr] at h
  cases hb : rdW b with
  | none => exact uC _ (ac1 hr) (uC _ (ac1 hb) (uT rfl h))
  | some w => exact uC _ (ac1 hr) (uC _ (ac0 hb) (uT rfl h))
 | some z =>
  cases hb : rdW b with
  | none =>
   simp only [hr, hb] at h
   exact uC _ (ac0 hr) (uC _ (ac1 hb) (uF rfl (uT rfl h)))
  | some w =>
   simp only [hr, hb] at h
   exact uC _ (ac0 hr) (uC _ (ac0 hb) (uF rfl (uF rfl h)))
theorem aNk (n : Int) (y) (h : atL (n, ()) = some y) : (aO5 n).toO = some y := by
 unfold atL at h
 split at h
 ·rename_i hp
  exact uC (dec n, ()) (by unfold aAw; exact if_pos hp) h
 ·cases h
theorem aM6 {n : Int} (h : abD n) : atL (n, ()) = some (dec n, ()) := by unfold atL; rw [if_pos h]
theorem aEm {a b : Int} (h1 : Bd 7 a.natAbs) (h2 : Bd 7 b.natAbs) : ah2 (sg a, sg b, ()) = some (sg (a * b), ()) := aaK (enc := fun x : Int × Int => (sg x.1, sg x.2, ())) (a, b) ⟨h1, h2⟩ (fun b hb => aAV hb)
theorem am9 {s : List UInt8} {z : Int} (h : rdW s = some z) : Bd 0 z.natAbs := aw7 (af0 h).1
theorem aJ2 (a b : List UInt8) (y) (h : asE (a, b, ()) = some y) : (aEF a b).toO = some y := by
 unfold asE at h
 unfold aEF
 refine uV (uV ?_)
 cases hr : rdW a with
 | none =>
  simp only [hr] at h
  refine uC (([], false, ()), ([], false, ()), 10, ()) (by unfold ae8; simp only [hr]) (uT rfl h)
 | some z =>
  cases hb : rdW b with
  | none =>
   simp only [hr, hb] at h
   refine uC (([], false, ()), ([], false, ()), 10, ()) (by unfold ae8; simp only [hr, hb]) (uT rfl h)
  | some w =>
   simp only [hr, hb] at h
   have b1 := am9 hr
   have b2 := am9 hb
   refine uC (sg z, sg w, 0, ()) (by unfold ae8; simp only [hr, hb]) (uF rfl (uV ?_))
   refine uC _ (aEm (aaI b1 zc) (aaI b2 zc)) ?_
   refine uC _ (aqK (aaI (aaC b1 b2) zc)) ?_
   exact h
theorem adR (s : List UInt8) : ae9 (s, ()) = some (if (rdW s).isSome then 0 else 10, ()) := rfl
theorem aMw (n : Nat) : atG n 1 = 0 ↔ n = 1 := by
 unfold atG
 split
 ·omega
 ·split <;> omega
theorem aI2 (a : FxT) (y) (h : abL (a, ()) = some y) : (aBA a).toO = some y := by
 obtain ⟨s, t, u⟩ := a
 have hs := aQP s t
 unfold abL at h
 dsimp only at h
 unfold aBA
 dsimp only
 cases hn : rdW s with
 | none =>
  rw [hn] at hs
  have hs' : rdF (s, t, u) = none := hs
  rw [hs'] at h
  refine uC _ (adR s) (uT (by rw [hn]; rfl) h)
 | some n =>
  cases hd : rdW t with
  | none =>
   rw [hn, hd] at hs
   have hs' : rdF (s, t, u) = none := hs
   rw [hs'] at h
   refine uC _ (adR s) (uF (by rw [hn]; rfl) (uC _ (adR t) (uT (by rw [hd]; rfl) h)))
  | some d =>
   rw [hn, hd] at hs
   dsimp only at hs
   obtain ⟨f1, e1⟩ := af0 hn
   obtain ⟨f2, e2⟩ := af0 hd
   have b1 := am9 hn
   have b2 := am9 hd
   refine uC _ (adR s) (uF (by rw [hn]; rfl) (uC _ (adR t) (uF (by rw [hd]; rfl) ?_)))
   refine uC (sg n, ()) (by rw [e1]; exact am5 (aaI b1 zc)) ?_
   refine uC (sg d, ()) (by rw [e2]; exact am5 (aaI b2 zc)) ?_
   refine uC _ (axZ (aaI b2 zc)) ?_
   by_cases hp : 0 < d
   ·refine uF ?_ ?_
    ·rw [xJ hp]; rfl
    have hg := am4 (a := n.natAbs) (b := d.natAbs) (aaI b1 zc) (aaI b2 zc)
    refine uC _ hg ?_
    have hc := atO (a := Nat.gcd n.natAbs d.natAbs) (b := 1) (aaI (aa0 b1 b2) zc) (aaI (aaG zc) zc)
    rw [arJ] at hc
    refine uC _ hc ?_
    by_cases hcop : n.natAbs.Coprime d.natAbs
    ·rw [dif_pos ⟨hp, hcop⟩] at hs
     have hs' : rdF (s, t, u) = some ⟨n, d.natAbs, by omega, hcop⟩ := hs
     rw [hs'] at h
     refine uF ?_ h
     have : atG (Nat.gcd n.natAbs d.natAbs) 1 = 0 := (aMw _).2 hcop
     show (atG (Nat.gcd n.natAbs d.natAbs) 1 != 0) = false
     rw [this]; rfl
    ·rw [dif_neg (fun h => hcop h.2)] at hs
     have hs' : rdF (s, t, u) = none := hs
     rw [hs'] at h
     refine uT ?_ h
     show (atG (Nat.gcd n.natAbs d.natAbs) 1 != 0) = true
     rw [xh]
     exact fun h2 => hcop ((aMw _).1 h2)
   ·rw [dif_neg (fun h => hp h.1)] at hs
    have hs' : rdF (s, t, u) = none := hs
    rw [hs'] at h
    refine uT ?_ h
    rcases zS d 0 with h0 | h0
    ·rw [xo h0]; rfl
    ·have : d = 0 := zc
     rw [this]; rfl
theorem aaP {s : FxT} {q : Rat} (h : rdF s = some q) : abL (s, ()) = some (rt q, true, ()) := by unfold abL; dsimp only; rw [h]
theorem aaQ {s : FxT} (h : rdF s = none) : abL (s, ()) = some ((([], false, ()), [], ()), false, ()) := by unfold abL; dsimp only; rw [h]
theorem agN {k j : Nat} {q : Rat} (h : BdQ k q) (hk : k ≤ j) : BdQ j q := ⟨aaI h.1 hk, aaI h.2 hk⟩
theorem aiU {s : FxT} {q : Rat} (h : rdF s = some q) : BdQ 0 q := by
 obtain ⟨h1, h2⟩ := (aoU h).1
 exact ⟨aw7 h1, aw7 h2⟩
theorem aML {k : Nat} {p q : Rat} (h1 : BdQ k p) (h2 : BdQ k q) : BdQ (k + 2) (p + q) := by
 obtain ⟨g, h', top, t, hg, ht, hh, g0, h0, htt, e1, e2⟩ := aEj p q
 refine ⟨?_, ?_⟩
 ·rw [e1, ← acS htt h0]
  refine aaR _ ?_
  rw [ht]
  exact aaD (aaC h1.1 (aaT (aaR _ h2.2))) (aaC h2.1 (aaT (aaR _ h1.2)))
 ·rw [e2]
  exact aaI (aaW (aaR _ h1.2) (aaR _ h2.2)) zc
theorem aQt {k : Nat} {p : Rat} (h1 : BdQ k p) : BdQ k (-p) := ⟨aaV h1.1, h1.2⟩
theorem aQs {k : Nat} {p q : Rat} (h1 : BdQ k p) (h2 : BdQ k q) : BdQ (k + 2) (p - q) := by
 rw [Rat.sub_eq_add_neg]; exact aML h1 (aQt h2)
theorem aMI {k : Nat} {p q : Rat} (h1 : BdQ k p) (h2 : BdQ k q) : BdQ (k + 2) (p * q) := by
 obtain ⟨g, h', s, t, hg, hh, g0, h0, hs, ht, e1, e2⟩ := aDo p q
 refine ⟨?_, ?_⟩
 ·rw [e1]
  refine aaI (aaC (k := k) ?_ ?_) zc
  ·rw [← acS hs g0]; exact aaR _ h1.1
  ·rw [← acS ht h0]; exact aaR _ h2.1
 ·rw [e2]
  exact aaI (aaW (aaR _ h1.2) (aaR _ h2.2)) zc
theorem aMK {k : Nat} {p : Rat} (h : BdQ k p) (h0 : p ≠ 0) : BdQ k p⁻¹ := by
 obtain ⟨e1, e2, e3⟩ := aDw h0
 exact ⟨by rw [e1]; exact h.2, by rw [e3]; exact h.1⟩
theorem aL1 (a b : FxT) (y) (h : aeH (a, b, ()) = some y) : (aF0 a b).toO = some y := by
 unfold aeH aNZ at h
 dsimp only at h
 unfold aF0
 refine uV (uV ?_)
 cases ha : rdF a with
 | none =>
  simp only [ha] at h
  cases hb : rdF b with
  | none => exact uC _ (aaQ ha) (uC _ (aaQ hb) (uT rfl (uV (uV h))))
  | some q => exact uC _ (aaQ ha) (uC _ (aaP hb) (uT rfl (uV (uV h))))
 | some p =>
  cases hb : rdF b with
  | none =>
   simp only [ha, hb] at h
   exact uC _ (aaP ha) (uC _ (aaQ hb) (uF rfl (uT rfl (uV (uV h)))))
  | some q =>
   simp only [ha, hb] at h
   have b1 := aiU ha
   have b2 := aiU hb
   refine uC _ (aaP ha) (uC _ (aaP hb) (uF rfl (uF rfl ?_)))
   refine uC _ (aHB (agN b1 zc) (agN b2 zc)) (uV (uV ?_))
   exact uC _ (ajO (agN (aML b1 b2) zc)) h
theorem aLV (a b : FxT) (y) (h : afT (a, b, ()) = some y) : (aFU a b).toO = some y := by
 unfold afT aNZ at h
 dsimp only at h
 unfold aFU
 refine uV (uV ?_)
 cases ha : rdF a with
 | none =>
  simp only [ha] at h
  cases hb : rdF b with
  | none => exact uC _ (aaQ ha) (uC _ (aaQ hb) (uT rfl (uV (uV h))))
  | some q => exact uC _ (aaQ ha) (uC _ (aaP hb) (uT rfl (uV (uV h))))
 | some p =>
  cases hb : rdF b with
  | none =>
   simp only [ha, hb] at h
   exact uC _ (aaP ha) (uC _ (aaQ hb) (uF rfl (uT rfl (uV (uV h)))))
  | some q =>
   simp only [ha, hb] at h
   have b1 := aiU ha
   have b2 := aiU hb
   refine uC _ (aaP ha) (uC _ (aaP hb) (uF rfl (uF rfl ?_)))
   refine uC _ (aO1 (agN b1 zc) (agN b2 zc)) (uV (uV ?_))
   exact uC _ (ajO (agN (aQs b1 b2) zc)) h
theorem aLW (a b : FxT) (y) (h : ad4 (a, b, ()) = some y) : (aFV a b).toO = some y := by
 unfold ad4 aNZ at h
 dsimp only at h
 unfold aFV
 refine uV (uV ?_)
 cases ha : rdF a with
 | none =>
  simp only [ha] at h
  cases hb : rdF b with
  | none => exact uC _ (aaQ ha) (uC _ (aaQ hb) (uT rfl (uV (uV h))))
  | some q => exact uC _ (aaQ ha) (uC _ (aaP hb) (uT rfl (uV (uV h))))
 | some p =>
  cases hb : rdF b with
  | none =>
   simp only [ha, hb] at h
   exact uC _ (aaP ha) (uC _ (aaQ hb) (uF rfl (uT rfl (uV (uV h)))))
  | some q =>
   simp only [ha, hb] at h
   have b1 := aiU ha
   have b2 := aiU hb
   refine uC _ (aaP ha) (uC _ (aaP hb) (uF rfl (uF rfl ?_)))
   refine uC _ (aHA (agN b1 zc) (agN b2 zc)) (uV (uV ?_))
   exact uC _ (ajO (agN (aMI b1 b2) zc)) h
theorem aLY (a b : FxT) (y) (h : afC (a, b, ()) = some y) : (aFX a b).toO = some y := by
 unfold afC at h
 dsimp only at h
 unfold aFX
 cases ha : rdF a with
 | none =>
  simp only [ha] at h
  cases hb : rdF b with
  | none => exact uC _ (aaQ ha) (uC _ (aaQ hb) (uT rfl h))
  | some q => exact uC _ (aaQ ha) (uC _ (aaP hb) (uT rfl h))
 | some p =>
  cases hb : rdF b with
  | none =>
   simp only [ha, hb] at h
   exact uC _ (aaP ha) (uC _ (aaQ hb) (uF rfl (uT rfl h)))
  | some q =>
   simp only [ha, hb] at h
   have b1 := aiU ha
   have b2 := aiU hb
   refine uC _ (aaP ha) (uC _ (aaP hb) (uF rfl (uF rfl ?_)))
   refine uC _ (aqL _) ?_
   by_cases h0 : q = 0
   ·rw [if_pos h0] at h
    exact uT (zo (by rw [h0]; rfl)) h
   ·rw [if_neg h0] at h
    have := aPf h0
    refine uF sd ?_
    refine uC _ (aEr (agN b2 zc) h0) ?_
    refine uC _ (aHA (agN b1 zc) (agN (aMK b2 h0) zc)) ?_
    exact uC _ (ajO (agN (aMI b1 (aMK b2 h0)) zc)) h
theorem aLZ (a b : FxT) (y) (h : ahL (a, b, ()) = some y) : (aFY a b).toO = some y := by
 unfold ahL at h
 dsimp only at h
 unfold aFY
 refine uV (uV ?_)
 cases ha : rdF a with
 | none =>
  simp only [ha] at h
  cases hb : rdF b with
  | none => exact uC _ (aaQ ha) (uC _ (aaQ hb) (uT rfl h))
  | some q => exact uC _ (aaQ ha) (uC _ (aaP hb) (uT rfl h))
 | some p =>
  cases hb : rdF b with
  | none =>
   simp only [ha, hb] at h
   exact uC _ (aaP ha) (uC _ (aaQ hb) (uF rfl (uT rfl h)))
  | some q =>
   simp only [ha, hb] at h
   have b1 := aiU ha
   have b2 := aiU hb
   exact uC _ (aaP ha) (uC _ (aaP hb) (uF rfl (uF rfl (uC _ (aJK (agN b1 zc) (agN b2 zc)) h))))
theorem aFZ (a : FxT) (y) (h : aqG (a, ()) = some y) : (awE a).toO = some y := by
 unfold aqG at h
 dsimp only at h
 unfold awE
 cases ha : rdF a with
 | none =>
  simp only [ha] at h
  exact uC _ (aaQ ha) (uT rfl h)
 | some q =>
  simp only [ha] at h
  exact uC _ (aaP ha) (uF rfl h)
theorem aI5 (a : FxT) (y) (h : aqE (a, ()) = some y) : (aBC a).toO = some y := by
 unfold aqE at h
 dsimp only at h
 unfold aBC
 cases ha : rdF a with
 | none =>
  simp only [ha] at h
  exact uC _ (aaQ ha) (uT rfl h)
 | some q =>
  simp only [ha] at h
  exact uC _ (aaP ha) (uF rfl (uC _ (axZ (aaI (aiU ha).1 zc)) h))
theorem aQd {z : Int} (h : Fit z) : (mag z.natAbs).length ≤ 600 := aiG h
theorem aPj {n : Nat} (h : (mag n).length ≤ 1000000) : Bd 0 n := h
theorem aPg {a : Int} {d : Nat} {k : Nat} (h : (mag a.natAbs).length ≤ k) (hk : 1 ≤ k) : (mag (a / (d : Int)).natAbs).length ≤ k + 1 := by
 rcases zF d with h0 | h0
 ·subst h0
  simp only [Int.natCast_zero, Int.ediv_zero, Int.natAbs_zero, mag_zero]
  simp
 ·have hle : (a / (d : Int)).natAbs ≤ a.natAbs + 1 := by
   rcases zS a 0 with h1 | h1
   ·rw [arT h1 zc, xE, zQ]
    have := xx a.natAbs d
    split <;> omega
   ·obtain ⟨n, rfl⟩ := zw h1
    have : ((n : Int) / (d : Int)) = ((n / d : Nat) : Int) := zi
    rw [this, zQ]
    have := xx n d
    omega
  have h2 := abP hle
  have h3 := aiF a.natAbs 1
  have h4 : (mag 1).length = 1 := by rw [arJ]; rfl
  omega
theorem aFW (a : FxT) (y) (h : ajL (a, ()) = some y) : (awD a).toO = some y := by
 unfold ajL at h
 dsimp only at h
 unfold awD
 cases ha : rdF a with
 | none =>
  simp only [ha] at h
  exact uC _ (aaQ ha) (uT rfl h)
 | some q =>
  simp only [ha] at h
  have b := aiU ha
  refine uC _ (aaP ha) (uF rfl ?_)
  refine uC _ (aAC (aaI b.1 zc) (aaI b.2 zc) q.den_nz) ?_
  refine uC _ (axY (aPj ?_)) h
  have := aPg (d := q.den) (aQd (aoU ha).1.1) zc
  omega
theorem aI7 (n d : List UInt8) (y) (h : aqF (n, d, ()) = some y) : (aBE n d).toO = some y := by
 unfold aqF at h
 dsimp only at h
 unfold aBE
 cases hn : rdW n with
 | none =>
  simp only [hn] at h
  exact uC _ (adR n) (uT (by rw [hn]; rfl) h)
 | some a =>
  cases hd : rdW d with
  | none =>
   simp only [hn, hd] at h
   exact uC _ (adR n) (uF (by rw [hn]; rfl) (uC _ (adR d) (uT (by rw [hd]; rfl) h)))
  | some b =>
   simp only [hn, hd] at h
   have b1 := am9 hn
   have b2 := am9 hd
   refine uC _ (adR n) (uF (by rw [hn]; rfl) (uC _ (adR d) (uF (by rw [hd]; rfl) ?_)))
   refine uC (sg a, ()) (by rw [(af0 hn).2]; exact am5 (aaI b1 zc)) ?_
   refine uC (sg b, ()) (by rw [(af0 hd).2]; exact am5 (aaI b2 zc)) ?_
   refine uC _ (aqL _) ?_
   unfold ofQ at h
   by_cases h0 : b = 0
   ·rw [if_pos h0] at h
    exact uT sd h
   ·rw [if_neg h0] at h
    refine uF sd ?_
    obtain ⟨s, hs, hv⟩ : ∃ s : Int, s.natAbs = a.natAbs ∧ (s = 0 ∨ (!(decide (a < 0) == decide (b < 0))) = decide (s < 0)) ∧ Rat.divInt a b = mkRat s b.natAbs := by
     rcases zS b 0 with c | c
     ·refine ⟨-a, by omega, ?_, ?_⟩
      ·by_cases ha : a = 0
       ·left; omega
       ·right
        rw [zo c]
        rcases zS a 0 with c2 | c2
        ·rw [zo c2, zn zc]; rfl
        ·rw [zn zc, zo zc]; rfl
      ·rw [← Rat.neg_divInt_neg, ← wM]
       congr 1; omega
     ·refine ⟨a, rfl, ?_, ?_⟩
      ·right
       rw [zn (show ¬ b < 0 by omega)]
       cases decide (a < 0) <;> rfl
      ·rw [← wM]
       congr 1; omega
    obtain ⟨hv1, hv2⟩ := hv
    rw [hv2] at h
    refine uC (sg s, ()) (abR hs.symm hv1) ?_
    refine uC _ (aGx (by rw [hs]; exact aaI b1 zc) (aaI b2 zc) zc) ?_
    refine uC _ (ajO ?_) h
    obtain ⟨g, t, hg, g0, e0, e1, e2⟩ := aeD s (d := b.natAbs) zc
    refine ⟨?_, ?_⟩
    ·rw [e1, ← acS e0 g0, hs]; exact aaI (aaR _ b1) zc
    ·rw [e2]; exact aaI (aaR _ b2) zc
theorem abG {z : Int} (h : abD z) : Fit z := by
 unfold abD at h
 have : (aa3 z.natAbs).length ≤ 20 := (acQ zc).2 zc
 unfold Fit; omega
theorem aOD (n d : Int) (y) (h : al6 (n, d, ()) = some y) : (aPh n d).toO = some y := by
 unfold al6 at h
 split at h
 ·rename_i hp
  refine uC _ (aM6 hp.1) (uC _ (aM6 hp.2) ?_)
  refine uC (ofQ n d) ?_ h
  unfold aqF
  simp only [ak6 (abG hp.1), ak6 (abG hp.2)]
 ·cases h
theorem axT {z : Int} (h : Fit z) : akK (dec z, ()) = some (if abD z then (z, 0, ()) else (0, 6, ())) := by
 unfold akK
 simp only [ak6 h]
theorem az0 {z : Int} (h : Fit z) : (mag z.natAbs).length ≤ 67 := by
 have hl : (aa3 z.natAbs).length ≤ 600 := h
 obtain ⟨L, hL⟩ : ∃ L : Nat, L = 67 := ⟨_, rfl⟩
 rw [← hL, mag_length_le_iff]
 have h1 := afJ z.natAbs
 have h3 : (10 : Nat) ^ (9 * L) = 1000000000 ^ L := by rw [xI]
 have h2 : (10 : Nat) ^ (aa3 z.natAbs).length ≤ 10 ^ (9 * L) := yb zc zc
 omega
theorem aOh {q : Rat} (h : aeI q) {s : Nat} (hs : s ≤ 1000000000000) : (mag (apA q s).natAbs).length ≤ 200 := by
 rw [aLm]
 have h1 := az0 h.1
 have h2 := az0 h.2
 have hs2 : (mag (s * 2)).length ≤ 2 := mag_length_le_iff.2 zc
 have e1 : (mag (q.num * (s * 2 : Nat) + q.den).natAbs).length ≤ 100 := by
  have a1 := Int.natAbs_add_le (q.num * (s * 2 : Nat)) q.den
  have a2 := abP a1
  have a3 := aiF (q.num * (s * 2 : Nat)).natAbs (q.den : Int).natAbs
  rw [yF] at a3 a2
  have a4 := af1 q.num.natAbs ((s * 2 : Nat) : Int).natAbs
  simp only [zQ] at a1 a2 a3 a4 h2 ⊢
  omega
 have := aPg (d := q.den * 2) e1 zc
 omega
theorem aI6 (a : FxT) (scale : Int) (y) (h : akO (a, scale, ()) = some y) : (aBD a scale).toO = some y := by
 unfold akO at h
 dsimp only at h
 unfold aBD
 cases ha : rdF a with
 | none =>
  simp only [ha] at h
  exact uC _ (aaQ ha) (uT rfl h)
 | some q =>
  simp only [ha] at h
  refine uC _ (aaP ha) (uF rfl ?_)
  have hq := (aoU ha).1
  have hb := aiU ha
  by_cases h1 : scale < 1
  ·rw [if_pos (Or.inl h1)] at h
   exact uT (zo h1) h
  by_cases h2 : scale > 1000000000000
  ·rw [if_pos (Or.inr h2)] at h
   exact uF (zn h1) (uT (zo h2) h)
  rw [if_neg zc] at h
  obtain ⟨s, rfl⟩ := zw (show 0 ≤ scale by omega)
  rw [zp] at h
  refine uF (zn h1) (uF (zn h2) ?_)
  have hl := aOh hq (s := s) zc
  refine uC (mag s, ()) (by rw [aaO zc]; exact aCe zc) ?_
  refine uC _ (aNa (agN hb zc) (aaI (aaG zc) zc)) ?_
  refine uC _ (axY (aPj zc)) ?_
  by_cases hf : Fit (apA q s)
  ·refine uC _ (axT hf) ?_
   by_cases hi : abD (apA q s)
   ·simp only [if_pos hi] at h ⊢
    exact uF rfl h
   ·simp only [if_neg hi] at h ⊢
    exact uT rfl h
  ·have hn : rdW (dec (apA q s)) = none := aGP fun z hz he => hf (by rw [← alQ he]; exact hz)
   rw [if_neg (fun h => hf (abG h))] at h
   refine uC (0, 10, ()) (by unfold akK; simp only [hn]) (uT rfl h)
theorem acK {z : Int} (h : Fit z) : acU (sg z, ()) = some (dec z, 0, ()) := by
 rw [aqK (aaI (aw7 h) zc), aiC h]
theorem aeZ {a b : Int} (h : Fit b) (hab : a.natAbs ≤ b.natAbs) : Fit a := by
 unfold Fit at *
 rw [acQ zc] at *
 omega
theorem aOJ {a b : Int} (hb : b ≠ 0) : (a < 0 → (a / b).natAbs = (if a.natAbs % b.natAbs = 0 then a.natAbs / b.natAbs else a.natAbs / b.natAbs + 1) ∧ (a % b).natAbs = (if a.natAbs % b.natAbs = 0 then 0 else b.natAbs - a.natAbs % b.natAbs)) ∧ (0 ≤ a → (a / b).natAbs = a.natAbs / b.natAbs ∧ (a % b).natAbs = a.natAbs % b.natAbs) := by
 obtain ⟨d, hd, hbd⟩ : ∃ d : Nat, b.natAbs = d ∧ (b = d ∨ b = -(d : Int)) := ⟨b.natAbs, rfl, by omega⟩
 have hd0 : d ≠ 0 := zc
 have e1 : (a / b).natAbs = (a / (d : Int)).natAbs := by
  rcases hbd with h | h
  ·rw [h]
  ·rw [h, Int.ediv_neg, xE]
 have e2 : a % b = a % (d : Int) := by
  rcases hbd with h | h
  ·rw [h]
  ·rw [h, Int.emod_neg]
 rw [e1, e2, hd]
 constructor
 ·intro ha
  have h1 := arT ha hd0
  have h2 := yi a d
  have h3 := xS a.natAbs d
  have h4 := yU a.natAbs (show 0 < d by omega)
  generalize hq : a.natAbs / d = q at *
  generalize hr : a.natAbs % d = r at *
  rw [h1] at h2
  constructor
  ·rw [h1, xE, zQ]
  ·by_cases h0 : r = 0
   ·rw [if_pos h0] at h2 ⊢
    have : (a.natAbs : Int) = ((r + d * q : Nat) : Int) := by rw [h3]
    rw [wY, yx] at this
    have e3 : (d : Int) * -(q : Int) = -((d : Int) * q) := by rw [Int.mul_neg]
    rw [e3] at h2
    generalize (d : Int) * q = w at *
    omega
   ·rw [if_neg h0] at h2 ⊢
    have : (a.natAbs : Int) = ((r + d * q : Nat) : Int) := by rw [h3]
    rw [wY, yx] at this
    have e3 : (d : Int) * -(((q + 1 : Nat)) : Int) = -((d : Int) * q) - d := by rw [Int.mul_neg, wY, xZ]; simp; omega
    rw [e3] at h2
    generalize (d : Int) * q = w at *
    omega
 ·intro ha
  obtain ⟨n, rfl⟩ := zw ha
  have h1 : ((n : Int) / (d : Int)) = ((n / d : Nat) : Int) := zi
  have h2 : ((n : Int) % (d : Int)) = ((n % d : Nat) : Int) := zi
  exact ⟨by rw [h1, zQ, zQ], by rw [h2, zQ, zQ]⟩
theorem aMb {a b : Int} (hb : b ≠ 0) : a / b = 0 ∨ (!(decide (a < 0) == decide (b < 0))) = decide (a / b < 0) := by
 by_cases h0 : a / b = 0
 ·exact Or.inl h0
 ·right
  rcases zS a 0 with ha | ha <;> rcases zS b 0 with hb' | hb'
  ·have := Int.ediv_nonneg_of_nonpos_of_nonpos (xk ha) (xk hb')
   rw [zo ha, zo hb', zn zc]; rfl
  ·have := Int.ediv_neg_of_neg_of_pos ha (show 0 < b by omega)
   rw [zo ha, zn zc, zo zc]; rfl
  ·have := Int.ediv_nonpos_of_nonneg_of_nonpos ha (xk hb')
   rw [zn zc, zo hb', zo zc]; rfl
  ·have := xz ha hb'
   rw [zn zc, zn zc, zn zc]; rfl
theorem aJ4 (a b : List UInt8) (y) (h : asF (a, b, ()) = some y) : (aEH a b).toO = some y := by
 unfold asF at h
 dsimp only at h
 unfold aEH aqR
 cases hr : rdW a with
 | none =>
  simp only [hr] at h
  exact uC (([], false, ()), ([], false, ()), 10, ()) (by unfold ae8; simp only [hr]) (uT rfl h)
 | some z =>
  cases hb : rdW b with
  | none =>
   simp only [hr, hb] at h
   exact uC (([], false, ()), ([], false, ()), 10, ()) (by unfold ae8; simp only [hr, hb]) (uT rfl h)
  | some w =>
   simp only [hr, hb] at h
   have b1 := am9 hr
   have b2 := am9 hb
   have f1 := (af0 hr).1
   have f2 := (af0 hb).1
   refine uC (sg z, sg w, 0, ()) (by unfold ae8; simp only [hr, hb]) (uF rfl ?_)
   refine uC _ (axP _) ?_
   by_cases h0 : w = 0
   ·rw [if_pos h0] at h
    exact uT sd h
   rw [if_neg h0] at h
   refine uF sd ?_
   have hdv := axR (a := z.natAbs) (b := w.natAbs) (aaI b1 zc) (aaI b2 zc) zc
   obtain ⟨en, ep⟩ := aOJ (a := z) h0
   have hsg := aMb (a := z) h0
   have hr0 := yN z h0
   have hrlt : (z % w).natAbs < w.natAbs := by
    rcases zS w 0 with c | c
    ·have := yz z (show 0 < -w by omega)
     rw [Int.emod_neg] at this
     omega
    ·have := yz z (show 0 < w by omega)
     omega
   have fr : Fit (z % w) := aeZ f2 zc
   have hq1 := xx z.natAbs w.natAbs
   have fq : Fit (z / w) := by
    refine aeZ f1 ?_
    rcases zS z 0 with c | c
    ·rw [(en c).1]
     split
     ·exact hq1
     ·rename_i hm
      have : 2 ≤ w.natAbs := by
       rcases zr w.natAbs 2 with c2 | c2
       ·have : w.natAbs = 1 := zc
        rw [this, Nat.mod_one] at hm; exact absurd rfl hm
       ·exact c2
      have h2 := Nat.div_le_div_left this (show 0 < 2 by omega) (a := z.natAbs)
      omega
    ·rw [(ep c).1]; exact hq1
   have tail : ∀ (q r : Nat) (b : Bool), q = (z / w).natAbs → r = (z % w).natAbs → (b = (!(decide (z < 0) == decide (w < 0)))) → ah3 (mag q, b, ()) = some (sg (z / w), ()) ∧ ah3 (mag r, false, ()) = some (sg (z % w), ()) := by
    intro q r b hq hr2 hb2
    refine ⟨aAy hq ?_, aAy hr2 (Or.inr (zn zc).symm)⟩
    rw [hb2]; exact hsg
   refine uC _ hdv ?_
   by_cases c : z < 0
   ·refine uT (zo c) ?_
    refine uC _ (axP _) ?_
    obtain ⟨g1, g2⟩ := en c
    by_cases hm : z.natAbs % w.natAbs = 0
    ·rw [if_pos hm] at g1 g2
     obtain ⟨u1, u2⟩ := tail _ _ (!(decide (z < 0) == decide (w < 0))) g1.symm (hm.trans g2.symm) rfl
     refine uF (by show (!decide _) = false; rw [zo hm]; rfl) ?_
     refine uC _ u1 (uC _ (acK fq) (uF rfl ?_))
     exact uC _ u2 (uC _ (acK fr) (uF rfl h))
    ·rw [if_neg hm] at g1 g2
     have hlt := yU z.natAbs (show 0 < w.natAbs by omega)
     obtain ⟨u1, u2⟩ := tail _ _ (!(decide (z < 0) == decide (w < 0))) g1.symm g2.symm rfl
     refine uT (by show (!decide _) = true; rw [zn hm]; rfl) ?_
     have hp := aEn (a := z.natAbs / w.natAbs) (b := 1) (aaI (aaR _ b1) zc) (aaI (aaG zc) zc)
     rw [arJ] at hp
     refine uC _ hp ?_
     refine uC _ (aJH (aaI b2 zc) zc) ?_
     refine uC _ u1 (uC _ (acK fq) (uF rfl ?_))
     exact uC _ u2 (uC _ (acK fr) (uF rfl h))
   ·refine uF (zn c) ?_
    obtain ⟨g1, g2⟩ := ep zc
    obtain ⟨u1, u2⟩ := tail _ _ (!(decide (z < 0) == decide (w < 0))) g1.symm g2.symm rfl
    refine uC _ u1 (uC _ (acK fq) (uF rfl ?_))
    exact uC _ u2 (uC _ (acK fr) (uF rfl h))
theorem anA (n : Nat) : ∀ k : Nat, (mag (n ^ k)).length ≤ k * (mag n).length + 1
 | 0 => by simp [arJ]
 | k + 1 => by
  have h1 := anA n k
  have h2 := af1 (n ^ k) n
  rw [yA, yL]
  rcases zF (mag n).length with h3 | h3
  ·have : n = 0 := mag_nil_iff.1 (zW.1 h3)
   subst this
   simp [mag_zero]
  ·omega
theorem aAx {a n : Nat} (h1 : Bd 2 a) (h2 : n ≤ 40) : ai7 (mag a, (n : Int), ()) = some (mag (a ^ n), ()) := by
 refine aaK (enc := fun x : Nat × Nat => (mag x.1, (x.2 : Int), ())) (a, n) ⟨h1, h2⟩ (fun b hb => ?_)
 obtain ⟨e1, e2⟩ := Prod.mk.inj hb
 obtain ⟨e2, -⟩ := Prod.mk.inj e2
 exact Prod.ext (adK e1) (Int.ofNat.inj e2)
theorem aMM {a n : Nat} (h1 : Bd 2 a) (h2 : n ≤ 40) : Bd 7 (a ^ n) := by
 have h3 := anA a n
 unfold Bd at *
 have h4 : n * (mag a).length ≤ 40 * (1000000 * 4 ^ 2) := Nat.mul_le_mul h2 h1
 omega
theorem aCr (m : List Int) (n : Int) (y) (h : ai7 (m, n, ()) = some y) : (ay1 m n).toO = some y := by
 obtain ⟨⟨a, k⟩, hp, hx, rfl⟩ := aaE h
 obtain ⟨rfl, hx2⟩ := Prod.mk.inj hx; obtain ⟨rfl, -⟩ := Prod.mk.inj hx2; dsimp only
 obtain ⟨l1, l2⟩ := hp
 simp only at l1 l2
 refine uO (0, [1], ()) rfl ?_
 refine aaL (fun i : Int × List Int × Unit => ∃ j : Nat, j ≤ k ∧ i = ((j : Int), mag (a ^ j), ())) (fun i => ((k : Int) - i.1).toNat) (fun _ => (mag (a ^ k), ())) ?_ _ ⟨0, by omega, by rw [Nat.pow_zero, arJ]; rfl⟩
 rintro i ⟨j, hj, rfl⟩
 simp only [auK]
 rcases zr j k with h1 | h1
 ·left
  refine ⟨(((j + 1 : Nat) : Int), mag (a ^ (j + 1)), ()), ?_, ⟨j + 1, by omega, rfl⟩, by simp only; omega, ze⟩
  refine uT sd ?_
  refine uC (mag (a ^ (j + 1)), ()) (by rw [asI (aaI l1 zc) (aaI (aMM l1 zc) zc), yA, yJ]) ?_
  repeat refine za ?_
  simp (disch := omega) only [aaH, aaA, aaO, aaZ, abJ, aaM, zv, zp, aaB, zt]
  rfl
 ·right
  have : j = k := zc
  subst this
  refine uF sd rfl
theorem aJ1 (a : List UInt8) (n : Int) (y) (h : al2 (a, n, ()) = some y) : (aEE a n).toO = some y := by
 unfold al2 at h
 dsimp only at h
 unfold aEE
 cases hr : rdW a with
 | none =>
  simp only [hr] at h
  exact uC _ (ac1 hr) (uT rfl h)
 | some z =>
  simp only [hr] at h
  have b1 := am9 hr
  refine uC _ (ac0 hr) (uF rfl ?_)
  by_cases h1 : n < 0
  ·rw [if_pos (Or.inl h1)] at h
   exact uT (zo h1) h
  by_cases h2 : n > 40
  ·rw [if_pos (Or.inr h2)] at h
   exact uF (zn h1) (uT (zo h2) h)
  rw [if_neg zc] at h
  obtain ⟨k, rfl⟩ := zw (show 0 ≤ n by omega)
  rw [zp] at h
  refine uF (zn h1) (uF (zn h2) ?_)
  have hk : k ≤ 40 := zc
  refine uC _ (aAx (aaI b1 zc) hk) ?_
  have bp := aMM (aaI b1 (show 0 ≤ 2 by omega)) hk
  have hw : acU (sg (z ^ k), ()) = some (wrW (z ^ k)) := aqK (by rw [Int.natAbs_pow]; exact aaI bp zc)
  by_cases hz : z < 0
  ·refine uT (zo hz) (uV ?_)
   refine uC (sg (z ^ k), ()) (aAy (by rw [Int.natAbs_pow]) ?_) (uC _ hw h)
   right
   obtain ⟨w, hw0, rfl⟩ : ∃ w : Int, 0 < w ∧ z = -w := ⟨-z, by omega, by omega⟩
   rw [zE zc]
   have hpos : 0 < w ^ k := yE hw0
   rcases Nat.mod_two_eq_zero_or_one k with hm | hm
   ·have e : (-w) ^ k = w ^ k := by
     obtain ⟨j, rfl⟩ : ∃ j, k = 2 * j := ⟨k / 2, by omega⟩
     rw [Int.pow_mul, Int.pow_mul]; congr 1; simp only [zZ, Int.pow_zero, Int.one_mul, Int.neg_mul_neg]
    rw [e, zn (show ¬ w ^ k < 0 by omega)]
    rw [beq_eq_false_iff_ne]; omega
   ·have e : (-w) ^ k = -(w ^ k) := by
     obtain ⟨j, rfl⟩ : ∃ j, k = 2 * j + 1 := ⟨k / 2, by omega⟩
     rw [zZ, zZ, Int.pow_mul, Int.pow_mul]
     have : (-w) ^ 2 = w ^ 2 := by simp only [zZ, Int.pow_zero, Int.one_mul, Int.neg_mul_neg]
     rw [this, Int.mul_neg]
    rw [e, zo (show -(w ^ k) < 0 by omega)]
    rw [zV]; omega
  ·refine uF (zn hz) ?_
   have : 0 ≤ z ^ k := Int.pow_nonneg zc
   refine uC (sg (z ^ k), ()) (aAy (by rw [Int.natAbs_pow]) (Or.inr (zn zc).symm)) (uC _ hw h)
theorem aGv {n : Nat} (h : n ≤ 100000000) : akJ ((n : Int), ()) = some (mag (10 ^ n), ()) := aaK (enc := fun x : Nat => ((x : Int), ())) n h (fun b hb => Int.ofNat.inj (Prod.mk.inj hb).1)
theorem aAF (n : Int) (y) (h : akJ (n, ()) = some y) : (anO n).toO = some y := by
 obtain ⟨k, hp, hx, rfl⟩ := aaE h
 obtain ⟨rfl, -⟩ := Prod.mk.inj hx
 have e1 : Int.tdiv (k : Int) 9 = ((k / 9 : Nat) : Int) := by rw [zL zc]; omega
 have e2 : Int.tmod (k : Int) 9 = ((k % 9 : Nat) : Int) := by rw [zE zc]; omega
 have e3 : w64 ((k / 9 : Nat) : Int) = ((k / 9 : Nat) : Int) := aaA zc
 have e4 : w64 (((k / 9 : Nat) : Int) + 1) = ((k / 9 + 1 : Nat) : Int) := by rw [aaA zc]; omega
 unfold anO
 simp only [e1, e3, e4]
 refine uV (uN zc (uV ?_))
 refine uO (0, 1, ()) rfl ?_
 refine aaL (fun i : Int × Int × Unit => ∃ j : Nat, j ≤ k % 9 ∧ i = ((j : Int), ((10 ^ j : Nat) : Int), ())) (fun i => (((k % 9 : Nat) : Int) - i.1).toNat) (fun _ => (mag (10 ^ k), ())) ?_ _ ⟨0, by omega, rfl⟩
 rintro i ⟨j, hj, rfl⟩
 have hj9 : (10 : Nat) ^ j ≤ 10 ^ 8 := yb zc zc
 have hp0 : (0 : Int) ≤ ((10 ^ j : Nat) : Int) := Int.natCast_nonneg _
 have hp8 : ((10 ^ j : Nat) : Int) ≤ 100000000 := wD.2 hj9
 simp only [asN, e1, e2, e3, e4]
 rcases zr j (k % 9) with h1 | h1
 ·left
  refine ⟨(((j + 1 : Nat) : Int), ((10 ^ (j + 1) : Nat) : Int), ()), ?_, ⟨j + 1, by omega, rfl⟩, by simp only; omega, ze⟩
  repeat refine za ?_
  rw [aaZ (x := ((10 ^ j : Nat) : Int) * 10) zc, aaA (x := (j : Int) + 1) zc, yA, yx]
  rfl
 ·right
  have hjk : j = k % 9 := zc
  refine uF sd (uV (uN sd ?_))
  simp only [zp, zv, aaH]
  rw [zu zi]
  have hd : Dg 1000000000 ((List.replicate (k / 9 + 1) 0).set (k / 9) ((10 ^ j : Nat) : Int)) := aiB (af5 zc _) ⟨by omega, by omega⟩ _
  have hv : V 1000000000 ((List.replicate (k / 9 + 1) 0).set (k / 9) ((10 ^ j : Nat) : Int)) = ((10 ^ k : Nat) : Int) := by
   rw [axG _ zi, asB, aiH zi]
   simp only [List.getElem_replicate, wE, wZ]
   have : (10 : Nat) ^ k = 1000000000 ^ (k / 9) * 10 ^ j := by
    rw [show (1000000000 : Nat) = 10 ^ 9 by decide, ← xI, ← xw, hjk, Nat.div_add_mod]
   rw [this]; simp
  rw [apC hd (aHG zc hd (Or.inr ?_)) hv]
  rw [hv]
  simp only [yX, xQ, xr]
  have h6 : (1000000000 : Nat) ^ (k / 9) ≤ 10 ^ k := by
   rw [show (1000000000 : Nat) = 10 ^ 9 by decide, ← xI]
   exact yb zc zc
  have h7 : ((1000000000 ^ (k / 9) : Nat) : Int) ≤ ((10 ^ k : Nat) : Int) := wD.2 h6
  simpa using h7
theorem aBm {k n r : Nat} (hk : 1 ≤ k) (h1 : r ^ k ≤ n) (h2 : n < (r + 1) ^ k) : adM k n = r := by
 have hex : ∃ r, r ^ k ≤ n ∧ n < (r + 1) ^ k := ⟨r, h1, h2⟩
 unfold adM
 rw [dif_pos hex]
 obtain ⟨g1, g2⟩ := hex.choose_spec
 generalize hex.choose = q at *
 rcases Nat.lt_trichotomy q r with h | h | h
 ·have := xj (show q + 1 ≤ r by omega) k; omega
 ·exact h
 ·have := xj (show r + 1 ≤ q by omega) k; omega
theorem aOr (k n : Nat) (hk : 1 ≤ k) : ∃ r, r ^ k ≤ n ∧ n < (r + 1) ^ k := by
 have H : ∀ m, (∃ r, r ^ k ≤ n ∧ n < (r + 1) ^ k) ∨ m ^ k ≤ n := by
  intro m
  induction m with
  | zero => right; rw [Nat.zero_pow hk]; omega
  | succ m ih =>
   rcases ih with h | h
   ·exact Or.inl h
   ·rcases zr n ((m + 1) ^ k) with h2 | h2
    ·exact Or.inl ⟨m, h, h2⟩
    ·exact Or.inr h2
 rcases H (n + 1) with h | h
 ·exact h
 ·have : n + 1 ≤ (n + 1) ^ k := Nat.le_self_pow zc _
  omega
theorem amK {k : Nat} (n : Nat) (hk : 1 ≤ k) : (adM k n) ^ k ≤ n ∧ n < (adM k n + 1) ^ k := by
 obtain ⟨r, h1, h2⟩ := aOr k n hk
 rw [aBm hk h1 h2]; exact ⟨h1, h2⟩
theorem aKa (r x : Int) (hr : 0 ≤ r) (hx : 0 ≤ x) : ∀ k : Nat, x ^ (k + 1) + (k + 1 : Nat) * x ^ k * (r - x) ≤ r ^ (k + 1)
 | 0 => by simp [zZ]; omega
 | k + 1 => by
  have ih := aKa r x hr hx k
  have h1 := zC ih hr
  have h2 : 0 ≤ (k + 1 : Nat) * x ^ k * ((r - x) * (r - x)) := yg (yg zc (Int.pow_nonneg hx)) (by
   rcases zS (r - x) 0 with h | h
   ·exact xk (xY h h)
   ·exact yg h h)
  have e1 : r ^ (k + 1 + 1) = r * r ^ (k + 1) := by rw [zZ, yI]
  have e2 : x ^ (k + 1 + 1) = x * (x * x ^ k) := by rw [zZ, zZ]; grind
  have e3 : x ^ (k + 1) = x * x ^ k := by rw [zZ, yI]
  rw [e1, e2, e3]
  rw [e3] at h1
  have e4 : ((k + 1 + 1 : Nat) : Int) = ((k + 1 : Nat) : Int) + 1 := zc
  rw [e4]
  generalize ((k + 1 : Nat) : Int) = K at *
  generalize x ^ k = P at *
  generalize r ^ (k + 1) = R at *
  have e5 : r * (x * P + K * P * (r - x)) = x * (x * P) + (K + 1) * (x * P) * (r - x) + K * P * ((r - x) * (r - x)) := by grind
  omega
theorem aLk {m r x k : Nat} (hk : 1 ≤ k) (hx : 0 < x) (h : r ^ k ≤ m) : r ≤ (x * (k - 1) + m / x ^ (k - 1)) / k := by
 rw [wG zc]
 obtain ⟨j, rfl⟩ : ∃ j, k = j + 1 := ⟨k - 1, by omega⟩
 simp only [xr]
 rcases zr (x * j) (r * (j + 1)) with h1 | h1
 ·have hp : 0 < x ^ j := xl hx
  have h2 : r * (j + 1) - x * j ≤ m / x ^ j := by
   rw [wG hp]
   have ht := aKa (r : Int) (x : Int) zc zc j
   have h3 : ((r ^ (j + 1) : Nat) : Int) ≤ (m : Int) := wD.2 h
   rw [wx] at h3
   have h4 : (((r * (j + 1) - x * j) * x ^ j : Nat) : Int) ≤ (m : Int) := by
    rw [yx, Int.natCast_sub (vC h1), yx, yx, wx]
    have e1 : (x : Int) ^ (j + 1) = x * (x : Int) ^ j := by rw [zZ, yI]
    rw [e1] at ht
    have e2 : ((j + 1 : Nat) : Int) = (j : Int) + 1 := zc
    rw [e2] at ht ⊢
    generalize (x : Int) ^ j = P at *
    generalize (j : Int) = J at *
    have e3 : ((r : Int) * (J + 1) - x * J) * P = x * P + (J + 1) * P * (r - x) := by grind
    rw [e3]
    omega
   exact wD.1 h4
  generalize m / x ^ j = M at *
  generalize x * j = A at *
  generalize r * (j + 1) = C at *
  omega
 ·exact zz h1 (xf _ _)
theorem aLj {m x k : Nat} (hk : 1 ≤ k) (hx : 0 < x) (h : m < x ^ k) : (x * (k - 1) + m / x ^ (k - 1)) / k < x := by
 obtain ⟨j, rfl⟩ : ∃ j, k = j + 1 := ⟨k - 1, by omega⟩
 simp only [xr]
 have hp : 0 < x ^ j := xl hx
 have h2 : m / x ^ j < x := by
  rw [yK hp, yJ]
  rwa [yA] at h
 rw [yK zc, Nat.mul_add]
 omega
theorem aEz (m : List Int) (k : Int) (y) (h : ap1 (m, k, ()) = some y) : (aCq m k).toO = some y := by
 obtain ⟨⟨n, q⟩, hp, hx, rfl⟩ := aaE h
 obtain ⟨rfl, hx2⟩ := Prod.mk.inj hx; obtain ⟨rfl, -⟩ := Prod.mk.inj hx2; dsimp only
 obtain ⟨l1, l2, l3⟩ := hp
 simp only at l1 l2 l3
 have hdl := aHn l1
 refine uC _ (axP n) ?_
 by_cases h0 : n = 0
 ·refine uT (zo h0) ?_
  subst h0
  rw [aBm (r := 0) l2 (by rw [Nat.zero_pow l2]; omega) zi, mag_zero]
  rfl
 refine uF (zn h0) ?_
 refine uC _ (axQ (aaI l1 zc)) (uN zc ?_)
 have hle := xx (aa3 n).length q
 have hL : (aa3 n).length ≤ ((aa3 n).length / q + 1) * q := by
  have h3 := xS (aa3 n).length q
  have h4 := yU (aa3 n).length (show 0 < q by omega)
  rw [yL, yJ ((aa3 n).length / q) q]
  omega
 have e1 : Int.tdiv ((aa3 n).length : Int) (q : Int) = (((aa3 n).length / q : Nat) : Int) := by rw [zL zc]; simp
 simp only [e1]
 generalize (aa3 n).length / q = L at hle hL
 have e2 : w64 (L : Int) = L := aaA zc
 have e3 : w64 ((L : Int) + 1) = ((L + 1 : Nat) : Int) := by rw [aaA zc]; omega
 refine uC (mag (10 ^ (L + 1)), ()) (by simp only [e2, e3]; exact aGv zc) ?_
 refine uO (mag (10 ^ (L + 1)), ()) rfl ?_
 obtain ⟨s1, s2⟩ := amK (k := q) n l2
 have hbx : Bd 2 (10 ^ (L + 1)) := by
  have : (mag (10 ^ (L + 1))).length ≤ 10000000 := by
   refine aiG ?_
   rw [anG (k := L + 1) (zq _) (wN zc zc)]
   omega
  unfold Bd; omega
 have hstart : n < (10 ^ (L + 1)) ^ q := by
  rw [← xI]
  have h1 := afJ n
  have h3 : (10 : Nat) ^ (aa3 n).length ≤ 10 ^ ((L + 1) * q) := yb zc hL
  omega
 have hstart2 : adM q n ≤ 10 ^ (L + 1) := by
  rcases zr (10 ^ (L + 1)) (adM q n) with h | h
  ·have := xj (vC h) q; omega
  ·exact h
 have hr1 : 1 ≤ adM q n := by
  rcases zF (adM q n) with h | h
  ·rw [h] at s2; simp at s2; omega
  ·exact h
 generalize 10 ^ (L + 1) = X at *
 refine aaL (fun i : List Int × Unit => ∃ x : Nat, i = (mag x, ()) ∧ adM q n ≤ x ∧ x ≤ X) (fun i => (V 1000000000 i.1).toNat) (fun _ => (mag (adM q n), ())) ?_ _ ⟨X, rfl, hstart2, zq _⟩
 rintro i ⟨x, rfl, g1, g2⟩
 have bx : Bd 2 x := amV hbx g2
 have ek : w64 ((q : Int) - 1) = ((q - 1 : Nat) : Int) := by rw [aaA (x := (q : Int) - 1) zc]; omega
 have ekk : abN ((q - 1 : Nat) : Int) = ((q - 1 : Nat) : Int) := aaO zc
 have ek32 : adT (q : Int) = q := aaZ zc
 have hxp : 0 < x ^ (q - 1) := xl zc
 have bp := aMM bx (show q - 1 ≤ 40 by omega)
 have bsm : Bd 2 (q - 1) := aaI (aaG zc) zc
 have bsum : Bd 4 (x * (q - 1) + n / x ^ (q - 1)) := aaY (aaW bx bsm) (aaI (aaR _ l1) zc)
 simp only [aiP, ek, ekk, ek32]
 have walk : ∀ r, (TT.ite (decide (atG (((x * (q - 1) + n / x ^ (q - 1)) / q : Nat)) (x : Nat) ≥ 0)) (TT.ok (Sum.inr (mag x, ())) : TT (uj ⊕ uj)) (TT.ok (.inl (mag ((x * (q - 1) + n / x ^ (q - 1)) / q), ())))).toO = r → (aiP (mag n) (q : Int) (decide (n = 0), ()) (((aa3 n).length : Int), ()) (mag X, ()) (mag x, ())).toO = r := by
  intro r hr
  simp only [aiP, ek, ekk, ek32]
  refine uC _ (aAx bx zc) ?_
  refine uC _ (axR (aaI l1 zc) (aaI bp zc) zc) ?_
  refine uC _ (aCc zc) ?_
  refine uC _ (asI (aaI bx zc) (aaI bsm zc)) ?_
  refine uC _ (aEn (aaI (aaW bx bsm) zc) (aaI (aaR _ l1) zc)) ?_
  refine uC _ (aJG (d := q) (aaI bsum zc) zc zc) ?_
  refine uC _ (aEo (aaI (aaR _ bsum) zc) (aaI bx zc)) ?_
  exact hr
 simp only [aiP, ek, ekk, ek32] at walk
 generalize hY : (x * (q - 1) + n / x ^ (q - 1)) / q = Y at walk
 have hge : adM q n ≤ Y := by rw [← hY]; exact aLk l2 zc s1
 rcases zr Y x with hc | hc
 ·left
  refine ⟨(mag Y, ()), walk _ (uF ?_ rfl), ⟨Y, rfl, hge, by omega⟩, ?_, ze⟩
  ·unfold atG; rw [if_pos zc]; rfl
  ·simp only [al0, zp]; exact hc
 ·right
  have hxm : x ^ q ≤ n := by
   rcases zr n (x ^ q) with h | h
   ·have := aLj l2 (show 0 < x by omega) h
    omega
   ·exact h
  have hxr : x = adM q n := by
   rcases zr (adM q n) x with h | h
   ·have := xj (show adM q n + 1 ≤ x from h) q; omega
   ·omega
  refine walk _ (uT ?_ ?_)
  ·unfold atG
   rw [if_neg zc]
   split <;> rfl
  ·rw [← hxr]; rfl
theorem aM5 {n k : Nat} (h1 : Bd 0 n) (h2 : 1 ≤ k) (h3 : k ≤ 12) : ap1 (mag n, (k : Int), ()) = some (mag (adM k n), ()) := by
 refine aaK (enc := fun x : Nat × Nat => (mag x.1, (x.2 : Int), ())) (n, k) ⟨h1, h2, h3⟩ (fun b hb => ?_)
 obtain ⟨e1, e2⟩ := Prod.mk.inj hb
 obtain ⟨e2, -⟩ := Prod.mk.inj e2
 exact Prod.ext (adK e1) (Int.ofNat.inj e2)
theorem auB {k n : Nat} (hk : 1 ≤ k) : adM k n ≤ n := zz (Nat.le_self_pow zc _) (amK n hk).1
theorem zl {p : Prop} (h : p := by simp only [Int.natAbs_natCast]; exact auB (by omega)) : p := h
theorem aHS (a : List UInt8) (k : Int) (y) (h : ap3 (a, k, ()) = some y) : (aAJ a k).toO = some y := by
 unfold ap3 at h
 dsimp only at h
 unfold aAJ
 cases hr : rdW a with
 | none =>
  simp only [hr] at h
  exact uC _ (ac1 hr) (uT rfl h)
 | some z =>
  simp only [hr] at h
  have b1 := am9 hr
  refine uC _ (ac0 hr) (uF rfl ?_)
  by_cases h1 : k < 1
  ·rw [if_pos (Or.inl h1)] at h
   exact uT (zo h1) h
  by_cases h2 : k > 12
  ·rw [if_pos (Or.inr (Or.inl h2))] at h
   exact uF (zn h1) (uT (zo h2) h)
  by_cases h3 : z < 0
  ·rw [if_pos (Or.inr (Or.inr h3))] at h
   exact uF (zn h1) (uF (zn h2) (uT (zo h3) h))
  rw [if_neg zc] at h
  obtain ⟨j, rfl⟩ := zw (show 0 ≤ k by omega)
  rw [zp] at h
  refine uF (zn h1) (uF (zn h2) (uF (zn h3) ?_))
  refine uC _ (aM5 b1 zc zc) ?_
  refine uC (sg (adM j z.natAbs : Int), ()) (aAy rfl (Or.inr (zn zc).symm)) ?_
  exact uC _ (aqK (aaI (amV b1 (auB zc)) zc)) h
end Go.Vs
