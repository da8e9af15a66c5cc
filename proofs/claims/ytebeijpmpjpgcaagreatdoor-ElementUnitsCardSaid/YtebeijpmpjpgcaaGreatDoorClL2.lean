/-
  Trees of what the functions compute, and their laws. Own work; no condition.
-/
import Derived.Test.YtebeijpmpjpgcaaGreatDoorClL1
import Derived.Test.YtebeijpmpjpgcaaGreatDoorProg
set_option linter.unusedVariables false
set_option linter.unusedSimpArgs false
namespace Go.Vs
open Go Go.Vg
theorem aAA {q : Rat} (h : ak5 q) : wrF q = (fx q, 0, ()) := if_pos h
theorem au9 {q : Rat} (h : ¬ ak5 q) : wrF q = (([], [], ()), 6, ()) := if_neg h
theorem au7 {z : Int} (h : Fit z) : wrW z = (dec z, 0, ()) := if_pos h
theorem au8 {z : Int} (h : ¬ Fit z) : wrW z = ([], 6, ()) := if_neg h
theorem aHK {z : Int} (h : Bd 8 z.natAbs) : aAf (sg z, ()) = some (wrW z) := aaZ (enc := fun x : Int => (sg x, ())) z h (fun b hb => anQ (Prod.mk.inj hb).1)
theorem ajS {q : Rat} (h : BdQ 8 q) : ae7 (rt q, ()) = some (wrF q) := aaZ (enc := fun x : Rat => (rt x, ())) q h (fun b hb => axR (Prod.mk.inj hb).1)
theorem ay3 (x : RtT) (y) (h : ae7 (x, ()) = some y) : (amZ x).toO = some y := by
 obtain ⟨q, hp, hx, rfl⟩ := aaP h
 obtain ⟨rfl, -⟩ := Prod.mk.inj hx
 obtain ⟨h1, h2⟩ := hp
 unfold amZ
 dsimp only
 refine uC _ (asK h1) ?_
 by_cases hf : Fit q.num
 ·have hf' : (acF q.num.natAbs).length ≤ 600 := hf
  refine uF zg ?_
  refine uC _ (asK h2) ?_
  by_cases hg : Fit q.den
  ·have hg' : (acF q.den).length ≤ 600 := hg
   rw [aAA ⟨hf, hg⟩]
   refine uF zg ?_
   exact uC _ (aHP (az6 hf)) (uC _ (ak4 (az6 hg)) rfl)
  ·have hg' : ¬ (acF q.den).length ≤ 600 := hg
   rw [au9 (fun h => hg h.2)]
   exact uT zg rfl
 ·have hf' : ¬ (acF q.num.natAbs).length ≤ 600 := hf
  rw [au9 (fun h => hf h.1)]
  exact uT zg rfl
theorem ahI {g : Nat} {t n : Int} (h : n = g * t) (g0 : g ≠ 0) : (n < 0 ↔ t < 0) ∧ (n = 0 ↔ t = 0) := by
 subst h
 rcases Int.lt_trichotomy t 0 with h | h | h
 ·have := wj (show (0 : Int) < g by omega) h
  omega
 ·subst h; simp
 ·have := Int.mul_pos (show (0 : Int) < g by omega) h
  omega
theorem ac3 {g : Nat} {t n : Int} (h : n = g * t) (g0 : g ≠ 0) : n.natAbs / g = t.natAbs := by
 rw [h, yH, yK, yb _ zc]
theorem aBP {n : Int} {d : Nat} (h1 : Bd 7 n.natAbs) (h2 : Bd 7 d) (h3 : d ≠ 0) : aiA (sg n, mag d, ()) = some (rt (mkRat n d), ()) := aaZ (enc := fun x : Int × Nat => (sg x.1, mag x.2, ())) (n, d) ⟨h1, h2, h3⟩ (fun b hb => aET hb)
theorem awG (n : SgT) (d : List Int) (y) (h : aiA (n, d, ()) = some y) : (akU n d).toO = some y := by
 obtain ⟨⟨a, b⟩, hp, hx, rfl⟩ := aaP h
 obtain ⟨rfl, hx2⟩ := Prod.mk.inj hx; obtain ⟨rfl, -⟩ := Prod.mk.inj hx2; dsimp only
 obtain ⟨l1, l2, l3⟩ := hp
 simp only at l1 l2 l3
 obtain ⟨g, t, hg, g0, hn, e1, e2⟩ := ad8 a l3
 have hs := ahI hn g0
 have ha := ac3 hn g0
 unfold akU
 dsimp only
 have bg : Bd 7 g := by rw [hg]; repeat (first | assumption | exact aaS zf zc | exact aaJ zc | refine aa6 ?_ ?_ | refine aaV _ ?_ | refine abA _ ?_ | refine aaG ?_ ?_ | refine aaD ?_ ?_ | refine aaY ?_ | refine aa5 ?_ ?_ | refine aa7 ?_ ?_ | refine aaX ?_)
 refine uC (mag g, ()) (by rw [ajU zb zb, hg]) ?_
 refine uC _ (acU zb zb g0) ?_
 refine uC _ (acU zb zb g0) ?_
 refine uC (sg t, ()) (adV ha (Or.inr (decide_eq_decide.2 hs.1))) ?_
 show some (((sg t), mag (b / g), ()), ()) = some (rt (mkRat a b), ())
 unfold rt
 rw [e1, e2]
theorem aAi {q : Rat} (h : BdQ 7 q) : aoI (rt q, ()) = some (rt (-q), ()) := aaZ (enc := fun x : Rat => (rt x, ())) q h (fun b hb => axR (Prod.mk.inj hb).1)
theorem aAj {q : Rat} (h : BdQ 7 q) (h0 : q ≠ 0) : aoJ (rt q, ()) = some (rt q⁻¹, ()) := aaZ (enc := fun x : Rat => (rt x, ())) q ⟨h, h0⟩ (fun b hb => axR (Prod.mk.inj hb).1)
theorem aKE {q : Rat} (h : q ≠ 0) : q.num ≠ 0 := fun h2 => h (Rat.num_eq_zero.1 h2)
theorem aGn {q : Rat} (h : q ≠ 0) : (q⁻¹).num.natAbs = q.den ∧ ((q⁻¹).num < 0 ↔ q.num < 0) ∧ (q⁻¹).den = q.num.natAbs := by
 have h1 := aKE h
 have h2 := q.den_pos
 rw [Rat.num_inv, Rat.den_inv, if_neg h1]
 rcases zK q.num 0 with h3 | h3
 ·rw [xu h3]; omega
 ·rw [xK zc]; omega
theorem aCZ {p q : Rat} (h : BdQ 3 p) (h2 : BdQ 3 q) : al7 (rt p, rt q, ()) = some (rt (p + q), ()) := aaZ (enc := fun x : Rat × Rat => (rt x.1, rt x.2, ())) (p, q) ⟨h, h2⟩ (fun b hb => avN hb)
theorem aDT (x x' : RtT) (y) (h : al7 (x, x', ()) = some y) : (av8 x x').toO = some y := by
 obtain ⟨⟨p, q⟩, hp, hx, rfl⟩ := aaP h
 obtain ⟨rfl, hx2⟩ := Prod.mk.inj hx; obtain ⟨rfl, -⟩ := Prod.mk.inj hx2; dsimp only
 obtain ⟨⟨p1, p2⟩, q1, q2⟩ := hp
 simp only at p1 p2 q1 q2
 obtain ⟨g, h', top, t, hg, ht, hh, g0, h0, htt, e1, e2⟩ := aAb p q
 have hs := ahI htt h0
 have ha := ac3 htt h0
 have bg : Bd 3 g := by rw [hg]; repeat (first | assumption | exact aaS zf zc | exact aaJ zc | refine aa6 ?_ ?_ | refine aaV _ ?_ | refine abA _ ?_ | refine aaG ?_ ?_ | refine aaD ?_ ?_ | refine aaY ?_ | refine aa5 ?_ ?_ | refine aa7 ?_ ?_ | refine aaX ?_)
 have bt : Bd 5 top.natAbs := by
  rw [ht]
  refine aaG (aaD ?_ (aaX ?_)) (aaD ?_ (aaX ?_)) <;> repeat (first | assumption | exact aaS zf zc | exact aaJ zc | refine aa6 ?_ ?_ | refine aaV _ ?_ | refine abA _ ?_ | refine aaG ?_ ?_ | refine aaD ?_ ?_ | refine aaY ?_ | refine aa5 ?_ ?_ | refine aa7 ?_ ?_ | refine aaX ?_)
 have bh : Bd 5 h' := by rw [hh]; repeat (first | assumption | exact aaS zf zc | exact aaJ zc | refine aa6 ?_ ?_ | refine aaV _ ?_ | refine abA _ ?_ | refine aaG ?_ ?_ | refine aaD ?_ ?_ | refine aaY ?_ | refine aa5 ?_ ?_ | refine aa7 ?_ ?_ | refine aaX ?_)
 unfold av8
 dsimp only
 refine uC (mag g, ()) (by rw [ajU zb zb, hg]) ?_
 refine uC _ (acU zb zb g0) ?_
 refine uC _ (acU zb zb g0) ?_
 refine uC _ (aiB zb zb) ?_
 refine uC _ (aiB zb zb) ?_
 refine uC (sg top, ()) (by rw [aC0 zb zb, ht]) ?_
 refine uC (mag h', ()) (by rw [ajU zb zb, hh]) ?_
 refine uC _ (acU zb zb h0) ?_
 refine uC _ (acU zb zb h0) ?_
 refine uC (sg t, ()) (adV ha (Or.inr (decide_eq_decide.2 hs.1))) ?_
 refine uC _ (ajT zb zb) ?_
 show some ((sg t, mag (p.den / g * (q.den / h')), ()), ()) = some (rt (p + q), ())
 unfold rt
 rw [e1, e2]
theorem aMv (x x' : RtT) (y) (h : aJQ (x, x', ()) = some y) : (aJr x x').toO = some y := by
 obtain ⟨⟨p, q⟩, hp, hx, rfl⟩ := aaP h
 obtain ⟨rfl, hx2⟩ := Prod.mk.inj hx; obtain ⟨rfl, -⟩ := Prod.mk.inj hx2; dsimp only
 obtain ⟨bp, bq⟩ := hp
 refine uC _ (aAi ⟨aaS bq.1 zc, aaS bq.2 zc⟩) ?_
 refine uC _ (aCZ bp ⟨aaY bq.1, bq.2⟩) ?_
 rw [Rat.sub_eq_add_neg]; rfl
theorem aCY {p q : Rat} (h : BdQ 3 p) (h2 : BdQ 3 q) : al6 (rt p, rt q, ()) = some (rt (p * q), ()) := aaZ (enc := fun x : Rat × Rat => (rt x.1, rt x.2, ())) (p, q) ⟨h, h2⟩ (fun b hb => avN hb)
theorem aDS (x x' : RtT) (y) (h : al6 (x, x', ()) = some y) : (av7 x x').toO = some y := by
 obtain ⟨⟨p, q⟩, hp, hx, rfl⟩ := aaP h
 obtain ⟨rfl, hx2⟩ := Prod.mk.inj hx; obtain ⟨rfl, -⟩ := Prod.mk.inj hx2; dsimp only
 obtain ⟨⟨p1, p2⟩, q1, q2⟩ := hp
 simp only at p1 p2 q1 q2
 obtain ⟨g, h', s, t, hg, hh, g0, h0, hs, ht, e1, e2⟩ := ayN p q
 have as1 := ac3 hs g0
 have at' := ac3 ht h0
 have ss := ahI hs g0
 have st := ahI ht h0
 have bg : Bd 3 g := by rw [hg]; repeat (first | assumption | exact aaS zf zc | exact aaJ zc | refine aa6 ?_ ?_ | refine aaV _ ?_ | refine abA _ ?_ | refine aaG ?_ ?_ | refine aaD ?_ ?_ | refine aaY ?_ | refine aa5 ?_ ?_ | refine aa7 ?_ ?_ | refine aaX ?_)
 have bh : Bd 3 h' := by rw [hh]; repeat (first | assumption | exact aaS zf zc | exact aaJ zc | refine aa6 ?_ ?_ | refine aaV _ ?_ | refine abA _ ?_ | refine aaG ?_ ?_ | refine aaD ?_ ?_ | refine aaY ?_ | refine aa5 ?_ ?_ | refine aa7 ?_ ?_ | refine aaX ?_)
 unfold av7
 dsimp only
 refine uC (mag g, ()) (by rw [ajU zb zb, hg]) ?_
 refine uC (mag h', ()) (by rw [ajU zb zb, hh]) ?_
 refine uC _ (acU zb zb g0) ?_
 refine uC _ (acU zb zb h0) ?_
 refine uC _ (acU zb zb h0) ?_
 refine uC _ (acU zb zb g0) ?_
 refine uC _ (ajT zb zb) ?_
 refine uC (sg (s * t), ()) (adV (n := p.num.natAbs / g * (q.num.natAbs / h')) (by rw [as1, at', yH]) ?_) ?_
 ·by_cases hz : s * t = 0
  ·exact Or.inl hz
  ·right
   show (!(decide (p.num < 0) == decide (q.num < 0))) = decide (s * t < 0)
   have z1 : s ≠ 0 := fun h => hz (by rw [h]; simp)
   have z2 : t ≠ 0 := fun h => hz (by rw [h]; simp)
   rcases zK s 0 with c1 | c1 <;> rcases zK t 0 with c2 | c2
   ·have := Int.mul_pos_of_neg_of_neg c1 c2
    rw [zp (ss.1.2 c1), zp (st.1.2 c2), zn zc]; rfl
   ·have := wi c1 (show 0 < t by omega)
    rw [zp (ss.1.2 c1), zn zc, zp zc]; rfl
   ·have := wj (show 0 < s by omega) c2
    rw [zn zc, zp (st.1.2 c2), zp zc]; rfl
   ·have := Int.mul_pos (show 0 < s by omega) (show 0 < t by omega)
    rw [zn zc, zn zc, zn zc]; rfl
 refine uC _ (ajT zb zb) ?_
 show some ((sg (s * t), mag (p.den / h' * (q.den / g)), ()), ()) = some (rt (p * q), ())
 unfold rt
 rw [e1, e2]
theorem aEB {p q : Rat} (h : BdQ 3 p) (h2 : BdQ 3 q) : ajO (rt p, rt q, ()) = some (aH0 p q, ()) := aaZ (enc := fun x : Rat × Rat => (rt x.1, rt x.2, ())) (p, q) ⟨h, h2⟩ (fun b hb => avN hb)
theorem ay4 (x x' : RtT) (y) (h : ajO (x, x', ()) = some y) : (am0 x x').toO = some y := by
 obtain ⟨⟨p, q⟩, hp, hx, rfl⟩ := aaP h
 obtain ⟨rfl, hx2⟩ := Prod.mk.inj hx; obtain ⟨rfl, -⟩ := Prod.mk.inj hx2; dsimp only
 obtain ⟨⟨p1, p2⟩, q1, q2⟩ := hp
 simp only at p1 p2 q1 q2
 unfold am0
 dsimp only
 refine uC _ (aiB zb zb) ?_
 refine uC _ (aiB zb zb) ?_
 refine uC _ (axB (aaS (aaD q1 (aaX p2)) zc)) ?_
 refine uC _ (aC0 (aaS (aaD p1 (aaX q2)) zc) (aaY (aaS (aaD q1 (aaX p2)) zc))) ?_
 refine uC _ (aAk (aaS (aaG (aaD p1 (aaX q2)) (aaY (aaD q1 (aaX p2)))) zc)) ?_
 rw [aLn]; rfl
set_option maxRecDepth 100000
open Go Go.Vg Go.Proofs
noncomputable section
def aH5 : LTab := [(160, 7, 9217, ⟨0, (Bool) × Unit, .dat (.s 3) (Ty.bool) <| .nil, [5, 4, 2], [0], 0⟩), (160, 122, 12289, ⟨1, (Int) × Unit, .dat (.s 23) vz <| .nil, [22, 5, 4, 2], [0], 0⟩)]
def axH (a : List UInt8) (y : List UInt8 × Bool × Unit) (j : Bool × Unit) (i : (Int) × Unit) : TT (vZ ⊕ (vF × Bool × Unit)) :=
 .ite (decide (i.1 < len y.1))
 (.need (inb i.1 (len y.1)) <| .ite (decide ((↑(UInt8.toNat (gi y.1 i.1 0)) : Int) < 48))
 (.ok (.inr ((([], false, ()), false, ()))))
 (.need (inb i.1 (len y.1)) <| .ite (decide ((↑(UInt8.toNat (gi y.1 i.1 0)) : Int) > 57))
 (.ok (.inr ((([], false, ()), false, ()))))
 (.tt <| .lt (w64 (i.1 + 1) : Int) fun z => .wT (vh z (len y.1) y.2.1 y.1 <| ua ∧ True) <| .wT ug <| .ok (.inl ((z, ()))))))
 (.need (asT Int 0 ≤ 0 ∧ 0 < len y.1) <| .ite ((↑(UInt8.toNat (gi y.1 0 0)) : Int) == 48)
 (.ite (y.2.1)
 (.ok (.inr ((([], false, ()), false, ()))))
 (.ite (decide (len y.1 > 1))
 (.ok (.inr ((([], false, ()), false, ()))))
 (.call (ahC (y.1, ())) Dd0 fun y1 =>
 .ok (.inr (((y1.1, y.2.1, ()), true, ()))))))
 (.call (ahC (y.1, ())) Dd0 fun y2 =>
 .ok (.inr (((y2.1, y.2.1, ()), true, ())))))
def aEI (a : List UInt8) (y : List UInt8 × Bool × Unit) (j : (Bool) × Unit) : TT (vF × Bool × Unit) :=
 .loop 1 (.tt <| .wT (vh (0 : Int) (len y.1) y.2.1 y.1 <| ua ∧ True) <| .wT ug <| .ok ((0, ()))) (axH a y j)
def avA (a : List UInt8) : TT (vF × Bool × Unit) :=
 .call (ac9 (a, #[45].toList, ())) Dd7 fun y =>
 .join 0 (ι := (Bool) × Unit) (.ite (len y.1 == 0)
 (.ok (.inr ((([], false, ()), false, ()))))
 (.ite (decide (len y.1 > 600))
 (.ok (.inr ((([], false, ()), false, ()))))
 (.tt <| .wT (vl false y.2.1 y.1 <| ua ∧ True) <| .wT ug <| .ok (.inl ((false, ())))))) (aEI a y)
def aEK : LTab := []
def apI (a : List UInt8) : TT vW :=
 .call (ah8 (a, ())) Dd9 fun y =>
 .ite (!y.2.1)
 (.ok ((10, ())))
 (.ok ((0, ())))
def aMB : LTab := []
def aJX (n : Int) : TT vU :=
 .call (au1 (n, ())) Dd2 fun y =>
 .ok ((y.1, ()))
def aEJ (a : List UInt8) (b : List UInt8) : TT (List UInt8 × Int × Unit) :=
 .tt <| .tt <| .call (apE (a, b, ())) aQP fun y =>
 .ite (y.2.2.1 != 0)
 (.ok ((#[].toList, y.2.2.1, ())))
 (.triv (asT Int 0 ≤ 2 ∧ 2 < (↑4 : Int)) zd <| .call (aoH ((y.1.1, y.1.2.1, ()), (y.2.1.1, y.2.1.2.1, ()), ())) Dd5 fun y1 =>
 .call (aAf (y1.1, ())) aPM fun y2 =>
 .ok ((y2.1, y2.2.1, ())))
def aJx : LTab := []
def awH (a : List UInt8 × List UInt8 × Unit) : TT ((vF × List Int × Unit) × Bool × Unit) :=
 .call (afK (a.1, ())) Dd6 fun y =>
 .ite (y.1 != 0)
 (.ok (((([], false, ()), [], ()), false, ())))
 (.call (afK (a.2.1, ())) Dd6 fun y1 =>
 .ite (y1.1 != 0)
 (.ok (((([], false, ()), [], ()), false, ())))
 (.call (ae8 (a.1, ())) Dd5 fun y2 =>
 .call (ae8 (a.2.1, ())) Dd5 fun y3 =>
 .call (ai4 ((y3.1.1, y3.1.2.1, ()), ())) Dd6 fun y4 =>
 .ite (decide (y4.1 < 1))
 (.ok (((([], false, ()), [], ()), false, ())))
 (.call (afT (y2.1.1, y3.1.1, ())) Dd0 fun y5 =>
 .call (adQ (y5.1, [1], ())) Dd6 fun y6 =>
 .ite (y6.1 != 0)
 (.ok (((([], false, ()), [], ()), false, ())))
 (.ok ((((y2.1.1, y2.1.2.1, ()), y3.1.1, ()), true, ()))))))
def aGP : LTab := []
def arE (a : List UInt8 × List UInt8 × Unit) : TT vW :=
 .call (acY ((a.1, a.2.1, ()), ())) aJV fun y =>
 .ite (!y.2.1)
 (.ok ((20, ())))
 (.ok ((0, ())))
def aJz : LTab := []
def awJ (n : List UInt8) (d : List UInt8) : TT vX :=
 .call (afK (n, ())) Dd6 fun y =>
 .ite (y.1 != 0)
 (.ok (((#[].toList, #[].toList, ()), 10, ())))
 (.call (afK (d, ())) Dd6 fun y1 =>
 .ite (y1.1 != 0)
 (.ok (((#[].toList, #[].toList, ()), 10, ())))
 (.call (ae8 (n, ())) Dd5 fun y2 =>
 .call (ae8 (d, ())) Dd5 fun y3 =>
 .call (adP (y3.1.1, ())) Dd1 fun y4 =>
 .ite (y4.1)
 (.ok (((#[].toList, #[].toList, ()), 7, ())))
 (.call (ab7 (y2.1.1, !y2.1.2.1 == y3.1.2.1, ())) Dd5 fun y5 =>
 .call (aiA (y5.1, y3.1.1, ())) Dd8 fun y6 =>
 .call (ae7 (y6.1, ())) aMe fun y7 =>
 .ok (((y7.1.1, y7.1.2.1, ()), y7.2.1, ())))))
def aNJ : LTab := []
def aKU (n : Int) (d : Int) : TT vX :=
 .call (asG (n, ())) Dd2 fun y =>
 .call (asG (d, ())) Dd2 fun y1 =>
 .call (amB (y.1, y1.1, ())) aMe fun y2 =>
 .ok (((y2.1.1, y2.1.2.1, ()), y2.2.1, ()))
def aLI : LTab := []
def aBr (a : List UInt8 × List UInt8 × Unit) (b : List UInt8 × List UInt8 × Unit) : TT (Int × Int × Unit) :=
 .tt <| .tt <| .call (acY ((a.1, a.2.1, ()), ())) aJV fun y =>
 .call (acY ((b.1, b.2.1, ()), ())) aJV fun y1 =>
 .ite (!y.2.1)
 (.ok ((0, 20, ())))
 (.ite (!y1.2.1)
 (.ok ((0, 20, ())))
 (.call (ajO (((y.1.1.1, y.1.1.2.1, ()), y.1.2.1, ()), ((y1.1.1.1, y1.1.1.2.1, ()), y1.1.2.1, ()), ())) Dd6 fun y2 =>
 .ok ((y2.1, 0, ()))))
def aLJ : LTab := []
def aBu (a : List UInt8 × List UInt8 × Unit) (b : List UInt8 × List UInt8 × Unit) : TT vX :=
 .tt <| .tt <| .call (acY ((a.1, a.2.1, ()), ())) aJV fun y =>
 .call (acY ((b.1, b.2.1, ()), ())) aJV fun y1 =>
 .ite (!y.2.1)
 (.tt <| .tt <| .ok (((#[].toList, #[].toList, ()), 20, ())))
 (.ite (!y1.2.1)
 (.tt <| .tt <| .ok (((#[].toList, #[].toList, ()), 20, ())))
 (.call (al7 (((y.1.1.1, y.1.1.2.1, ()), y.1.2.1, ()), ((y1.1.1.1, y1.1.1.2.1, ()), y1.1.2.1, ()), ())) Dd8 fun y2 =>
 .tt <| .tt <| .call (ae7 (((y2.1.1.1, y2.1.1.2.1, ()), y2.1.2.1, ()), ())) aMe fun y3 =>
 .ok (((y3.1.1, y3.1.2.1, ()), y3.2.1, ()))))
def aLH : LTab := []
def aBq (a : List UInt8 × List UInt8 × Unit) (b : List UInt8 × List UInt8 × Unit) : TT vX :=
 .tt <| .tt <| .call (acY ((a.1, a.2.1, ()), ())) aJV fun y =>
 .call (acY ((b.1, b.2.1, ()), ())) aJV fun y1 =>
 .ite (!y.2.1)
 (.tt <| .tt <| .ok (((#[].toList, #[].toList, ()), 20, ())))
 (.ite (!y1.2.1)
 (.tt <| .tt <| .ok (((#[].toList, #[].toList, ()), 20, ())))
 (.call (al6 (((y.1.1.1, y.1.1.2.1, ()), y.1.2.1, ()), ((y1.1.1.1, y1.1.1.2.1, ()), y1.1.2.1, ()), ())) Dd8 fun y2 =>
 .tt <| .tt <| .call (ae7 (((y2.1.1.1, y2.1.1.2.1, ()), y2.1.2.1, ()), ())) aMe fun y3 =>
 .ok (((y3.1.1, y3.1.2.1, ()), y3.2.1, ()))))
def aGN (a : List UInt8 × List UInt8 × Unit) (b : List UInt8 × List UInt8 × Unit) : TT vX :=
 .call (acY ((a.1, a.2.1, ()), ())) aJV fun y =>
 .call (acY ((b.1, b.2.1, ()), ())) aJV fun y1 =>
 .ite (!y.2.1)
 (.ok (((#[].toList, #[].toList, ()), 20, ())))
 (.ite (!y1.2.1)
 (.ok (((#[].toList, #[].toList, ()), 20, ())))
 (.call (adP (y1.1.1.1, ())) Dd1 fun y2 =>
 .ite (y2.1)
 (.ok (((#[].toList, #[].toList, ()), 7, ())))
 (.call (aoJ (((y1.1.1.1, y1.1.1.2.1, ()), y1.1.2.1, ()), ())) Dd8 fun y3 =>
 .call (al6 (((y.1.1.1, y.1.1.2.1, ()), y.1.2.1, ()), y3.1, ())) Dd8 fun y4 =>
 .call (ae7 (y4.1, ())) aMe fun y5 =>
 .ok (((y5.1.1, y5.1.2.1, ()), y5.2.1, ())))))
end
theorem aLi {s t : List UInt8} {b : Bool} (hc : ac9 (s, #[45].toList, ()) = some (t, b, ())) (h : ¬ (isD t ∧ t ≠ [] ∧ t.length ≤ 600 ∧ (t.head? = some 48 → b = false ∧ t.length = 1))) : rdW s = none := by
 refine aIu fun z hz he => h ?_
 rw [← he, aAl] at hc
 injection hc with hc
 obtain ⟨rfl, h2⟩ := Prod.mk.inj hc
 obtain ⟨rfl, -⟩ := Prod.mk.inj h2
 refine ⟨ao8 _, ah2 _, hz, fun h0 => ?_⟩
 by_cases hn : z.natAbs = 0
 ·rw [hn, acJ zc]
  exact ⟨zn zc, rfl⟩
 ·exact absurd h0 (aHb hn)
theorem aLh {s t : List UInt8} {b : Bool} (hc : ac9 (s, #[45].toList, ()) = some (t, b, ())) (h1 : isD t) (h2 : t ≠ []) (h3 : t.length ≤ 600) (h4 : t.head? = some 48 → b = false ∧ t.length = 1) : ∃ z : Int, rdW s = some z ∧ z.natAbs = num t ∧ decide (z < 0) = b := by
 have hu : t = acF (num t) := azT h1 h2 (by
  by_cases h0 : t.head? = some 48
  ·exact Or.inr (h4 h0).2
  ·exact Or.inl h0)
 have hs : s = if b then 45 :: t else t := by
  injection hc with hc
  simp only at hc
  split at hc
  ·rename_i hp
   obtain ⟨e1, e2⟩ := Prod.mk.inj hc
   obtain ⟨rfl, -⟩ := Prod.mk.inj e2
   cases s with
   | nil => cases hp
   | cons c s =>
    have : c = 45 := by
     have h5 : ([45] : List UInt8).isPrefixOf (c :: s) = true := hp
     simp [List.isPrefixOf] at h5
     exact h5.symm
    rw [this, ← e1]; rfl
  ·obtain ⟨e1, e2⟩ := Prod.mk.inj hc
   obtain ⟨rfl, -⟩ := Prod.mk.inj e2
   rw [← e1]; rfl
 cases b
 ·refine ⟨(num t : Int), ?_, by simp, by simp⟩
  have : s = dec (num t : Int) := by rw [arQ, ← hu, hs]; rfl
  rw [this, amK (show (acF (num t : Int).natAbs).length ≤ 600 by simp; rw [← hu]; exact h3)]
 ·have hn : num t ≠ 0 := by
   intro h0
   rw [h0, acJ zc] at hu
   have := h4 (by rw [hu]; rfl)
   cases this.1
  refine ⟨-(num t : Int), ?_, by simp, by simp; omega⟩
  have : s = dec (-(num t : Int)) := by rw [ah1 zc, Int.natAbs_neg, yK, ← hu, hs]; rfl
  rw [this, amK (show (acF (-(num t : Int)).natAbs).length ≤ 600 by simp; rw [← hu]; exact h3)]
noncomputable def aMg (s : List UInt8) : SgT × Bool × Unit := match rdW s with | some z => (sg z, true, ()) | none => (([], false, ()), false, ())
theorem aC6 (a : List UInt8) (y) (h : ah8 (a, ()) = some y) : (avA a).toO = some y := by
 have hy : y = aMg a := by injection h with h; exact h.symm
 clear h
 subst hy
 obtain ⟨t, b, hc⟩ : ∃ t b, ac9 (a, #[45].toList, ()) = some (t, b, ()) := ⟨_, _, rfl⟩
 have hnot : ¬ (isD t ∧ t ≠ [] ∧ t.length ≤ 600 ∧ (t.head? = some 48 → b = false ∧ t.length = 1)) → aMg a = (([], false, ()), false, ()) := fun h => by unfold aMg; rw [aLi hc h]
 have hyes : isD t → t ≠ [] → t.length ≤ 600 → (t.head? = some 48 → b = false ∧ t.length = 1) → ahC (t, ()) = some (mag (num t), ()) ∧ aMg a = ((mag (num t), b, ()), true, ()) := fun h1 h2 h3 h4 => by
  obtain ⟨z, e1, e2, e3⟩ := aLh hc h1 h2 h3 h4
  refine ⟨?_, ?_⟩
  ·unfold ahC
   rw [if_pos ⟨h1, h2, by simp only; omega⟩]
  ·unfold aMg
   rw [e1]
   show ((mag z.natAbs, decide (z < 0), ()), true, ()) = _
   rw [e2, e3]
 unfold avA
 refine uC (t, b, ()) hc ?_
 by_cases h1 : t = []
 ·rw [hnot (fun h => h.2.1 h1)]
  refine uR _ (uT (by simp [h1, len]) rfl)
 have hlen : 1 ≤ t.length := zO.2 h1
 by_cases h2 : t.length ≤ 600
 case neg =>
  rw [hnot (fun h => h2 h.2.2.1)]
  refine uR _ (uF sd (uT sd rfl))
 refine uL (false, ()) (uF sd (uF sd rfl)) ?_
 refine uO (0, ()) rfl ?_
 refine abH (fun i : Int × Unit => ∃ k : Nat, i.1 = (k : Int) ∧ k ≤ t.length ∧ isD (t.take k)) (fun i => ((t.length : Int) - i.1).toNat) (fun _ => aMg a) ?_ _ ⟨0, rfl, by omega, by simp [isD]⟩
 rintro ⟨i, u⟩ ⟨k, h3, h4, h5⟩
 simp only at h3
 subst h3
 simp only [axH, aaU]
 rcases zw k t.length with hk | hk
 ·have e1 : t.getD k 0 = t[k] := by simp [hk]
  simp only [e1]
  by_cases c1 : t[k].toNat < 48
  ·right
   rw [hnot (fun h => by have := h.1 t[k] (xz hk); omega)]
   repeat refine za ?_
   rfl
  by_cases c2 : t[k].toNat > 57
  ·right
   rw [hnot (fun h => by have := h.1 t[k] (xz hk); omega)]
   repeat refine za ?_
   rfl
  ·left
   refine ⟨(((k + 1 : Nat) : Int), ()), ?_, ⟨k + 1, rfl, by omega, ?_⟩, by simp only; omega, ze⟩
   ·repeat refine za ?_
    simp (disch := omega) only [aaT, aaB, aaO, aa3, ab8, aaU, zl, zk, aaN, zt]
    rfl
   ·rw [yf hk, isD_append]
    refine ⟨h5, fun c hc => ?_⟩
    have := yo.1 hc
    subst this
    omega
 ·right
  have hd : isD t := by rwa [zr hk] at h5
  refine uF sd (uN ⟨by simp [asT], by exact sn⟩ ?_)
  cases ht : t with
  | nil => exact absurd ht h1
  | cons c r =>
   rw [← ht]
   have hg : gi t 0 0 = c := by rw [ht]; rfl
   simp only [hg]
   have hh : t.head? = some c := by rw [ht]; rfl
   by_cases c0 : c = 48
   ·subst c0
    refine uT (by rfl) ?_
    cases b
    ·refine uF rfl ?_
     by_cases hl : t.length = 1
     ·obtain ⟨g1, g2⟩ := hyes hd h1 h2 (fun _ => ⟨rfl, hl⟩)
      rw [g2]
      exact uF sd (uC _ g1 rfl)
     ·rw [hnot (fun h => hl (h.2.2.2 hh).2)]
      exact uT sd rfl
    ·rw [hnot (fun h => by have := (h.2.2.2 hh).1; cases this)]
     exact uT rfl rfl
   ·obtain ⟨g1, g2⟩ := hyes hd h1 h2 (fun h => by rw [hh] at h; injection h with h; exact absurd h c0)
    rw [g2]
    refine uF ?_ (uC _ g1 rfl)
    rw [beq_eq_false_iff_ne]
    intro h
    exact c0 (UInt8.toNat_inj.1 (Int.ofNat.inj h))
theorem aw9 {s : List UInt8} {z : Int} (h : rdW s = some z) : ah8 (s, ()) = some (sg z, true, ()) := by unfold ah8; rw [h]
theorem axA {s : List UInt8} (h : rdW s = none) : ah8 (s, ()) = some (([], false, ()), false, ()) := by unfold ah8; rw [h]
theorem aAB (a : List UInt8) (y) (h : afK (a, ()) = some y) : (apI a).toO = some y := by
 unfold afK at h
 unfold apI
 cases hr : rdW a with
 | none =>
  simp only [hr] at h
  exact uC _ (axA hr) (uT rfl h)
 | some z =>
  simp only [hr] at h
  exact uC _ (aw9 hr) (uF rfl h)
theorem aH6 (n : Int) (y) (h : asG (n, ()) = some y) : (aJX n).toO = some y := by
 unfold asG at h
 split at h
 ·rename_i hp
  exact uC (dec n, ()) (by unfold au1; exact if_pos hp) h
 ·cases h
theorem aK4 {n : Int} (h : aeW n) : asG (n, ()) = some (dec n, ()) := by unfold asG; rw [if_pos h]
theorem aAg {a b : Int} (h1 : Bd 7 a.natAbs) (h2 : Bd 7 b.natAbs) : aoH (sg a, sg b, ()) = some (sg (a * b), ()) := aaZ (enc := fun x : Int × Int => (sg x.1, sg x.2, ())) (a, b) ⟨h1, h2⟩ (fun b hb => aB3 hb)
theorem atV {s : List UInt8} {z : Int} (h : rdW s = some z) : Bd 0 z.natAbs := az6 (ahK h).1
theorem aMC (a b : List UInt8) (y) (h : aHH (a, b, ()) = some y) : (aEJ a b).toO = some y := by
 unfold aHH at h
 unfold aEJ
 refine uV (uV ?_)
 cases hr : rdW a with
 | none =>
  simp only [hr] at h
  refine uC (([], false, ()), ([], false, ()), 10, ()) (by unfold apE; simp only [hr]) (uT rfl h)
 | some z =>
  cases hb : rdW b with
  | none =>
   simp only [hr, hb] at h
   refine uC (([], false, ()), ([], false, ()), 10, ()) (by unfold apE; simp only [hr, hb]) (uT rfl h)
  | some w =>
   simp only [hr, hb] at h
   have b1 := atV hr
   have b2 := atV hb
   refine uC (sg z, sg w, 0, ()) (by unfold apE; simp only [hr, hb]) (uF rfl (uV ?_))
   refine uC _ (aAg (aaS b1 zc) (aaS b2 zc)) ?_
   refine uC _ (aHK (aaS (aaD b1 b2) zc)) ?_
   exact h
theorem ad5 (s : List UInt8) : afK (s, ()) = some (if (rdW s).isSome then 0 else 10, ()) := rfl
theorem aHj (n : Nat) : atB n 1 = 0 ↔ n = 1 := by
 unfold atB
 split
 ·omega
 ·split <;> omega
theorem aD2 (a : FxT) (y) (h : acY (a, ()) = some y) : (awH a).toO = some y := by
 obtain ⟨s, t, u⟩ := a
 have hs := aMU s t
 unfold acY at h
 dsimp only at h
 unfold awH
 dsimp only
 cases hn : rdW s with
 | none =>
  rw [hn] at hs
  have hs' : rdF (s, t, u) = none := hs
  rw [hs'] at h
  refine uC _ (ad5 s) (uT (by rw [hn]; rfl) h)
 | some n =>
  cases hd : rdW t with
  | none =>
   rw [hn, hd] at hs
   have hs' : rdF (s, t, u) = none := hs
   rw [hs'] at h
   refine uC _ (ad5 s) (uF (by rw [hn]; rfl) (uC _ (ad5 t) (uT (by rw [hd]; rfl) h)))
  | some d =>
   rw [hn, hd] at hs
   dsimp only at hs
   obtain ⟨f1, e1⟩ := ahK hn
   obtain ⟨f2, e2⟩ := ahK hd
   have b1 := atV hn
   have b2 := atV hd
   refine uC _ (ad5 s) (uF (by rw [hn]; rfl) (uC _ (ad5 t) (uF (by rw [hd]; rfl) ?_)))
   refine uC (sg n, ()) (by rw [e1]; exact ajV (aaS b1 zc)) ?_
   refine uC (sg d, ()) (by rw [e2]; exact ajV (aaS b2 zc)) ?_
   refine uC _ (aAk (aaS b2 zc)) ?_
   by_cases hp : 0 < d
   ·refine uF ?_ ?_
    ·rw [xK hp]; rfl
    have hg := ajU (a := n.natAbs) (b := d.natAbs) (aaS b1 zc) (aaS b2 zc)
    refine uC _ hg ?_
    have hc := aoM (a := Nat.gcd n.natAbs d.natAbs) (b := 1) (aaS (aa6 b1 b2) zc) (aaS (aaJ zc) zc)
    rw [aLw] at hc
    refine uC _ hc ?_
    by_cases hcop : n.natAbs.Coprime d.natAbs
    ·rw [dif_pos ⟨hp, hcop⟩] at hs
     have hs' : rdF (s, t, u) = some ⟨n, d.natAbs, by omega, hcop⟩ := hs
     rw [hs'] at h
     refine uF ?_ h
     have : atB (Nat.gcd n.natAbs d.natAbs) 1 = 0 := (aHj _).2 hcop
     show (atB (Nat.gcd n.natAbs d.natAbs) 1 != 0) = false
     rw [this]; rfl
    ·rw [dif_neg (fun h => hcop h.2)] at hs
     have hs' : rdF (s, t, u) = none := hs
     rw [hs'] at h
     refine uT ?_ h
     show (atB (Nat.gcd n.natAbs d.natAbs) 1 != 0) = true
     rw [wJ]
     exact fun h2 => hcop ((aHj _).1 h2)
   ·rw [dif_neg (fun h => hp h.1)] at hs
    have hs' : rdF (s, t, u) = none := hs
    rw [hs'] at h
    refine uT ?_ h
    rcases zK d 0 with h0 | h0
    ·rw [xu h0]; rfl
    ·have : d = 0 := zc
     rw [this]; rfl
theorem aa1 {s : FxT} {q : Rat} (h : rdF s = some q) : acY (s, ()) = some (rt q, true, ()) := by unfold acY; dsimp only; rw [h]
theorem aa2 {s : FxT} (h : rdF s = none) : acY (s, ()) = some ((([], false, ()), [], ()), false, ()) := by unfold acY; dsimp only; rw [h]
theorem aiE {k j : Nat} {q : Rat} (h : BdQ k q) (hk : k ≤ j) : BdQ j q := ⟨aaS h.1 hk, aaS h.2 hk⟩
theorem anS {s : FxT} {q : Rat} (h : rdF s = some q) : BdQ 0 q := by
 obtain ⟨h1, h2⟩ := (aIv h).1
 exact ⟨az6 h1, az6 h2⟩
theorem aL2 {k : Nat} {p q : Rat} (h1 : BdQ k p) (h2 : BdQ k q) : BdQ (k + 2) (p + q) := by
 obtain ⟨g, h', top, t, hg, ht, hh, g0, h0, htt, e1, e2⟩ := aAb p q
 refine ⟨?_, ?_⟩
 ·rw [e1, ← ac3 htt h0]
  refine aaV _ ?_
  rw [ht]
  exact aaG (aaD h1.1 (aaX (aaV _ h2.2))) (aaD h2.1 (aaX (aaV _ h1.2)))
 ·rw [e2]
  exact aaS (aa5 (aaV _ h1.2) (aaV _ h2.2)) zc
theorem aHt {k : Nat} {p q : Rat} (h1 : BdQ k p) (h2 : BdQ k q) : BdQ (k + 2) (p * q) := by
 obtain ⟨g, h', s, t, hg, hh, g0, h0, hs, ht, e1, e2⟩ := ayN p q
 refine ⟨?_, ?_⟩
 ·rw [e1]
  refine aaS (aaD (k := k) ?_ ?_) zc
  ·rw [← ac3 hs g0]; exact aaV _ h1.1
  ·rw [← ac3 ht h0]; exact aaV _ h2.1
 ·rw [e2]
  exact aaS (aa5 (aaV _ h1.2) (aaV _ h2.2)) zc
theorem aHu {k : Nat} {p : Rat} (h : BdQ k p) (h0 : p ≠ 0) : BdQ k p⁻¹ := by
 obtain ⟨e1, e2, e3⟩ := aGn h0
 exact ⟨by rw [e1]; exact h.2, by rw [e3]; exact h.1⟩
theorem aGQ (a b : FxT) (y) (h : aaL (a, b, ()) = some y) : (aBu a b).toO = some y := by
 unfold aaL aMj at h
 dsimp only at h
 unfold aBu
 refine uV (uV ?_)
 cases ha : rdF a with
 | none =>
  simp only [ha] at h
  cases hb : rdF b with
  | none => exact uC _ (aa2 ha) (uC _ (aa2 hb) (uT rfl (uV (uV h))))
  | some q => exact uC _ (aa2 ha) (uC _ (aa1 hb) (uT rfl (uV (uV h))))
 | some p =>
  cases hb : rdF b with
  | none =>
   simp only [ha, hb] at h
   exact uC _ (aa1 ha) (uC _ (aa2 hb) (uF rfl (uT rfl (uV (uV h)))))
  | some q =>
   simp only [ha, hb] at h
   have b1 := anS ha
   have b2 := anS hb
   refine uC _ (aa1 ha) (uC _ (aa1 hb) (uF rfl (uF rfl ?_)))
   refine uC _ (aCZ (aiE b1 zc) (aiE b2 zc)) (uV (uV ?_))
   exact uC _ (ajS (aiE (aL2 b1 b2) zc)) h
theorem aGM (a b : FxT) (y) (h : aaK (a, b, ()) = some y) : (aBq a b).toO = some y := by
 unfold aaK aMj at h
 dsimp only at h
 unfold aBq
 refine uV (uV ?_)
 cases ha : rdF a with
 | none =>
  simp only [ha] at h
  cases hb : rdF b with
  | none => exact uC _ (aa2 ha) (uC _ (aa2 hb) (uT rfl (uV (uV h))))
  | some q => exact uC _ (aa2 ha) (uC _ (aa1 hb) (uT rfl (uV (uV h))))
 | some p =>
  cases hb : rdF b with
  | none =>
   simp only [ha, hb] at h
   exact uC _ (aa1 ha) (uC _ (aa2 hb) (uF rfl (uT rfl (uV (uV h)))))
  | some q =>
   simp only [ha, hb] at h
   have b1 := anS ha
   have b2 := anS hb
   refine uC _ (aa1 ha) (uC _ (aa1 hb) (uF rfl (uF rfl ?_)))
   refine uC _ (aCY (aiE b1 zc) (aiE b2 zc)) (uV (uV ?_))
   exact uC _ (ajS (aiE (aHt b1 b2) zc)) h
theorem aNK (a b : FxT) (y) (h : aHI (a, b, ()) = some y) : (aGN a b).toO = some y := by
 unfold aHI at h
 dsimp only at h
 unfold aGN
 cases ha : rdF a with
 | none =>
  simp only [ha] at h
  cases hb : rdF b with
  | none => exact uC _ (aa2 ha) (uC _ (aa2 hb) (uT rfl h))
  | some q => exact uC _ (aa2 ha) (uC _ (aa1 hb) (uT rfl h))
 | some p =>
  cases hb : rdF b with
  | none =>
   simp only [ha, hb] at h
   exact uC _ (aa1 ha) (uC _ (aa2 hb) (uF rfl (uT rfl h)))
  | some q =>
   simp only [ha, hb] at h
   have b1 := anS ha
   have b2 := anS hb
   refine uC _ (aa1 ha) (uC _ (aa1 hb) (uF rfl (uF rfl ?_)))
   refine uC _ (asJ _) ?_
   by_cases h0 : q = 0
   ·rw [if_pos h0] at h
    exact uT (zp (by rw [h0]; rfl)) h
   ·rw [if_neg h0] at h
    have := aKE h0
    refine uF sd ?_
    refine uC _ (aAj (aiE b2 zc) h0) ?_
    refine uC _ (aCY (aiE b1 zc) (aiE (aHu b2 h0) zc)) ?_
    exact uC _ (ajS (aiE (aHt b1 (aHu b2 h0)) zc)) h
theorem aGO (a b : FxT) (y) (h : ak3 (a, b, ()) = some y) : (aBr a b).toO = some y := by
 unfold ak3 at h
 dsimp only at h
 unfold aBr
 refine uV (uV ?_)
 cases ha : rdF a with
 | none =>
  simp only [ha] at h
  cases hb : rdF b with
  | none => exact uC _ (aa2 ha) (uC _ (aa2 hb) (uT rfl h))
  | some q => exact uC _ (aa2 ha) (uC _ (aa1 hb) (uT rfl h))
 | some p =>
  cases hb : rdF b with
  | none =>
   simp only [ha, hb] at h
   exact uC _ (aa1 ha) (uC _ (aa2 hb) (uF rfl (uT rfl h)))
  | some q =>
   simp only [ha, hb] at h
   have b1 := anS ha
   have b2 := anS hb
   exact uC _ (aa1 ha) (uC _ (aa1 hb) (uF rfl (uF rfl (uC _ (aEB (aiE b1 zc) (aiE b2 zc)) h))))
theorem aBt (a : FxT) (y) (h : aaC (a, ()) = some y) : (arE a).toO = some y := by
 unfold aaC at h
 dsimp only at h
 unfold arE
 cases ha : rdF a with
 | none =>
  simp only [ha] at h
  exact uC _ (aa2 ha) (uT rfl h)
 | some q =>
  simp only [ha] at h
  exact uC _ (aa1 ha) (uF rfl h)
theorem aD5 (n d : List UInt8) (y) (h : amB (n, d, ()) = some y) : (awJ n d).toO = some y := by
 unfold amB at h
 dsimp only at h
 unfold awJ
 cases hn : rdW n with
 | none =>
  simp only [hn] at h
  exact uC _ (ad5 n) (uT (by rw [hn]; rfl) h)
 | some a =>
  cases hd : rdW d with
  | none =>
   simp only [hn, hd] at h
   exact uC _ (ad5 n) (uF (by rw [hn]; rfl) (uC _ (ad5 d) (uT (by rw [hd]; rfl) h)))
  | some b =>
   simp only [hn, hd] at h
   have b1 := atV hn
   have b2 := atV hd
   refine uC _ (ad5 n) (uF (by rw [hn]; rfl) (uC _ (ad5 d) (uF (by rw [hd]; rfl) ?_)))
   refine uC (sg a, ()) (by rw [(ahK hn).2]; exact ajV (aaS b1 zc)) ?_
   refine uC (sg b, ()) (by rw [(ahK hd).2]; exact ajV (aaS b2 zc)) ?_
   refine uC _ (asJ _) ?_
   unfold ofQ at h
   by_cases h0 : b = 0
   ·rw [if_pos h0] at h
    exact uT sd h
   ·rw [if_neg h0] at h
    refine uF sd ?_
    obtain ⟨s, hs, hv⟩ : ∃ s : Int, s.natAbs = a.natAbs ∧ (s = 0 ∨ (!(decide (a < 0) == decide (b < 0))) = decide (s < 0)) ∧ Rat.divInt a b = mkRat s b.natAbs := by
     rcases zK b 0 with c | c
     ·refine ⟨-a, by omega, ?_, ?_⟩
      ·by_cases ha : a = 0
       ·left; omega
       ·right
        rw [zp c]
        rcases zK a 0 with c2 | c2
        ·rw [zp c2, zn zc]; rfl
        ·rw [zn zc, zp zc]; rfl
      ·rw [← Rat.neg_divInt_neg, ← xU]
       congr 1; omega
     ·refine ⟨a, rfl, ?_, ?_⟩
      ·right
       rw [zn (show ¬ b < 0 by omega)]
       cases decide (a < 0) <;> rfl
      ·rw [← xU]
       congr 1; omega
    obtain ⟨hv1, hv2⟩ := hv
    rw [hv2] at h
    refine uC (sg s, ()) (adV hs.symm hv1) ?_
    refine uC _ (aBP (by rw [hs]; exact aaS b1 zc) (aaS b2 zc) zc) ?_
    refine uC _ (ajS ?_) h
    obtain ⟨g, t, hg, g0, e0, e1, e2⟩ := ad8 s (d := b.natAbs) zc
    refine ⟨?_, ?_⟩
    ·rw [e1, ← ac3 e0 g0, hs]; exact aaS (aaV _ b1) zc
    ·rw [e2]; exact aaS (aaV _ b2) zc
theorem afG {z : Int} (h : aeW z) : Fit z := by
 unfold aeW at h
 have : (acF z.natAbs).length ≤ 20 := (adO zc).2 zc
 unfold Fit; omega
theorem aJy (n d : Int) (y) (h : aaH (n, d, ()) = some y) : (aKU n d).toO = some y := by
 unfold aaH at h
 split at h
 ·rename_i hp
  refine uC _ (aK4 hp.1) (uC _ (aK4 hp.2) ?_)
  refine uC (ofQ n d) ?_ h
  unfold amB
  simp only [amK (afG hp.1), amK (afG hp.2)]
 ·cases h
set_option maxRecDepth 100000
open Go Go.Vg Go.Proofs
noncomputable section
def aJM : LTab := []
def aCS (n : Int) (d : Int) : TT (vI × Unit) :=
 .call (aaH (n, d, ())) aMe fun y =>
 .ok (((y.1.1, y.1.2.1, ()), ()))
def aBI : LTab := []
def ar3 (n : Int) : TT (vI × Unit) :=
 .call (ajQ (n, 1, ())) aPL fun y =>
 .ok (((y.1.1, y.1.2.1, ()), ()))
def aw0 : LTab := []
def ah5 (x : List UInt8 × List UInt8 × Unit) : TT (vI × Unit) :=
 .call (aeA (0, ())) aPL fun y =>
 .call (aeA (1, ())) aPL fun y1 =>
 .tt <| .tt <| .tt <| .tt <| .call (ak3 ((x.1, x.2.1, ()), (y.1.1, y.1.2.1, ()), ())) aQs fun y2 =>
 .ite (decide (y2.1 < 0))
 (.ok (((y.1.1, y.1.2.1, ()), ())))
 (.tt <| .tt <| .call (ak3 ((x.1, x.2.1, ()), (y1.1.1, y1.1.2.1, ()), ())) aQs fun y3 =>
 .ite (decide (y3.1 > 0))
 (.ok (((y1.1.1, y1.1.2.1, ()), ())))
 (.ok (((x.1, x.2.1, ()), ()))))
end
theorem aq7 {a b : Int} (h : Fit b) (hab : a.natAbs ≤ b.natAbs) : Fit a := by
 unfold Fit at *
 rw [adO zc] at *
 omega
theorem aGI (q : Rat) (n : Int) : n ≤ fl q ↔ (n : Rat) ≤ q := by
 unfold fl
 rw [Rat.le_iff, wC (by have := q.den_pos; omega)]
 simp
theorem aMV (a b : Rat) : a < b ∨ a = b ∨ b < a := by grind
theorem aGJ {n : Int} {d : Nat} (hd : d ≠ 0) (h1 : Fit n) (h2 : Fit d) : ak5 (mkRat n d) := by
 obtain ⟨g, t, hg, g0, e0, e1, e2⟩ := ad8 n hd
 refine ⟨aq7 h1 ?_, aq7 h2 ?_⟩
 ·rw [e1, ← ac3 e0 g0]; exact we _ _
 ·rw [e2]; simp only [yK]; exact we _ _
theorem aFV {n : Int} {d : Nat} (hd : d ≠ 0) (h1 : Fit n) (h2 : Fit d) : ofQ n d = (fx (mkRat n d), 0, ()) := by
 unfold ofQ
 rw [if_neg zc, xU, aAA (aGJ hd h1 h2)]
theorem aHQ {n : Int} {d : Nat} (hn : aeW n) (hd : d ≠ 0) (h2 : d ≤ 9223372036854775807) : aaH (n, (d : Int), ()) = some (fx (mkRat n d), 0, ()) := by
 have hd2 : aeW (d : Int) := ⟨by omega, by omega⟩
 unfold aaH
 rw [if_pos ⟨hn, hd2⟩]
 simp only [aFV hd (afG hn) (afG hd2)]
theorem auJ {n k : Nat} (h : n < 10 ^ k) (hk : k ≤ 600) : Fit (n : Int) := by
 show (acF n).length ≤ 600
 have h2 : (acF n).length ≤ k + 1 := acR (zR h (yg zc zc))
 rcases zC k with h0 | h0
 ·omega
 ·have := (adO h0).2 h
  omega
theorem aEj (n d : Int) (y) (h : ajQ (n, d, ()) = some y) : (aCS n d).toO = some y := by
 unfold ajQ at h
 split at h
 ·rename_i hp
  exact uC (ofQ n d) (by unfold aaH; rw [if_pos hp]) h
 ·cases h
theorem aJT {n : Int} {d : Nat} (hn : aeW n) (hd : d ≠ 0) (h2 : d ≤ 9223372036854775807) : ajQ (n, (d : Int), ()) = some (fx (mkRat n d), ()) := by
 have hd2 : aeW (d : Int) := ⟨by omega, by omega⟩
 unfold ajQ
 rw [if_pos ⟨hn, hd2⟩]
 simp only [aFV hd (afG hn) (afG hd2)]
theorem awZ (n : Int) (y) (h : aeA (n, ()) = some y) : (ar3 n).toO = some y := by
 unfold aeA at h
 split at h
 ·rename_i hp
  exact uC _ (aJT (d := 1) hp zc zc) h
 ·cases h
theorem asL {n : Int} (h : aeW n) : aeA (n, ()) = some (fx (mkRat n 1), ()) := by unfold aeA; rw [if_pos h]
theorem ayO (n : Int) : mkRat n 1 = (n : Rat) := by rw [Rat.mkRat_eq_div, show ((1 : Nat) : Rat) = 1 from rfl]; grind
theorem aCC {n : Int} (h : aeW n) : ak5 (mkRat n 1) := aGJ zc (afG h) (afG ⟨by omega, by omega⟩)
theorem aHR {p q : Rat} (hp : ak5 p) (hq : ak5 q) : ak3 (fx p, fx q, ()) = some (aH0 p q, 0, ()) := by
 unfold ak3
 simp only [anR hp, anR hq]
theorem aCi (p q : Rat) : aH0 p q < 0 ↔ p < q := by
 unfold aH0
 split
 ·simp_all
 ·split <;> simp_all
theorem aCh (p q : Rat) : aH0 p q > 0 ↔ q < p := by
 unfold aH0
 split
 ·rename_i h; constructor
  ·intro h2; omega
  ·intro h2; exact absurd h2 (by grind)
 ·split
  ·rename_i h; subst h; simp
  ·rename_i h1 h2
   constructor
   ·intro _; rcases aMV p q with c | c | c
    ·exact absurd c h1
    ·exact absurd c h2
    ·exact c
   ·intro _; omega
theorem axC {q : Rat} (h : ak5 q) : aaM (fx q, ()) = some (fx (azZ q), ()) := aaZ (enc := fun x : Rat => (fx x, ())) q h (fun b hb => aKT (Prod.mk.inj hb).1)
theorem ar4 (x : FxT) (y) (h : aaM (x, ()) = some y) : (ah5 x).toO = some y := by
 obtain ⟨q, hp, hx, rfl⟩ := aaP h
 obtain ⟨rfl, -⟩ := Prod.mk.inj hx
 have i0 : aeW 0 := ⟨by omega, by omega⟩
 have i1 : aeW 1 := ⟨by omega, by omega⟩
 unfold ah5
 refine uC _ (asL i0) (uC _ (asL i1) (uV (uV (uV (uV ?_)))))
 refine uC _ (aHR hp (aCC i0)) ?_
 have e0 : mkRat 0 1 = (0 : Rat) := by rw [ayO]; rfl
 have e1 : mkRat 1 1 = (1 : Rat) := by rw [ayO]; rfl
 unfold azZ
 by_cases c : q < 0
 ·rw [if_pos c]
  refine uT (zp ((aCi _ _).2 (by rw [e0]; exact c))) ?_
  rw [e0]; rfl
 ·rw [if_neg c]
  refine uF (zn (fun h => c (by rw [← e0]; exact (aCi _ _).1 h))) (uV (uV ?_))
  refine uC _ (aHR hp (aCC i1)) ?_
  by_cases c2 : q > 1
  ·rw [if_pos c2]
   refine uT (zp ((aCh _ _).2 (by rw [e1]; exact c2))) ?_
   rw [e1]; rfl
  ·rw [if_neg c2]
   exact uF (zn (fun h => c2 (by rw [← e1]; exact (aCh _ _).1 h))) rfl
set_option maxRecDepth 100000
open Go Go.Vg Go.Proofs
noncomputable section
def aIy : LTab := [(212, 28, 4097, ⟨0, (Int) × Unit, .dat (.s 3) vz <| .nil, [2, 0], [], 0⟩)]
def ax1 (d : List Int) (i : (Int) × Unit) : TT (vZ ⊕ vH) :=
 .ite (decide (i.1 > 0))
 (.need (inb (w64 (i.1 - 1)) (len d)) <| .ite (gi d (w64 (i.1 - 1)) 0 == 0)
 (.tt <| .lt (w64 (i.1 - 1) : Int) fun z => .wT (wU z <| True ∧ vj d) <| .tr <| .ok (.inl ((z, ()))))
 (.need (inc i.1 (len d)) <| .ok (.inr ((List.take (Int.toNat i.1) d, ())))))
 (.need (inc i.1 (len d)) <| .ok (.inr ((List.take (Int.toNat i.1) d, ()))))
def aCd (d : List Int) : TT vH :=
 .loop 0 (.tt <| .wT (wU (len d) <| True ∧ vj d) <| .tr <| .ok ((len d, ()))) (ax1 d)
def aFd : LTab := []
def ax0 (below : Bool) (d : List Int) : TT uh :=
 .call (acX (d, ())) aBQ fun y =>
 .ite (below)
 (.ok (((decide (len y.1 > 0), y.1, ()), ())))
 (.ok (((false, y.1, ()), ())))
def ax5 : LTab := [(94, 60, 5122, ⟨0, Bool × (List Int) × (Int) × Unit, .appN (.s 3) 5 3 vz <| .dat (.s 0) vz <| .nil, [4, 2], [0], 1⟩)]
def aeQ (n : Int) (i : Bool × (List Int) × (Int) × Unit) : TT ((Bool × (List Int) × (Int) × Unit) ⊕ uh) :=
 .ite (i.1)
 (.ite (i.2.2.1 != 0)
 (.triv (asT Int 10000 ≠ 0) zd <| .ite (decide (Int.tmod i.2.2.1 10000 < 0))
 (.need (1 * 8 ≤ 140737488355328) <| .triv (asT Int 10000 ≠ 0) zd <| .tt <| .lt ([w64 (0 - Int.tmod i.2.2.1 10000)] : List Int) fun z => .lt (w64 (Int.tdiv i.2.2.1 10000) : Int) fun z1 => .wT (wU z1 <| (wY 5 0 1 true) ∧ (wU (decide (n < 0)) <| ua ∧ True)) <| .wT (wS (wX 3 z) <| wS vP True) <| .ok (.inl ((false, z, z1, ()))))
 (.need (1 * 8 ≤ 140737488355328) <| .triv (asT Int 10000 ≠ 0) zd <| .tt <| .lt ([Int.tmod i.2.2.1 10000] : List Int) fun z2 => .lt (w64 (Int.tdiv i.2.2.1 10000) : Int) fun z3 => .wT (wU z3 <| (wY 5 0 1 true) ∧ (wU (decide (n < 0)) <| ua ∧ True)) <| .wT (wS (wX 3 z2) <| wS vP True) <| .ok (.inl ((false, z2, z3, ())))))
 (.call (acD (decide (n < 0), [], ())) atE fun y =>
 .ok (.inr (((y.1.1, y.1.2.1, ()), ())))))
 (.ite (i.2.2.1 != 0)
 (.triv (asT Int 10000 ≠ 0) zd <| .ite (decide (Int.tmod i.2.2.1 10000 < 0))
 (.need ((List.length i.2.1 + 1) * 8 ≤ 140737488355328) <| .triv (asT Int 10000 ≠ 0) zd <| .tt <| .lt (List.take (List.length i.2.1) i.2.1 ++ [w64 (0 - Int.tmod i.2.2.1 10000)] : List Int) fun z4 => .lt (w64 (Int.tdiv i.2.2.1 10000) : Int) fun z5 => .need (((z5 : Int) = z5) ∧ (((5) = (5)) ∧ (((0) = (0)) ∧ ((List.length i.2.1 + 1 = List.length z4) ∧ ((true) = (true))))) ∧ ((decide (n < 0)) = (decide (n < 0))) ∧ (((0) = (0)) ∧ (((0) = (0)) ∧ ((true) = (true)))) ∧ True) <| .wT (wS (wX 3 z4) <| wS vP True) <| .ok (.inl ((false, z4, z5, ()))))
 (.need ((List.length i.2.1 + 1) * 8 ≤ 140737488355328) <| .triv (asT Int 10000 ≠ 0) zd <| .tt <| .lt (List.take (List.length i.2.1) i.2.1 ++ [Int.tmod i.2.2.1 10000] : List Int) fun z6 => .lt (w64 (Int.tdiv i.2.2.1 10000) : Int) fun z7 => .need (((z7 : Int) = z7) ∧ (((5) = (5)) ∧ (((0) = (0)) ∧ ((List.length i.2.1 + 1 = List.length z6) ∧ ((true) = (true))))) ∧ ((decide (n < 0)) = (decide (n < 0))) ∧ (((0) = (0)) ∧ (((0) = (0)) ∧ ((true) = (true)))) ∧ True) <| .wT (wS (wX 3 z6) <| wS vP True) <| .ok (.inl ((false, z6, z7, ())))))
 (.call (acD (decide (n < 0), List.take (List.length i.2.1) i.2.1, ())) atE fun y1 =>
 .ok (.inr (((y1.1.1, y1.1.2.1, ()), ())))))
def anT (n : Int) : TT uh :=
 .loop 0 (.tt <| .wT (wU n <| True ∧ (wU (decide (n < 0)) <| ua ∧ True)) <| .wT (wS vP True) <| .ok ((true, [], n, ()))) (aeQ n)
def aFe : LTab := []
def ap4 (n : Int) : TT vU :=
 .triv (asT Int 1000 ≠ 0) zd <| .triv (asT Int 100 ≠ 0) zd <| .triv (asT Int 10 ≠ 0) zd <| .triv (asT Int 10 ≠ 0) zd <| .triv (asT Int 10 ≠ 0) zd <| .triv (asT Int 10 ≠ 0) zd <| .ok ((List.map (fun n => UInt8.ofNat (Int.toNat n)) (List.take 4 [wu8 (w64 (48 + w64 (Int.tdiv n 1000))), wu8 (w64 (48 + Int.tmod (w64 (Int.tdiv n 100)) 10)), wu8 (w64 (48 + Int.tmod (w64 (Int.tdiv n 10)) 10)), wu8 (w64 (48 + Int.tmod n 10))]), ()))
def aFg : LTab := [(66, 58, 8192, ⟨0, (Int) × (List UInt8) × Unit, .dat (.s 4) vz <| .dat (.s 3) (Ty.str) <| .nil, [2, 1], [0], 0⟩), (66, 124, 11264, ⟨1, (Int) × Unit, .dat (.s 5) vz <| .nil, [3, 2, 1], [0], 0⟩)]
def ahM (i1 : (Int) × Unit) (i : Int × List UInt8 × Unit) (a : Bool × List Int × Unit) : TT (vZ ⊕ uf) :=
 .need (inc i1.1 (len i.2.1)) <| .ite (List.take (List.length i.2.1 - Int.toNat i1.1) (List.drop (Int.toNat i1.1) i.2.1) == #[].toList)
 (.ok (.inr (.inr ((#[48].toList, ())))))
 (.ite (a.1)
 (.need (List.length #[45].toList + List.length (List.take (List.length i.2.1 - Int.toNat i1.1) (List.drop (Int.toNat i1.1) i.2.1)) ≤ lim) <| .ok (.inr (.inr ((#[45].toList ++ List.take (List.length i.2.1 - Int.toNat i1.1) (List.drop (Int.toNat i1.1) i.2.1), ())))))
 (.ok (.inr (.inr ((List.take (List.length i.2.1 - Int.toNat i1.1) (List.drop (Int.toNat i1.1) i.2.1), ()))))))
def atX (a : Bool × List Int × Unit) (i : Int × List UInt8 × Unit) (i1 : (Int) × Unit) : TT (vZ ⊕ uf) :=
 .ite (decide (i1.1 < len i.2.1))
 (.need (inb i1.1 (len i.2.1)) <| .ite ((↑(UInt8.toNat (gi i.2.1 i1.1 0)) : Int) == 48)
  (.tt <| .lt (w64 (i1.1 + 1) : Int) fun z3 => .wT (vl z3 i.2.1 (#[].toList : List UInt8) <| ua ∧ True) <| .wT (wS (wW 91 a.1 a.2.1) True) <| .ok (.inl ((z3, ()))))
  (ahM i1 i a))
 (ahM i1 i a)
def amP (a : Bool × List Int × Unit) (i : (Int) × (List UInt8) × Unit) : TT uf :=
 .ite (decide (i.1 ≥ 0))
 (.need (inb i.1 (len a.2.1)) <| .call (al3 (gi a.2.1 i.1 0, ())) Dd2 fun y =>
 .need (List.length i.2.1 + List.length y.1 ≤ lim) <| .tt <| .lt (w64 (i.1 - 1) : Int) fun z1 => .lt (i.2.1 ++ y.1 : List UInt8) fun z2 => .wT (vl z2 z1 (#[].toList : List UInt8) <| ua ∧ True) <| .wT (wS (wW 91 a.1 a.2.1) True) <| .ok (.inl ((z1, z2, ()))))
 (.loop 1 (.tt <| .wT (vl (0 : Int) i.2.1 (#[].toList : List UInt8) <| ua ∧ True) <| .wT (wS (wW 91 a.1 a.2.1) True) <| .ok ((0, ()))) (atX a i))
def ap6 (a : Bool × List Int × Unit) : TT vU :=
 .loop 0 (.tt <| .lt (w64 (len a.2.1 - 1) : Int) fun z => .wT (vl (#[].toList : List UInt8) z (#[].toList : List UInt8) <| ua ∧ True) <| .wT (wS (wW 91 a.1 a.2.1) True) <| .ok ((z, #[].toList, ()))) (amP a)
def aIz : LTab := []
def aCe (a : Bool × List Int × Unit) : TT (List UInt8 × Int × Unit) :=
 .call (al4 ((a.1, a.2.1, ()), ())) Dd2 fun y =>
 .ite (a.1)
 (.ite (decide (w64 (len y.1 - 1) > 600))
 (.ok ((#[].toList, 6, ())))
 (.ok ((y.1, 0, ()))))
 (.ite (decide (len y.1 > 600))
 (.ok ((#[].toList, 6, ())))
 (.ok ((y.1, 0, ()))))
def aDo : LTab := [(121, 58, 10240, ⟨0, (Int) × Unit, .dat (.s 5) vz <| .nil, [0, 1], [], 0⟩)]
def ap2 (a : List Int) (b : List Int) (i : (Int) × Unit) : TT (vZ ⊕ vW) :=
 .ite (decide (i.1 ≥ 0))
 (.need (inb i.1 (len a)) <| .need (inb i.1 (len b)) <| .ite (gi a i.1 0 != gi b i.1 0)
 (.need (inb i.1 (len a)) <| .need (inb i.1 (len b)) <| .ok (.inr ((w64 (gi a i.1 0 - gi b i.1 0), ()))))
 (.tt <| .lt (w64 (i.1 - 1) : Int) fun z1 => .wT (wW z1 a b) <| .tr <| .ok (.inl ((z1, ())))))
 (.ok (.inr ((0, ()))))
def amM (a : List Int) (b : List Int) : TT vW :=
 .ite (len a != len b)
 (.ok ((w64 (len a - len b), ())))
 (.loop 0 (.tt <| .lt (w64 (len a - 1) : Int) fun z => .wT (wW z a b) <| .tr <| .ok ((z, ()))) (ap2 a b))
def aIx : LTab := [(120, 122, 4098, ⟨0, (Int) × (Int) × Bool × (List Int) × Unit, .dat (.s 7) vz <| .dat (.s 6) vz <| .appN (.s 5) 4 3 vz <| .nil, [4, 0, 1], [], 1⟩)]
def adK (i : (Int) × (Int) × Bool × (List Int) × Unit) (a : List Int) (b : List Int) : TT vQ :=
 .ite (decide (i.1 < len a))
 (.need (inb i.1 (len a)) <| .ite (decide (i.1 < len b))
 (.need (inb i.1 (len b)) <| .triv (asT Int 10000 ≠ 0) zd <| .need ((List.length i.2.2.2.1 + 1) * 8 ≤ 140737488355328) <| .triv (asT Int 10000 ≠ 0) zd <| .tt <| .lt (w64 (i.1 + 1) : Int) fun z36 => .lt (w64 (Int.tdiv (w64 (w64 (i.2.1 + gi a i.1 0) + gi b i.1 0)) 10000) : Int) fun z37 => .lt (List.take (List.length i.2.2.2.1) i.2.2.2.1 ++ [Int.tmod (w64 (w64 (i.2.1 + gi a i.1 0) + gi b i.1 0)) 10000] : List Int) fun z38 => .need ((((4) = (4)) ∧ (((0) = (0)) ∧ ((List.length i.2.2.2.1 + 1 = List.length z38) ∧ ((true) = (true))))) ∧ ((z37 : Int) = z37) ∧ ((z36 : Int) = z36) ∧ True ∧ ((a) = (a)) ∧ ((b) = (b)) ∧ True) <| .wT (wS (wX 3 z38) True) <| .ok (.inl ((z36, z37, false, z38, ()))))
 (.triv (asT Int 10000 ≠ 0) zd <| .need ((List.length i.2.2.2.1 + 1) * 8 ≤ 140737488355328) <| .triv (asT Int 10000 ≠ 0) zd <| .tt <| .lt (w64 (i.1 + 1) : Int) fun z39 => .lt (w64 (Int.tdiv (w64 (i.2.1 + gi a i.1 0)) 10000) : Int) fun z40 => .lt (List.take (List.length i.2.2.2.1) i.2.2.2.1 ++ [Int.tmod (w64 (i.2.1 + gi a i.1 0)) 10000] : List Int) fun z41 => .need ((((4) = (4)) ∧ (((0) = (0)) ∧ ((List.length i.2.2.2.1 + 1 = List.length z41) ∧ ((true) = (true))))) ∧ ((z40 : Int) = z40) ∧ ((z39 : Int) = z39) ∧ True ∧ ((a) = (a)) ∧ ((b) = (b)) ∧ True) <| .wT (wS (wX 3 z41) True) <| .ok (.inl ((z39, z40, false, z41, ())))))
 (.ite (decide (i.1 < len b))
 (.need (inb i.1 (len b)) <| .triv (asT Int 10000 ≠ 0) zd <| .need ((List.length i.2.2.2.1 + 1) * 8 ≤ 140737488355328) <| .triv (asT Int 10000 ≠ 0) zd <| .tt <| .lt (w64 (i.1 + 1) : Int) fun z42 => .lt (w64 (Int.tdiv (w64 (i.2.1 + gi b i.1 0)) 10000) : Int) fun z43 => .lt (List.take (List.length i.2.2.2.1) i.2.2.2.1 ++ [Int.tmod (w64 (i.2.1 + gi b i.1 0)) 10000] : List Int) fun z44 => .need ((((4) = (4)) ∧ (((0) = (0)) ∧ ((List.length i.2.2.2.1 + 1 = List.length z44) ∧ ((true) = (true))))) ∧ ((z43 : Int) = z43) ∧ ((z42 : Int) = z42) ∧ True ∧ ((a) = (a)) ∧ ((b) = (b)) ∧ True) <| .wT (wS (wX 3 z44) True) <| .ok (.inl ((z42, z43, false, z44, ()))))
 (.triv (asT Int 10000 ≠ 0) zd <| .need ((List.length i.2.2.2.1 + 1) * 8 ≤ 140737488355328) <| .triv (asT Int 10000 ≠ 0) zd <| .tt <| .lt (w64 (i.1 + 1) : Int) fun z45 => .lt (w64 (Int.tdiv i.2.1 10000) : Int) fun z46 => .lt (List.take (List.length i.2.2.2.1) i.2.2.2.1 ++ [Int.tmod i.2.1 10000] : List Int) fun z47 => .need ((((4) = (4)) ∧ (((0) = (0)) ∧ ((List.length i.2.2.2.1 + 1 = List.length z47) ∧ ((true) = (true))))) ∧ ((z46 : Int) = z46) ∧ ((z45 : Int) = z45) ∧ True ∧ ((a) = (a)) ∧ ((b) = (b)) ∧ True) <| .wT (wS (wX 3 z47) True) <| .ok (.inl ((z45, z46, false, z47, ())))))
def adJ (i : (Int) × (Int) × Bool × (List Int) × Unit) (a : List Int) (b : List Int) : TT vQ :=
 .ite (decide (i.1 < len a))
 (.need (inb i.1 (len a)) <| .ite (decide (i.1 < len b))
 (.need (inb i.1 (len b)) <| .triv (asT Int 10000 ≠ 0) zd <| .need (1 * 8 ≤ 140737488355328) <| .triv (asT Int 10000 ≠ 0) zd <| .tt <| .lt (w64 (i.1 + 1) : Int) fun z => .lt (w64 (Int.tdiv (w64 (w64 (i.2.1 + gi a i.1 0) + gi b i.1 0)) 10000) : Int) fun z1 => .lt ([Int.tmod (w64 (w64 (i.2.1 + gi a i.1 0) + gi b i.1 0)) 10000] : List Int) fun z2 => .wT (ud ∧ (ve z1 z <| True ∧ vo a b)) <| .wT (wS (wX 3 z2) True) <| .ok (.inl ((z, z1, false, z2, ()))))
 (.triv (asT Int 10000 ≠ 0) zd <| .need (1 * 8 ≤ 140737488355328) <| .triv (asT Int 10000 ≠ 0) zd <| .tt <| .lt (w64 (i.1 + 1) : Int) fun z3 => .lt (w64 (Int.tdiv (w64 (i.2.1 + gi a i.1 0)) 10000) : Int) fun z4 => .lt ([Int.tmod (w64 (i.2.1 + gi a i.1 0)) 10000] : List Int) fun z5 => .wT (ud ∧ (ve z4 z3 <| True ∧ vo a b)) <| .wT (wS (wX 3 z5) True) <| .ok (.inl ((z3, z4, false, z5, ())))))
 (.ite (decide (i.1 < len b))
 (.need (inb i.1 (len b)) <| .triv (asT Int 10000 ≠ 0) zd <| .need (1 * 8 ≤ 140737488355328) <| .triv (asT Int 10000 ≠ 0) zd <| .tt <| .lt (w64 (i.1 + 1) : Int) fun z6 => .lt (w64 (Int.tdiv (w64 (i.2.1 + gi b i.1 0)) 10000) : Int) fun z7 => .lt ([Int.tmod (w64 (i.2.1 + gi b i.1 0)) 10000] : List Int) fun z8 => .wT (ud ∧ (ve z7 z6 <| True ∧ vo a b)) <| .wT (wS (wX 3 z8) True) <| .ok (.inl ((z6, z7, false, z8, ()))))
 (.triv (asT Int 10000 ≠ 0) zd <| .need (1 * 8 ≤ 140737488355328) <| .triv (asT Int 10000 ≠ 0) zd <| .tt <| .lt (w64 (i.1 + 1) : Int) fun z9 => .lt (w64 (Int.tdiv i.2.1 10000) : Int) fun z10 => .lt ([Int.tmod i.2.1 10000] : List Int) fun z11 => .wT (ud ∧ (ve z10 z9 <| True ∧ vo a b)) <| .wT (wS (wX 3 z11) True) <| .ok (.inl ((z9, z10, false, z11, ())))))
def aiM (a : List Int) (b : List Int) (i : (Int) × (Int) × Bool × (List Int) × Unit) : TT vQ :=
 .ite (i.2.2.1)
 (.ite (decide (i.1 < len a))
  (adJ i a b)
  (.ite (decide (i.1 < len b))
   (adJ i a b)
   (.ite (decide (i.2.1 > 0))
    (adJ i a b)
    (.ok (.inr (([], ())))))))
 (.ite (decide (i.1 < len a))
  (adK i a b)
  (.ite (decide (i.1 < len b))
   (adK i a b)
   (.ite (decide (i.2.1 > 0))
    (adK i a b)
    (.ok (.inr ((List.take (List.length i.2.2.2.1) i.2.2.2.1, ())))))))
def aCc (a : List Int) (b : List Int) : TT vH :=
 .loop 0 (.tt <| .wT (True ∧ (ve (0 : Int) (0 : Int) <| True ∧ vo a b)) <| .tr <| .ok ((0, 0, true, [], ()))) (aiM a b)
def ap5 : LTab := [(122, 122, 4098, ⟨0, (Int) × (Int) × Bool × (List Int) × Unit, .dat (.s 7) vz <| .dat (.s 6) vz <| .appN (.s 5) 4 3 vz <| .nil, [4, 0, 1], [], 1⟩)]
def ab0 (a : List Int) (b : List Int) (i : (Int) × (Int) × Bool × (List Int) × Unit) : TT vQ :=
 .ite (i.2.2.1)
 (.ite (decide (i.1 < len a))
 (.need (inb i.1 (len a)) <| .ite (decide (i.1 < len b))
 (.need (inb i.1 (len b)) <| .ite (decide (w64 (w64 (gi a i.1 0 - i.2.1) - gi b i.1 0) < 0))
 (.need (1 * 8 ≤ 140737488355328) <| .tt <| .lt (w64 (i.1 + 1) : Int) fun z => .lt ([w64 (w64 (w64 (gi a i.1 0 - i.2.1) - gi b i.1 0) + 10000)] : List Int) fun z1 => .wT (ud ∧ (ve (1 : Int) z <| True ∧ vo a b)) <| .wT (wS (wX 3 z1) True) <| .ok (.inl ((z, 1, false, z1, ()))))
 (.need (1 * 8 ≤ 140737488355328) <| .tt <| .lt (w64 (i.1 + 1) : Int) fun z2 => .lt ([w64 (w64 (gi a i.1 0 - i.2.1) - gi b i.1 0)] : List Int) fun z3 => .wT (ud ∧ (ve (0 : Int) z2 <| True ∧ vo a b)) <| .wT (wS (wX 3 z3) True) <| .ok (.inl ((z2, 0, false, z3, ())))))
 (.ite (decide (w64 (gi a i.1 0 - i.2.1) < 0))
 (.need (1 * 8 ≤ 140737488355328) <| .tt <| .lt (w64 (i.1 + 1) : Int) fun z4 => .lt ([w64 (w64 (gi a i.1 0 - i.2.1) + 10000)] : List Int) fun z5 => .wT (ud ∧ (ve (1 : Int) z4 <| True ∧ vo a b)) <| .wT (wS (wX 3 z5) True) <| .ok (.inl ((z4, 1, false, z5, ()))))
 (.need (1 * 8 ≤ 140737488355328) <| .tt <| .lt (w64 (i.1 + 1) : Int) fun z6 => .lt ([w64 (gi a i.1 0 - i.2.1)] : List Int) fun z7 => .wT (ud ∧ (ve (0 : Int) z6 <| True ∧ vo a b)) <| .wT (wS (wX 3 z7) True) <| .ok (.inl ((z6, 0, false, z7, ()))))))
 (.call (acX ([], ())) aBQ fun y =>
 .ok (.inr ((y.1, ())))))
 (.ite (decide (i.1 < len a))
 (.need (inb i.1 (len a)) <| .ite (decide (i.1 < len b))
 (.need (inb i.1 (len b)) <| .ite (decide (w64 (w64 (gi a i.1 0 - i.2.1) - gi b i.1 0) < 0))
 (.need ((List.length i.2.2.2.1 + 1) * 8 ≤ 140737488355328) <| .tt <| .lt (w64 (i.1 + 1) : Int) fun z8 => .lt (List.take (List.length i.2.2.2.1) i.2.2.2.1 ++ [w64 (w64 (w64 (gi a i.1 0 - i.2.1) - gi b i.1 0) + 10000)] : List Int) fun z9 => .need ((((4) = (4)) ∧ (((0) = (0)) ∧ ((List.length i.2.2.2.1 + 1 = List.length z9) ∧ ((true) = (true))))) ∧ ((1 : Int) = 1) ∧ ((z8 : Int) = z8) ∧ True ∧ ((a) = (a)) ∧ ((b) = (b)) ∧ True) <| .wT (wS (wX 3 z9) True) <| .ok (.inl ((z8, 1, false, z9, ()))))
 (.need ((List.length i.2.2.2.1 + 1) * 8 ≤ 140737488355328) <| .tt <| .lt (w64 (i.1 + 1) : Int) fun z10 => .lt (List.take (List.length i.2.2.2.1) i.2.2.2.1 ++ [w64 (w64 (gi a i.1 0 - i.2.1) - gi b i.1 0)] : List Int) fun z11 => .need ((((4) = (4)) ∧ (((0) = (0)) ∧ ((List.length i.2.2.2.1 + 1 = List.length z11) ∧ ((true) = (true))))) ∧ ((0 : Int) = 0) ∧ ((z10 : Int) = z10) ∧ True ∧ ((a) = (a)) ∧ ((b) = (b)) ∧ True) <| .wT (wS (wX 3 z11) True) <| .ok (.inl ((z10, 0, false, z11, ())))))
 (.ite (decide (w64 (gi a i.1 0 - i.2.1) < 0))
 (.need ((List.length i.2.2.2.1 + 1) * 8 ≤ 140737488355328) <| .tt <| .lt (w64 (i.1 + 1) : Int) fun z12 => .lt (List.take (List.length i.2.2.2.1) i.2.2.2.1 ++ [w64 (w64 (gi a i.1 0 - i.2.1) + 10000)] : List Int) fun z13 => .need ((((4) = (4)) ∧ (((0) = (0)) ∧ ((List.length i.2.2.2.1 + 1 = List.length z13) ∧ ((true) = (true))))) ∧ ((1 : Int) = 1) ∧ ((z12 : Int) = z12) ∧ True ∧ ((a) = (a)) ∧ ((b) = (b)) ∧ True) <| .wT (wS (wX 3 z13) True) <| .ok (.inl ((z12, 1, false, z13, ()))))
 (.need ((List.length i.2.2.2.1 + 1) * 8 ≤ 140737488355328) <| .tt <| .lt (w64 (i.1 + 1) : Int) fun z14 => .lt (List.take (List.length i.2.2.2.1) i.2.2.2.1 ++ [w64 (gi a i.1 0 - i.2.1)] : List Int) fun z15 => .need ((((4) = (4)) ∧ (((0) = (0)) ∧ ((List.length i.2.2.2.1 + 1 = List.length z15) ∧ ((true) = (true))))) ∧ ((0 : Int) = 0) ∧ ((z14 : Int) = z14) ∧ True ∧ ((a) = (a)) ∧ ((b) = (b)) ∧ True) <| .wT (wS (wX 3 z15) True) <| .ok (.inl ((z14, 0, false, z15, ()))))))
 (.call (acX (List.take (List.length i.2.2.2.1) i.2.2.2.1, ())) aBQ fun y1 =>
 .ok (.inr ((y1.1, ())))))
def aiN (a : List Int) (b : List Int) : TT vH :=
 .loop 0 (.tt <| .wT (True ∧ (ve (0 : Int) (0 : Int) <| True ∧ vo a b)) <| .tr <| .ok ((0, 0, true, [], ()))) (ab0 a b)
def axX : LTab := [(123, 58, 9217, ⟨0, (Int) × (List Int) × Unit, .dat (.s 6) vz <| .row 6 vz <| .nil, [5, 4, 0, 1], [6], 0⟩), (123, 14922, 15361, ⟨1, (Int) × (Int) × (List Int) × Unit, .dat (.s 8) vz <| .dat (.s 7) vz <| .row 6 vz <| .nil, [18, 17, 16, 15, 6, 5, 4, 0, 1], [6], 0⟩)]
def adS (a : List Int) (b : List Int) (i : Int × List Int × Unit) (i1 : (Int) × (Int) × (List Int) × Unit) : TT (vM ⊕ vY) :=
 .ite (decide (i1.1 < len b))
 (.need (inb (w64 (i.1 + i1.1)) (↑(Int.toNat (w64 (len a + len b))) : Int)) <| .need (inb i.1 (len a)) <| .need (inb i1.1 (len b)) <| .triv (asT Int 10000 ≠ 0) zd <| .need (inb (w64 (i.1 + i1.1)) (↑(Int.toNat (w64 (len a + len b))) : Int)) <| .triv (asT Int 10000 ≠ 0) zd <| .tt <| .lt (w64 (i1.1 + 1) : Int) fun z2 => .lt (w64 (Int.tdiv (w64 (w64 (i1.2.1 + List.getD i1.2.2.1 (0 + Int.toNat (w64 (i.1 + i1.1))) 0) + w64 (gi a i.1 0 * gi b i1.1 0))) 10000) : Int) fun z3 => .lt (List.set i1.2.2.1 (0 + Int.toNat (w64 (i.1 + i1.1))) (Int.tmod (w64 (w64 (i1.2.1 + List.getD i1.2.2.1 (0 + Int.toNat (w64 (i.1 + i1.1))) 0) + w64 (gi a i.1 0 * gi b i1.1 0))) 10000) : List Int) fun z4 => .wT (vq z3 z2 (decide (i.1 < len a)) (len a) a i.1 i.1 <| (wY 6 0 (Int.toNat (w64 (len a + len b))) true) ∧ True ∧ vo a b) <| .wT (wS (wX 3 z4) True) <| .ok (.inl ((z2, z3, z4, ()))))
 (.need (inb (w64 (i.1 + len b)) (↑(Int.toNat (w64 (len a + len b))) : Int)) <| .tt <| .lt (w64 (i.1 + 1) : Int) fun z5 => .lt (List.set i1.2.2.1 (0 + Int.toNat (w64 (i.1 + len b))) i1.2.1 : List Int) fun z6 => .wT (wU z5 <| (wY 6 0 (Int.toNat (w64 (len a + len b))) true) ∧ True ∧ vo a b) <| .wT (wS (wX 3 z6) True) <| .ok (.inr (.inl ((z5, z6, ())))))
def ahL (a : List Int) (b : List Int) (i : (Int) × (List Int) × Unit) : TT vY :=
 .ite (decide (i.1 < len a))
 (.loop 1 (.tt <| .lt (i.2.1 : List Int) fun z1 => .wT (vq (0 : Int) (0 : Int) (decide (i.1 < len a)) (len a) a i.1 i.1 <| (wY 6 0 (Int.toNat (w64 (len a + len b))) true) ∧ True ∧ vo a b) <| .wT (wS (wX 3 z1) True) <| .ok ((0, 0, z1, ()))) (adS a b i))
 (.call (acX (List.take (Int.toNat (w64 (len a + len b))) i.2.1, ())) aBQ fun y =>
 .ok (.inr ((y.1, ()))))
def aeD (a : List Int) (b : List Int) : TT vH :=
 .need (0 ≤ w64 (len a + len b) ∧ w64 (len a + len b) ≤ w64 (len a + len b) ∧ w64 (len a + len b) * (↑8 : Int) ≤ 140737488355328) <| .loop 0 (.tt <| .lt (List.replicate (Int.toNat (w64 (len a + len b))) 0 : List Int) fun z => .wT (wU (0 : Int) <| (wY 6 0 (Int.toNat (w64 (len a + len b))) true) ∧ True ∧ vo a b) <| .wT (wS (wX 3 z) True) <| .ok ((0, z, ()))) (ahL a b)
def aFc : LTab := [(213, 122, 11265, ⟨0, (Int) × (Int) × (List Int) × Unit, .dat (.s 8) vz <| .dat (.s 7) vz <| .row 4 vz <| .nil, [6, 5, 4, 0, 1], [4], 0⟩)]
def amN (a : List Int) (d : Int) (i : (Int) × (Int) × (List Int) × Unit) : TT (vM ⊕ ui) :=
 .ite (decide (i.1 ≥ 0))
 (.need (inb i.1 (len a)) <| .need (d ≠ 0) <| .need (inb i.1 (↑(Int.toNat (len a)) : Int)) <| .need (d ≠ 0) <| .tt <| .lt (w64 (i.1 - 1) : Int) fun z2 => .lt (Int.tmod (w64 (w64 (i.2.1 * 10000) + gi a i.1 0)) d : Int) fun z3 => .lt (List.set i.2.2.1 (0 + Int.toNat i.1) (w64 (Int.tdiv (w64 (w64 (i.2.1 * 10000) + gi a i.1 0)) d)) : List Int) fun z4 => .wT (ve z3 z2 <| (wY 4 0 (Int.toNat (len a)) true) ∧ (wU (0 : Int) <| True ∧ vo a d)) <| .wT (wS (wX 3 z4) True) <| .ok (.inl ((z2, z3, z4, ()))))
 (.call (acX (List.take (Int.toNat (len a)) i.2.2.1, ())) aBQ fun y =>
 .ok (.inr ((y.1, i.2.1, ()))))
def ap3 (a : List Int) (d : Int) : TT ui :=
 .need (0 ≤ len a ∧ len a ≤ len a ∧ len a * (↑8 : Int) ≤ 140737488355328) <| .loop 0 (.tt <| .lt (w64 (len a - 1) : Int) fun z => .lt (List.replicate (Int.toNat (len a)) 0 : List Int) fun z1 => .wT (ve (0 : Int) z <| (wY 4 0 (Int.toNat (len a)) true) ∧ (wU (0 : Int) <| True ∧ vo a d)) <| .wT (wS (wX 3 z1) True) <| .ok ((z, 0, z1, ()))) (amN a d)
end
abbrev zs : aHF := (0, 0, 0, 0, 0, 0, ())
theorem axK {α : Type} {s t : List α} {k : Nat} (hs : k < s.length) (ht : k < t.length) (h : s.take k = t.take k) (he : s[k] = t[k]) : s.take (k + 1) = t.take (k + 1) := by
 rw [yf hs, yf ht, h, he]
theorem afB {l : List Int} (h : Dg 10000 l) (hl : l.length ≤ 1000000000000) {n : Nat} (hv : V 10000 l = n) : acX (l, ()) = some (dig n, ()) := by
 unfold acX
 rw [if_pos ⟨h, hl⟩]
 simp only [hv, zk]
theorem aDp (d : List Int) (y) (h : acX (d, ()) = some y) : (aCd d).toO = some y := by
 unfold acX at h
 split at h
 case isFalse => cases h
 case isTrue hp =>
 obtain ⟨hd, hl⟩ := hp
 dsimp only at hd hl h
 injection h with h
 subst h
 refine uO ((d.length : Int), ()) rfl ?_
 refine abH (fun i : Int × Unit => ∃ k : Nat, k ≤ d.length ∧ i = ((k : Int), ()) ∧ V 10000 (d.take k) = V 10000 d) (fun i => i.1.toNat) (fun _ => (dig (V 10000 d).toNat, ())) ?_ _ ⟨_, zi _, rfl, by rw [zt]⟩
 rintro i ⟨k, h1, rfl, h2⟩
 have hn := aaQ zc hd
 have fin : Cn (d.take k) → d.take k = dig (V 10000 d).toNat := fun hc => awP (acE hd k) hc (by rw [h2]; omega)
 unfold ax1
 rcases zC k with h0 | h0
 ·right
  subst h0
  refine uF sd (uN sd ?_)
  show some (Sum.inr (d.take (Int.toNat (0 : Nat)), ())) = _
  rw [zk, fin (by simp [Cn])]
 ·have hw : w64 ((k : Int) - 1) = ((k - 1 : Nat) : Int) := by rw [aaB (x := (k : Int) - 1) zc]; omega
  have hg : d.getD (k - 1) 0 = d[k - 1] := by simp [show k - 1 < d.length by omega]
  have ht := ah7 10000 (l := d) (i := k - 1) zc
  rw [show k - 1 + 1 = k by omega] at ht
  simp only [hw, aaU, hg]
  by_cases c : d[k - 1] = 0
  ·left
   refine ⟨(((k - 1 : Nat) : Int), ()), ?_, ⟨k - 1, by omega, rfl, ?_⟩, by dsimp only; omega, ze⟩
   ·refine uT sd (uN sd (uT (by rw [c]; rfl) ?_))
    repeat refine za ?_
    rfl
   ·rw [← h2, ht, c]; simp
  ·right
   refine uT sd (uN sd (uF (by simpa using c) (uN sd ?_)))
   show some (Sum.inr (d.take (Int.toNat (k : Int)), ())) = _
   rw [zk, fin ?_]
   unfold Cn
   rw [yB, zX, yi h1, zL, if_pos zc, zG zc]
   simpa using c
theorem aAO (b : Bool) (d : List Int) (y) (h : acD (b, d, ()) = some y) : (ax0 b d).toO = some y := by
 unfold acD at h
 split at h
 case isFalse => cases h
 case isTrue hp =>
 obtain ⟨hd, hl⟩ := hp
 dsimp only at hd hl h
 injection h with h
 subst h
 obtain ⟨n, hn⟩ := zI (aaQ zc hd)
 rw [hn, zk]
 refine uC _ (afB hd hl hn) ?_
 have e : decide (len (dig n) > 0) = decide ((n : Int) ≠ 0) := by
  refine decide_eq_decide.2 ?_
  have := dig_nil_iff (n := n)
  rw [aaN]
  constructor
  ·intro h h2
   rw [this.2 zc] at h
   simp at h
  ·intro h
   rcases zC (dig n).length with h3 | h3
   ·have := this.1 (zW.1 h3); omega
   ·omega
 cases b
 ·exact uF rfl rfl
 ·refine uT rfl ?_
  show some ((decide (len (dig n) > 0), dig n, ()), ()) = _
  rw [e]; rfl
theorem aAh {l : List Int} {b : Bool} {z : Int} (h : Dg 10000 l) (hl : l.length ≤ 1000000000000) (hv : V 10000 l = z.natAbs) (hb : z = 0 ∨ b = decide (z < 0)) : acD (b, l, ()) = some (pl z, ()) := by
 unfold acD
 rw [if_pos ⟨h, hl⟩]
 simp only [hv, zk]
 congr 2
 unfold pl
 congr 1
 by_cases h0 : z = 0
 ·subst h0; simp
 ·rw [zp (show ((z.natAbs : Int) ≠ 0) by omega), Bool.and_true]
  rcases hb with h2 | h2
  ·exact absurd h2 h0
  ·exact h2
theorem afZ {n : Nat} {b : Bool} {z : Int} (hl : (dig n).length ≤ 1000000000000) (hv : n = z.natAbs) (hb : z = 0 ∨ b = decide (z < 0)) : acD (b, dig n, ()) = some (pl z, ()) := aAh (adW n) hl (by rw [ag3, hv]) hb
theorem aHM {n : Nat} (h : n < 10000) : al3 ((n : Int), ()) = some (as6 n, ()) := aaZ (enc := fun x : Nat => ((x : Int), ())) n h (fun b hb => Int.ofNat.inj (Prod.mk.inj hb).1)
theorem aAP (n : Int) (y) (h : al3 (n, ()) = some y) : (ap4 n).toO = some y := by
 obtain ⟨k, hk, hx, rfl⟩ := aaP h
 obtain ⟨rfl, -⟩ := Prod.mk.inj hx
 have d1 : ∀ m : Nat, 0 < m → Int.tdiv (k : Int) m = ((k / m : Nat) : Int) := fun m hm => by rw [zJ zc]; simp
 have e1 := d1 1000 zc
 have e2 := d1 100 zc
 have e3 := d1 10 zc
 have m1 : ∀ j : Nat, Int.tmod (j : Int) 10 = ((j % 10 : Nat) : Int) := fun j => by rw [zM zc]; omega
 have w1 : ∀ j : Nat, j < 10000 → w64 (j : Int) = j := fun j hj => aaB zc
 have w2 : ∀ j : Nat, j < 10 → wu8 (w64 (48 + (j : Int))) = ((48 + j : Nat) : Int) := fun j hj => by rw [aaB (x := 48 + (j : Int)) zc, ab8 zc]; omega
 unfold ap4
 have f1 : Int.tdiv (k : Int) 1000 = ((k / 1000 : Nat) : Int) := e1
 have f2 : Int.tdiv (k : Int) 100 = ((k / 100 : Nat) : Int) := e2
 have f3 : Int.tdiv (k : Int) 10 = ((k / 10 : Nat) : Int) := e3
 refine uV (uV (uV (uV (uV (uV ?_)))))
 rw [aaT, f1, f2, f3, w1 (k / 1000) zc, w1 (k / 100) zc, w1 (k / 10) zc, m1, m1, m1, w2 _ zc, w2 _ zc, w2 _ zc, w2 _ zc]
 rfl
theorem anK (a b : List Int) (h1 : Dg 10000 a) (h2 : Dg 10000 b) (h3 : a.length ≤ 1000000000000) (h4 : b.length ≤ 1000000000000) : ae5 (a, b, ()) = some (aKA a b, ()) := by unfold ae5; rw [if_pos ⟨h1, h2, h3, h4⟩]
theorem axZ (a b : List Int) (y) (h : ae5 (a, b, ()) = some y) : (amM a b).toO = some y := by
 unfold ae5 at h
 split at h
 case isFalse => cases h
 case isTrue hp =>
 obtain ⟨ha, hb, hl, hl2⟩ := hp
 dsimp only at ha hb hl hl2 h
 injection h with h
 subst h
 unfold amM aKA
 by_cases c : a.length = b.length
 case neg =>
  rw [if_pos c]
  refine uT sd ?_
  rw [aaT, aaN, aaN, aaB zc]
 rw [if_neg (fun h => h c)]
 refine uF sd ?_
 refine uO ((a.length : Int) - 1, ()) ?_ ?_
 ·repeat refine za ?_
  rw [aaT, aaN, aaB zc]
 refine abH (fun i : Int × Unit => ∃ k : Nat, k ≤ a.length ∧ i = ((k : Int) - 1, ()) ∧ aIb a b a.length = aIb a b k) (fun i => (i.1 + 1).toNat) (fun _ => (aIb a b a.length, ())) ?_ _ ⟨_, zi _, rfl, rfl⟩
 rintro i ⟨k, h1, rfl, h2⟩
 unfold ap2
 dsimp only
 cases k with
 | zero =>
  right
  refine uF sd ?_
  rw [h2]; rfl
 | succ j =>
  have e6 : ((j + 1 : Nat) : Int) - 1 = (j : Int) := zc
  simp only [e6, aaU]
  have da := aa4 zc ha j
  have db := aa4 zc hb j
  by_cases c2 : a.getD j 0 = b.getD j 0
  ·left
   refine ⟨((j : Int) - 1, ()), ?_, ⟨j, by omega, rfl, ?_⟩, by dsimp only; omega, ze⟩
   ·refine uT sd (uN sd (uN sd (uF (by rw [c2]; simp) ?_)))
    repeat refine za ?_
    rw [aaT, aaB zc]
   ·rw [h2]; show (if _ then _ else _) = _; rw [if_neg (fun h => h c2)]
  ·right
   refine uT sd (uN sd (uN sd (uT (by simpa using c2) (uN sd (uN sd ?_)))))
   rw [aaT, aaB zc, h2]
   show _ = some (Sum.inr (if _ then _ else _, ()))
   rw [if_pos c2]
theorem axI {a b : List Int} (ha : Dg 10000 a) (hb : Dg 10000 b) : ∀ k, (aIb a b k < 0 ↔ V 10000 (a.take k) < V 10000 (b.take k)) ∧ (aIb a b k = 0 ↔ V 10000 (a.take k) = V 10000 (b.take k))
 | 0 => by simp [aIb]
 | k + 1 => by
  obtain ⟨i1, i2⟩ := axI ha hb k
  have ea := abB 10000 a k
  have eb := abB 10000 b k
  have la := adC zc ha k
  have lb := adC zc hb k
  have na := aaQ zc (acE ha k)
  have nb := aaQ zc (acE hb k)
  unfold aIb
  rw [ea, eb]
  by_cases c : a.getD k 0 = b.getD k 0
  ·rw [if_neg (fun h => h c), c]
   omega
  ·rw [if_pos c]
   rcases zK (a.getD k 0) (b.getD k 0) with h | h
   ·have h5 : (10000 : Int) ^ k * (a.getD k 0 + 1) ≤ 10000 ^ k * b.getD k 0 := zx zc zc
    rw [xJ] at h5
    omega
   ·have h5 : (10000 : Int) ^ k * (b.getD k 0 + 1) ≤ 10000 ^ k * a.getD k 0 := zx zc zc
    rw [xJ] at h5
    omega
theorem aCj (m n : Nat) : (aKA (dig m) (dig n) < 0 ↔ m < n) ∧ (aKA (dig m) (dig n) = 0 ↔ m = n) := by
 unfold aKA
 by_cases c : (dig m).length = (dig n).length
 ·rw [if_neg (fun h => h c)]
  obtain ⟨h1, h2⟩ := axI (adW m) (adW n) (dig m).length
  rw [abR _ (zi _), abR _ zc, ag3, ag3] at h1 h2
  omega
 ·rw [if_pos c]
  rcases zw (dig m).length (dig n).length with h | h
  ·have := aj7 h; omega
  ·have := aj7 (m := n) (n := m) zc; omega
theorem aIi {a b s : List Int} {k : Nat} {c x c' : Int} (h5 : s.length = k) (h7 : V 10000 s + 10000 ^ k * c = V 10000 (a.take k) + V 10000 (b.take k)) (hx : x + 10000 * c' = a.getD k 0 + b.getD k 0 + c) : V 10000 (s ++ [x]) + 10000 ^ (k + 1) * c' = V 10000 (a.take (k + 1)) + V 10000 (b.take (k + 1)) := by
 rw [ad6, aw8, h5, abB, abB, yh]
 have : (10000 : Int) ^ k * (x + 10000 * c') = 10000 ^ k * (a.getD k 0 + b.getD k 0 + c) := by rw [hx]
 grind
theorem aIh {x : Int} (h : 0 ≤ x) : Int.tdiv x 10000 = x / 10000 := zJ h
theorem aIg {x : Int} (h : 0 ≤ x) : Int.tmod x 10000 = x % 10000 := zM h
theorem aDm (m o : List Int) (y) (h : apG (m, o, ()) = some y) : (aCc m o).toO = some y := by
 obtain ⟨⟨a, b⟩, hn, hx, rfl⟩ := aaP h
 obtain ⟨rfl, hx2⟩ := Prod.mk.inj hx; obtain ⟨rfl, -⟩ := Prod.mk.inj hx2; dsimp only
 obtain ⟨la, lb⟩ := hn
 simp only at la lb
 have hda := adW a
 have hdb := adW b
 have hVa := ag3 a
 have hVb := ag3 b
 clear hx hx2 h
 have hca := aCM a
 have hcb := aCM b
 generalize dig a = A at *
 generalize dig b = B at *
 refine uO (0, 0, true, [], ()) rfl ?_
 refine abH (fun i : Int × Int × Bool × List Int × Unit => ∃ k : Nat, k ≤ A.length + B.length + 1 ∧ i.1 = (k : Int) ∧ 0 ≤ i.2.1 ∧ i.2.1 ≤ 1 ∧ i.2.2.2.1.length = k ∧ Dg 10000 i.2.2.2.1 ∧ V 10000 i.2.2.2.1 + 10000 ^ k * i.2.1 = V 10000 (A.take k) + V 10000 (B.take k) ∧ (i.2.2.1 = true → i.2.2.2.1 = []) ∧ (A.length ≤ k → B.length ≤ k → i.2.1 = 0 → Cn i.2.2.2.1) ∧ (i.2.1 = 0 ∨ k ≤ A.length ∨ k ≤ B.length)) (fun i => (((A.length + B.length + 2 : Nat) : Int) - i.1).toNat) (fun _ => (dig (a + b), ())) ?_ _ ⟨0, by omega, rfl, by simp, by simp, rfl, asM _, by simp [V], fun _ => rfl, fun _ _ _ => aoN, Or.inl rfl⟩
 rintro ⟨i, c, f, s, u⟩ ⟨k, h1, h2, h3, h4, h5, h6, h7, h8, h9, h10⟩
 dsimp only at h2 h3 h4 h5 h6 h7 h8 h9 h10
 subst h2
 have da := aa4 zc hda k
 have db := aa4 zc hdb k
 have hS : 0 ≤ A.getD k 0 + B.getD k 0 + c := zc
 by_cases hgo : k < A.length ∨ k < B.length ∨ 0 < c
 ·left
  have e1 := yc (A.getD k 0 + B.getD k 0 + c) 10000
  refine ⟨(((k + 1 : Nat) : Int), (A.getD k 0 + B.getD k 0 + c) / 10000, false, s ++ [(A.getD k 0 + B.getD k 0 + c) % 10000], ()), ?_, ⟨k + 1, by omega, rfl, by dsimp only; omega, by dsimp only; omega, by simp; omega, aeV h6 (akE zc zc), aIi h5 h7 e1, by simp, ?_, ?_⟩, by dsimp only; omega, ze⟩
  ·have zA : ¬ k < A.length → A.getD k 0 = 0 := fun h => af8 zc 0
   have zB : ¬ k < B.length → B.getD k 0 = 0 := fun h => af8 zc 0
   have eD : ∀ x : Int, x = A.getD k 0 + B.getD k 0 + c → Int.tdiv x 10000 = (A.getD k 0 + B.getD k 0 + c) / 10000 ∧ Int.tmod x 10000 = (A.getD k 0 + B.getD k 0 + c) % 10000 := fun x hx => by rw [hx]; exact ⟨aIh hS, aIg hS⟩
   have w1 : w64 (c + A.getD k 0) = c + A.getD k 0 := aaB zc
   have w2 : w64 (c + A.getD k 0 + B.getD k 0) = c + A.getD k 0 + B.getD k 0 := aaB zc
   have w3 : w64 (c + B.getD k 0) = c + B.getD k 0 := aaB zc
   have w4 : w64 ((A.getD k 0 + B.getD k 0 + c) / 10000) = (A.getD k 0 + B.getD k 0 + c) / 10000 := aaB zc
   have w5 : w64 ((k : Int) + 1) = ((k + 1 : Nat) : Int) := by rw [aaB (x := (k : Int) + 1) zc]; omega
   cases f with
   | true =>
    obtain rfl := h8 rfl
    simp only [aiM, adJ, adK, aaU, w1, w2, w3, w5]
    by_cases cA : k < A.length <;> by_cases cB : k < B.length
    ·obtain ⟨q1, q2⟩ := eD (c + A.getD k 0 + B.getD k 0) zc
     simp only [q1, q2, w4]
     repeat refine za ?_
     rfl
    ·obtain ⟨q1, q2⟩ := eD (c + A.getD k 0) (by have := zB cB; omega)
     simp only [q1, q2, w4]
     repeat refine za ?_
     rfl
    ·obtain ⟨q1, q2⟩ := eD (c + B.getD k 0) (by have := zA cA; omega)
     simp only [q1, q2, w4]
     repeat refine za ?_
     rfl
    ·obtain ⟨q1, q2⟩ := eD c (by have := zA cA; have := zB cB; omega)
     have hc0 : 0 < c := zc
     simp only [q1, q2, w4]
     repeat refine za ?_
     rfl
   | false =>
    simp only [aiM, adJ, adK, aaU, w1, w2, w3, w5, zt]
    by_cases cA : k < A.length <;> by_cases cB : k < B.length
    ·obtain ⟨q1, q2⟩ := eD (c + A.getD k 0 + B.getD k 0) zc
     simp only [q1, q2, w4]
     repeat refine za ?_
     rfl
    ·obtain ⟨q1, q2⟩ := eD (c + A.getD k 0) (by have := zB cB; omega)
     simp only [q1, q2, w4]
     repeat refine za ?_
     rfl
    ·obtain ⟨q1, q2⟩ := eD (c + B.getD k 0) (by have := zA cA; omega)
     simp only [q1, q2, w4]
     repeat refine za ?_
     rfl
    ·obtain ⟨q1, q2⟩ := eD c (by have := zA cA; have := zB cB; omega)
     have hc0 : 0 < c := zc
     simp only [q1, q2, w4]
     repeat refine za ?_
     rfl
  ·intro g1 g2 g3
   dsimp only at g3 ⊢
   unfold Cn
   simp only [List.getLast?_concat, ne_eq, Option.some.injEq]
   intro g4
   have hz : A.getD k 0 + B.getD k 0 + c = 0 := zc
   have ca : ¬ k < A.length := by
    intro hk
    have : k = A.length - 1 := zc
    unfold Cn at hca
    rw [yB, ← this, zG hk] at hca
    rw [ahW hk] at *
    exact hca (by congr 1; omega)
   have cb : ¬ k < B.length := by
    intro hk
    have : k = B.length - 1 := zc
    unfold Cn at hcb
    rw [yB, ← this, zG hk] at hcb
    rw [ahW hk] at *
    exact hcb (by congr 1; omega)
   omega
  ·dsimp only
   by_cases cA : k < A.length
   ·right; left; omega
   ·by_cases cB : k < B.length
    ·right; right; omega
    ·left
     have := af8 (l := A) (k := k) zc 0
     have := af8 (l := B) (k := k) zc 0
     omega
 ·right
  have hc : c = 0 := zc
  subst hc
  rw [abR _ zc, abR _ zc, hVa, hVb] at h7
  have hs : s = dig (a + b) := awP h6 (h9 zc zc rfl) zc
  cases f with
  | true =>
   obtain rfl := h8 rfl
   unfold aiM adJ adK
   repeat refine za ?_
   rw [← hs]; rfl
  | false =>
   unfold aiM adJ adK
   repeat refine za ?_
   rw [← hs, aaT, zt]
theorem ai5 {a b : List Int} (h1 : Dg 10000 a) (h2 : Dg 10000 b) (h3 : a.length ≤ 1000000000000) (h4 : b.length ≤ a.length) (h5 : V 10000 b ≤ V 10000 a) {n : Nat} (hn : V 10000 a - V 10000 b = n) : abM (a, b, ()) = some (dig n, ()) := by
 unfold abM
 rw [if_pos ⟨h1, h2, h3, h4, h5⟩]
 simp only [hn, zk]
theorem aG5 {a b s : List Int} {k : Nat} {c x c' : Int} (h5 : s.length = k) (h7 : V 10000 s = V 10000 (a.take k) - V 10000 (b.take k) + 10000 ^ k * c) (hx : x = a.getD k 0 - b.getD k 0 - c + 10000 * c') : V 10000 (s ++ [x]) = V 10000 (a.take (k + 1)) - V 10000 (b.take (k + 1)) + 10000 ^ (k + 1) * c' := by
 rw [ad6, aw8, h5, abB, abB, yh, h7, hx]
 grind
theorem amO (A B : List Int) (y) (h : abM (A, B, ()) = some y) : (aiN A B).toO = some y := by
 unfold abM at h
 split at h
 case isFalse => cases h
 case isTrue hp =>
 obtain ⟨hda, hdb, la, lb, hle⟩ := hp
 dsimp only at hda hdb la lb hle h
 injection h with h
 subst h
 refine uO (0, 0, true, [], ()) rfl ?_
 refine abH (fun i : Int × Int × Bool × List Int × Unit => ∃ k : Nat, k ≤ A.length ∧ i.1 = (k : Int) ∧ 0 ≤ i.2.1 ∧ i.2.1 ≤ 1 ∧ i.2.2.2.1.length = k ∧ Dg 10000 i.2.2.2.1 ∧ V 10000 i.2.2.2.1 = V 10000 (A.take k) - V 10000 (B.take k) + 10000 ^ k * i.2.1 ∧ (i.2.2.1 = true → i.2.2.2.1 = [])) (fun i => ((A.length : Int) - i.1).toNat) (fun _ => (dig (V 10000 A - V 10000 B).toNat, ())) ?_ _ ⟨0, by omega, rfl, by simp, by simp, rfl, asM _, by simp [V], fun _ => rfl⟩
 rintro ⟨i, c, f, s, u⟩ ⟨k, h1, h2, h3, h4, h5, h6, h7, h8⟩
 dsimp only at h2 h3 h4 h5 h6 h7 h8
 subst h2
 have da := aa4 zc hda k
 have db := aa4 zc hdb k
 have w5 : w64 ((k : Int) + 1) = ((k + 1 : Nat) : Int) := by rw [aaB (x := (k : Int) + 1) zc]; omega
 have w1 : w64 (A.getD k 0 - c) = A.getD k 0 - c := aaB zc
 have w2 : w64 (A.getD k 0 - c - B.getD k 0) = A.getD k 0 - c - B.getD k 0 := aaB zc
 have w3 : w64 (A.getD k 0 - c + 10000) = A.getD k 0 - c + 10000 := aaB zc
 have w4 : w64 (A.getD k 0 - c - B.getD k 0 + 10000) = A.getD k 0 - c - B.getD k 0 + 10000 := aaB zc
 rcases zw k A.length with hk | hk
 ·left
  have fin : ∀ x c' : Int, 0 ≤ x ∧ x < 10000 → 0 ≤ c' ∧ c' ≤ 1 → x = A.getD k 0 - B.getD k 0 - c + 10000 * c' → (∃ k_1 : Nat, k_1 ≤ A.length ∧ ((k + 1 : Nat) : Int) = (k_1 : Int) ∧ 0 ≤ c' ∧ c' ≤ 1 ∧ (s ++ [x]).length = k_1 ∧ Dg 10000 (s ++ [x]) ∧ V 10000 (s ++ [x]) = V 10000 (A.take k_1) - V 10000 (B.take k_1) + 10000 ^ k_1 * c' ∧ (false = true → (s ++ [x]) = [])) ∧ ((A.length : Int) - ((k + 1 : Nat) : Int)).toNat < ((A.length : Int) - (k : Int)).toNat :=
   fun x c' hx hc he => ⟨⟨k + 1, by omega, rfl, hc.1, hc.2, by simp; omega, aeV h6 (akE hx.1 hx.2), aG5 h5 h7 he, by simp⟩, by omega⟩
  have zB : ¬ k < B.length → B.getD k 0 = 0 := fun h => af8 zc 0
  by_cases cn : A.getD k 0 - c - B.getD k 0 < 0
  ·obtain ⟨g1, g2⟩ := fin (A.getD k 0 - c - B.getD k 0 + 10000) 1 zc zc zc
   refine ⟨(((k + 1 : Nat) : Int), 1, false, s ++ [A.getD k 0 - c - B.getD k 0 + 10000], ()), ?_, g1, g2, ze⟩
   cases f with
   | true =>
    obtain rfl := h8 rfl
    simp only [ab0, aaU, w1, w2, w3, w4, w5]
    by_cases cB : k < B.length
    ·repeat refine za ?_
     rfl
    ·have := zB cB
     rw [this, wz] at *
     repeat refine za ?_
     rfl
   | false =>
    simp only [ab0, aaU, w1, w2, w3, w4, w5, zt]
    by_cases cB : k < B.length
    ·repeat refine za ?_
     rfl
    ·have := zB cB
     rw [this, wz] at *
     repeat refine za ?_
     rfl
  ·obtain ⟨g1, g2⟩ := fin (A.getD k 0 - c - B.getD k 0) 0 zc zc zc
   refine ⟨(((k + 1 : Nat) : Int), 0, false, s ++ [A.getD k 0 - c - B.getD k 0], ()), ?_, g1, g2, ze⟩
   cases f with
   | true =>
    obtain rfl := h8 rfl
    simp only [ab0, aaU, w1, w2, w3, w4, w5]
    by_cases cB : k < B.length
    ·repeat refine za ?_
     rfl
    ·have := zB cB
     rw [this, wz] at *
     repeat refine za ?_
     rfl
   | false =>
    simp only [ab0, aaU, w1, w2, w3, w4, w5, zt]
    by_cases cB : k < B.length
    ·repeat refine za ?_
     rfl
    ·have := zB cB
     rw [this, wz] at *
     repeat refine za ?_
     rfl
 ·right
  have hkk : k = A.length := zc
  subst hkk
  rw [abR _ (zi _), abR _ lb] at h7
  have hlt := aEy zc h6
  rw [h5] at hlt
  have hc : c = 0 := by
   rcases zK 0 c with hc | hc
   ·have hc1 : c = 1 := zc
    subst hc1
    omega
   ·omega
  subst hc
  cases f with
  | true =>
   obtain rfl := h8 rfl
   unfold ab0
   refine uT rfl (uF sd (uC (dig (V 10000 A - V 10000 B).toNat, ()) (afB h6 zh zc) rfl))
  | false =>
   unfold ab0
   dsimp only
   rw [zt]
   refine uF rfl (uF sd (uC (dig (V 10000 A - V 10000 B).toNat, ()) (afB h6 zc zc) rfl))
end Go.Vs
