/-
  Trees of what the functions compute, and their laws. Own work; no condition.
-/
import Derived.Test.YtebeijpmpjpgcaaGreatDoorClL1
import Derived.Test.YtebeijpmpjpgcaaGreatDoorProg
set_option linter.unusedVariables false
set_option linter.unusedSimpArgs false
namespace Go.Vs
open Go Go.Vg
theorem aAE {q : Rat} (h : alA q) : wrF q = (fx q, 0, ()) := if_pos h
theorem avI {q : Rat} (h : ¬ alA q) : wrF q = (([], [], ()), 6, ()) := if_neg h
theorem avG {z : Int} (h : Fit z) : wrW z = (dec z, 0, ()) := if_pos h
theorem avH {z : Int} (h : ¬ Fit z) : wrW z = ([], 6, ()) := if_neg h
theorem aH4 {z : Int} (h : Bd 8 z.natAbs) : aAt (sg z, ()) = some (wrW z) := aaZ (enc := fun x : Int => (sg x, ())) z h (fun b hb => anT (Prod.mk.inj hb).1)
theorem ajV {q : Rat} (h : BdQ 8 q) : ae8 (rt q, ()) = some (wrF q) := aaZ (enc := fun x : Rat => (rt x, ())) q h (fun b hb => ax0 (Prod.mk.inj hb).1)
theorem azG (x : RtT) (y) (h : ae8 (x, ()) = some y) : (am2 x).toO = some y := by
 obtain ⟨q, hp, hx, rfl⟩ := aaP h
 obtain ⟨rfl, -⟩ := Prod.mk.inj hx
 obtain ⟨h1, h2⟩ := hp
 unfold am2
 dsimp only
 refine uC _ (asP h1) ?_
 by_cases hf : Fit q.num
 ·have hf' : (acG q.num.natAbs).length ≤ 600 := hf
  refine uF zg ?_
  refine uC _ (asP h2) ?_
  by_cases hg : Fit q.den
  ·have hg' : (acG q.den).length ≤ 600 := hg
   rw [aAE ⟨hf, hg⟩]
   refine uF zg ?_
   exact uC _ (aH9 (aAk hf)) (uC _ (ak9 (aAk hg)) rfl)
  ·have hg' : ¬ (acG q.den).length ≤ 600 := hg
   rw [avI (fun h => hg h.2)]
   exact uT zg rfl
 ·have hf' : ¬ (acG q.num.natAbs).length ≤ 600 := hf
  rw [avI (fun h => hf h.1)]
  exact uT zg rfl
theorem ahL {g : Nat} {t n : Int} (h : n = g * t) (g0 : g ≠ 0) : (n < 0 ↔ t < 0) ∧ (n = 0 ↔ t = 0) := by
 subst h
 rcases Int.lt_trichotomy t 0 with h | h | h
 ·have := wj (show (0 : Int) < g by omega) h
  omega
 ·subst h; simp
 ·have := Int.mul_pos (show (0 : Int) < g by omega) h
  omega
theorem ac3 {g : Nat} {t n : Int} (h : n = g * t) (g0 : g ≠ 0) : n.natAbs / g = t.natAbs := by
 rw [h, yH, yK, yb _ zc]
theorem aBV {n : Int} {d : Nat} (h1 : Bd 7 n.natAbs) (h2 : Bd 7 d) (h3 : d ≠ 0) : aiD (sg n, mag d, ()) = some (rt (mkRat n d), ()) := aaZ (enc := fun x : Int × Nat => (sg x.1, mag x.2, ())) (n, d) ⟨h1, h2, h3⟩ (fun b hb => aE8 hb)
theorem awO (n : SgT) (d : List Int) (y) (h : aiD (n, d, ()) = some y) : (akZ n d).toO = some y := by
 obtain ⟨⟨a, b⟩, hp, hx, rfl⟩ := aaP h
 obtain ⟨rfl, hx2⟩ := Prod.mk.inj hx; obtain ⟨rfl, -⟩ := Prod.mk.inj hx2; dsimp only
 obtain ⟨l1, l2, l3⟩ := hp
 simp only at l1 l2 l3
 obtain ⟨g, t, hg, g0, hn, e1, e2⟩ := ad8 a l3
 have hs := ahL hn g0
 have ha := ac3 hn g0
 unfold akZ
 dsimp only
 have bg : Bd 7 g := by rw [hg]; repeat (first | assumption | exact aaS zf zc | exact aaJ zc | refine aa6 ?_ ?_ | refine aaV _ ?_ | refine abA _ ?_ | refine aaG ?_ ?_ | refine aaE ?_ ?_ | refine aaY ?_ | refine aa5 ?_ ?_ | refine aa7 ?_ ?_ | refine aaX ?_)
 refine uC (mag g, ()) (by rw [ajX zb zb, hg]) ?_
 refine uC _ (acU zb zb g0) ?_
 refine uC _ (acU zb zb g0) ?_
 refine uC (sg t, ()) (adV ha (Or.inr (decide_eq_decide.2 hs.1))) ?_
 show some (((sg t), mag (b / g), ()), ()) = some (rt (mkRat a b), ())
 unfold rt
 rw [e1, e2]
theorem aAw {q : Rat} (h : BdQ 7 q) : aoL (rt q, ()) = some (rt (-q), ()) := aaZ (enc := fun x : Rat => (rt x, ())) q h (fun b hb => ax0 (Prod.mk.inj hb).1)
theorem aAx {q : Rat} (h : BdQ 7 q) (h0 : q ≠ 0) : aoM (rt q, ()) = some (rt q⁻¹, ()) := aaZ (enc := fun x : Rat => (rt x, ())) q ⟨h, h0⟩ (fun b hb => ax0 (Prod.mk.inj hb).1)
theorem aK6 {q : Rat} (h : q ≠ 0) : q.num ≠ 0 := fun h2 => h (Rat.num_eq_zero.1 h2)
theorem aGF {q : Rat} (h : q ≠ 0) : (q⁻¹).num.natAbs = q.den ∧ ((q⁻¹).num < 0 ↔ q.num < 0) ∧ (q⁻¹).den = q.num.natAbs := by
 have h1 := aK6 h
 have h2 := q.den_pos
 rw [Rat.num_inv, Rat.den_inv, if_neg h1]
 rcases zL q.num 0 with h3 | h3
 ·rw [xu h3]; omega
 ·rw [xK zc]; omega
theorem aC9 {p q : Rat} (h : BdQ 3 p) (h2 : BdQ 3 q) : amB (rt p, rt q, ()) = some (rt (p + q), ()) := aaZ (enc := fun x : Rat × Rat => (rt x.1, rt x.2, ())) (p, q) ⟨h, h2⟩ (fun b hb => avV hb)
theorem aD5 (x x' : RtT) (y) (h : amB (x, x', ()) = some y) : (awG x x').toO = some y := by
 obtain ⟨⟨p, q⟩, hp, hx, rfl⟩ := aaP h
 obtain ⟨rfl, hx2⟩ := Prod.mk.inj hx; obtain ⟨rfl, -⟩ := Prod.mk.inj hx2; dsimp only
 obtain ⟨⟨p1, p2⟩, q1, q2⟩ := hp
 simp only at p1 p2 q1 q2
 obtain ⟨g, h', top, t, hg, ht, hh, g0, h0, htt, e1, e2⟩ := aAp p q
 have hs := ahL htt h0
 have ha := ac3 htt h0
 have bg : Bd 3 g := by rw [hg]; repeat (first | assumption | exact aaS zf zc | exact aaJ zc | refine aa6 ?_ ?_ | refine aaV _ ?_ | refine abA _ ?_ | refine aaG ?_ ?_ | refine aaE ?_ ?_ | refine aaY ?_ | refine aa5 ?_ ?_ | refine aa7 ?_ ?_ | refine aaX ?_)
 have bt : Bd 5 top.natAbs := by
  rw [ht]
  refine aaG (aaE ?_ (aaX ?_)) (aaE ?_ (aaX ?_)) <;> repeat (first | assumption | exact aaS zf zc | exact aaJ zc | refine aa6 ?_ ?_ | refine aaV _ ?_ | refine abA _ ?_ | refine aaG ?_ ?_ | refine aaE ?_ ?_ | refine aaY ?_ | refine aa5 ?_ ?_ | refine aa7 ?_ ?_ | refine aaX ?_)
 have bh : Bd 5 h' := by rw [hh]; repeat (first | assumption | exact aaS zf zc | exact aaJ zc | refine aa6 ?_ ?_ | refine aaV _ ?_ | refine abA _ ?_ | refine aaG ?_ ?_ | refine aaE ?_ ?_ | refine aaY ?_ | refine aa5 ?_ ?_ | refine aa7 ?_ ?_ | refine aaX ?_)
 unfold awG
 dsimp only
 refine uC (mag g, ()) (by rw [ajX zb zb, hg]) ?_
 refine uC _ (acU zb zb g0) ?_
 refine uC _ (acU zb zb g0) ?_
 refine uC _ (aiE zb zb) ?_
 refine uC _ (aiE zb zb) ?_
 refine uC (sg top, ()) (by rw [aDa zb zb, ht]) ?_
 refine uC (mag h', ()) (by rw [ajX zb zb, hh]) ?_
 refine uC _ (acU zb zb h0) ?_
 refine uC _ (acU zb zb h0) ?_
 refine uC (sg t, ()) (adV ha (Or.inr (decide_eq_decide.2 hs.1))) ?_
 refine uC _ (ajW zb zb) ?_
 show some ((sg t, mag (p.den / g * (q.den / h')), ()), ()) = some (rt (p + q), ())
 unfold rt
 rw [e1, e2]
theorem aMV (x x' : RtT) (y) (h : aKi (x, x', ()) = some y) : (aJT x x').toO = some y := by
 obtain ⟨⟨p, q⟩, hp, hx, rfl⟩ := aaP h
 obtain ⟨rfl, hx2⟩ := Prod.mk.inj hx; obtain ⟨rfl, -⟩ := Prod.mk.inj hx2; dsimp only
 obtain ⟨bp, bq⟩ := hp
 refine uC _ (aAw ⟨aaS bq.1 zc, aaS bq.2 zc⟩) ?_
 refine uC _ (aC9 bp ⟨aaY bq.1, bq.2⟩) ?_
 rw [Rat.sub_eq_add_neg]; rfl
theorem aC8 {p q : Rat} (h : BdQ 3 p) (h2 : BdQ 3 q) : amA (rt p, rt q, ()) = some (rt (p * q), ()) := aaZ (enc := fun x : Rat × Rat => (rt x.1, rt x.2, ())) (p, q) ⟨h, h2⟩ (fun b hb => avV hb)
theorem aD4 (x x' : RtT) (y) (h : amA (x, x', ()) = some y) : (awF x x').toO = some y := by
 obtain ⟨⟨p, q⟩, hp, hx, rfl⟩ := aaP h
 obtain ⟨rfl, hx2⟩ := Prod.mk.inj hx; obtain ⟨rfl, -⟩ := Prod.mk.inj hx2; dsimp only
 obtain ⟨⟨p1, p2⟩, q1, q2⟩ := hp
 simp only at p1 p2 q1 q2
 obtain ⟨g, h', s, t, hg, hh, g0, h0, hs, ht, e1, e2⟩ := ayZ p q
 have as1 := ac3 hs g0
 have at' := ac3 ht h0
 have ss := ahL hs g0
 have st := ahL ht h0
 have bg : Bd 3 g := by rw [hg]; repeat (first | assumption | exact aaS zf zc | exact aaJ zc | refine aa6 ?_ ?_ | refine aaV _ ?_ | refine abA _ ?_ | refine aaG ?_ ?_ | refine aaE ?_ ?_ | refine aaY ?_ | refine aa5 ?_ ?_ | refine aa7 ?_ ?_ | refine aaX ?_)
 have bh : Bd 3 h' := by rw [hh]; repeat (first | assumption | exact aaS zf zc | exact aaJ zc | refine aa6 ?_ ?_ | refine aaV _ ?_ | refine abA _ ?_ | refine aaG ?_ ?_ | refine aaE ?_ ?_ | refine aaY ?_ | refine aa5 ?_ ?_ | refine aa7 ?_ ?_ | refine aaX ?_)
 unfold awF
 dsimp only
 refine uC (mag g, ()) (by rw [ajX zb zb, hg]) ?_
 refine uC (mag h', ()) (by rw [ajX zb zb, hh]) ?_
 refine uC _ (acU zb zb g0) ?_
 refine uC _ (acU zb zb h0) ?_
 refine uC _ (acU zb zb h0) ?_
 refine uC _ (acU zb zb g0) ?_
 refine uC _ (ajW zb zb) ?_
 refine uC (sg (s * t), ()) (adV (n := p.num.natAbs / g * (q.num.natAbs / h')) (by rw [as1, at', yH]) ?_) ?_
 ·by_cases hz : s * t = 0
  ·exact Or.inl hz
  ·right
   show (!(decide (p.num < 0) == decide (q.num < 0))) = decide (s * t < 0)
   have z1 : s ≠ 0 := fun h => hz (by rw [h]; simp)
   have z2 : t ≠ 0 := fun h => hz (by rw [h]; simp)
   rcases zL s 0 with c1 | c1 <;> rcases zL t 0 with c2 | c2
   ·have := Int.mul_pos_of_neg_of_neg c1 c2
    rw [zp (ss.1.2 c1), zp (st.1.2 c2), zn zc]; rfl
   ·have := wi c1 (show 0 < t by omega)
    rw [zp (ss.1.2 c1), zn zc, zp zc]; rfl
   ·have := wj (show 0 < s by omega) c2
    rw [zn zc, zp (st.1.2 c2), zp zc]; rfl
   ·have := Int.mul_pos (show 0 < s by omega) (show 0 < t by omega)
    rw [zn zc, zn zc, zn zc]; rfl
 refine uC _ (ajW zb zb) ?_
 show some ((sg (s * t), mag (p.den / h' * (q.den / g)), ()), ()) = some (rt (p * q), ())
 unfold rt
 rw [e1, e2]
theorem aEO {p q : Rat} (h : BdQ 3 p) (h2 : BdQ 3 q) : ajR (rt p, rt q, ()) = some (aIk p q, ()) := aaZ (enc := fun x : Rat × Rat => (rt x.1, rt x.2, ())) (p, q) ⟨h, h2⟩ (fun b hb => avV hb)
theorem azH (x x' : RtT) (y) (h : ajR (x, x', ()) = some y) : (am3 x x').toO = some y := by
 obtain ⟨⟨p, q⟩, hp, hx, rfl⟩ := aaP h
 obtain ⟨rfl, hx2⟩ := Prod.mk.inj hx; obtain ⟨rfl, -⟩ := Prod.mk.inj hx2; dsimp only
 obtain ⟨⟨p1, p2⟩, q1, q2⟩ := hp
 simp only at p1 p2 q1 q2
 unfold am3
 dsimp only
 refine uC _ (aiE zb zb) ?_
 refine uC _ (aiE zb zb) ?_
 refine uC _ (axK (aaS (aaE q1 (aaX p2)) zc)) ?_
 refine uC _ (aDa (aaS (aaE p1 (aaX q2)) zc) (aaY (aaS (aaE q1 (aaX p2)) zc))) ?_
 refine uC _ (aAy (aaS (aaG (aaE p1 (aaX q2)) (aaY (aaE q1 (aaX p2)))) zc)) ?_
 rw [aLO]; rfl
set_option maxRecDepth 100000
open Go Go.Vg Go.Proofs
noncomputable section
def aIn : LTab := [(160, 7, 9217, ⟨0, (Bool) × Unit, .dat (.s 3) (Ty.bool) <| .nil, [5, 4, 2], [0], 0⟩), (160, 122, 12289, ⟨1, (Int) × Unit, .dat (.s 23) vz <| .nil, [22, 5, 4, 2], [0], 0⟩)]
def axQ (a : List UInt8) (y : List UInt8 × Bool × Unit) (j : Bool × Unit) (i : (Int) × Unit) : TT (vZ ⊕ (vF × Bool × Unit)) :=
 .ite (decide (i.1 < len y.1))
 (.need (inb i.1 (len y.1)) <| .ite (decide ((↑(UInt8.toNat (gi y.1 i.1 0)) : Int) < 48))
 (.ok (.inr ((([], false, ()), false, ()))))
 (.need (inb i.1 (len y.1)) <| .ite (decide ((↑(UInt8.toNat (gi y.1 i.1 0)) : Int) > 57))
 (.ok (.inr ((([], false, ()), false, ()))))
 (.tt <| .lt (w64 (i.1 + 1) : Int) fun z => .wT (vh z (len y.1) y.2.1 y.1 <| ua ∧ True) <| .wT ug <| .ok (.inl ((z, ()))))))
 (.need (asT Int 0 ≤ 0 ∧ 0 < len y.1) <| .ite ((↑(UInt8.toNat (gi y.1 0 0)) : Int) == 48)
 (.ite (y.2.1)
 (.ok (.inr ((([], false, ()), false, ()))))
 (.ite (decide (len y.1 > 1))
 (.ok (.inr ((([], false, ()), false, ()))))
 (.call (ahF (y.1, ())) Dd0 fun y1 =>
 .ok (.inr (((y1.1, y.2.1, ()), true, ()))))))
 (.call (ahF (y.1, ())) Dd0 fun y2 =>
 .ok (.inr (((y2.1, y.2.1, ()), true, ())))))
def aEW (a : List UInt8) (y : List UInt8 × Bool × Unit) (j : (Bool) × Unit) : TT (vF × Bool × Unit) :=
 .loop 1 (.tt <| .wT (vh (0 : Int) (len y.1) y.2.1 y.1 <| ua ∧ True) <| .wT ug <| .ok ((0, ()))) (axQ a y j)
def avJ (a : List UInt8) : TT (vF × Bool × Unit) :=
 .call (ac9 (a, #[45].toList, ())) Dd7 fun y =>
 .join 0 (ι := (Bool) × Unit) (.ite (len y.1 == 0)
 (.ok (.inr ((([], false, ()), false, ()))))
 (.ite (decide (len y.1 > 600))
 (.ok (.inr ((([], false, ()), false, ()))))
 (.tt <| .wT (vl false y.2.1 y.1 <| ua ∧ True) <| .wT ug <| .ok (.inl ((false, ())))))) (aEW a y)
def aEY : LTab := []
def apL (a : List UInt8) : TT vW :=
 .call (aiB (a, ())) Dd9 fun y =>
 .ite (!y.2.1)
 (.ok ((10, ())))
 (.ok ((0, ())))
def aM1 : LTab := []
def aKp (n : Int) : TT vU :=
 .call (au8 (n, ())) Dd2 fun y =>
 .ok ((y.1, ()))
def aEX (a : List UInt8) (b : List UInt8) : TT (List UInt8 × Int × Unit) :=
 .tt <| .tt <| .call (apH (a, b, ())) aQM fun y =>
 .ite (y.2.2.1 != 0)
 (.ok ((#[].toList, y.2.2.1, ())))
 (.triv (asT Int 0 ≤ 2 ∧ 2 < (↑4 : Int)) zd <| .call (aoK ((y.1.1, y.1.2.1, ()), (y.2.1.1, y.2.1.2.1, ()), ())) Dd5 fun y1 =>
 .call (aAt (y1.1, ())) aQh fun y2 =>
 .ok ((y2.1, y2.2.1, ())))
def aJZ : LTab := []
def awP (a : List UInt8 × List UInt8 × Unit) : TT ((vF × List Int × Unit) × Bool × Unit) :=
 .call (afL (a.1, ())) Dd6 fun y =>
 .ite (y.1 != 0)
 (.ok (((([], false, ()), [], ()), false, ())))
 (.call (afL (a.2.1, ())) Dd6 fun y1 =>
 .ite (y1.1 != 0)
 (.ok (((([], false, ()), [], ()), false, ())))
 (.call (ae9 (a.1, ())) Dd5 fun y2 =>
 .call (ae9 (a.2.1, ())) Dd5 fun y3 =>
 .call (ai6 ((y3.1.1, y3.1.2.1, ()), ())) Dd6 fun y4 =>
 .ite (decide (y4.1 < 1))
 (.ok (((([], false, ()), [], ()), false, ())))
 (.call (afU (y2.1.1, y3.1.1, ())) Dd0 fun y5 =>
 .call (adQ (y5.1, [1], ())) Dd6 fun y6 =>
 .ite (y6.1 != 0)
 (.ok (((([], false, ()), [], ()), false, ())))
 (.ok ((((y2.1.1, y2.1.2.1, ()), y3.1.1, ()), true, ()))))))
def aG9 : LTab := []
def arI (a : List UInt8 × List UInt8 × Unit) : TT vW :=
 .call (acY ((a.1, a.2.1, ()), ())) aKn fun y =>
 .ite (!y.2.1)
 (.ok ((20, ())))
 (.ok ((0, ())))
def aJ1 : LTab := []
def awR (n : List UInt8) (d : List UInt8) : TT vX :=
 .call (afL (n, ())) Dd6 fun y =>
 .ite (y.1 != 0)
 (.ok (((#[].toList, #[].toList, ()), 10, ())))
 (.call (afL (d, ())) Dd6 fun y1 =>
 .ite (y1.1 != 0)
 (.ok (((#[].toList, #[].toList, ()), 10, ())))
 (.call (ae9 (n, ())) Dd5 fun y2 =>
 .call (ae9 (d, ())) Dd5 fun y3 =>
 .call (adP (y3.1.1, ())) Dd1 fun y4 =>
 .ite (y4.1)
 (.ok (((#[].toList, #[].toList, ()), 7, ())))
 (.call (ab7 (y2.1.1, !y2.1.2.1 == y3.1.2.1, ())) Dd5 fun y5 =>
 .call (aiD (y5.1, y3.1.1, ())) Dd8 fun y6 =>
 .call (ae8 (y6.1, ())) aME fun y7 =>
 .ok (((y7.1.1, y7.1.2.1, ()), y7.2.1, ())))))
def aOa : LTab := []
def aLj (n : Int) (d : Int) : TT vX :=
 .call (asL (n, ())) Dd2 fun y =>
 .call (asL (d, ())) Dd2 fun y1 =>
 .call (amF (y.1, y1.1, ())) aME fun y2 =>
 .ok (((y2.1.1, y2.1.2.1, ()), y2.2.1, ()))
def aL9 : LTab := []
def aBx (a : List UInt8 × List UInt8 × Unit) (b : List UInt8 × List UInt8 × Unit) : TT (Int × Int × Unit) :=
 .tt <| .tt <| .call (acY ((a.1, a.2.1, ()), ())) aKn fun y =>
 .call (acY ((b.1, b.2.1, ()), ())) aKn fun y1 =>
 .ite (!y.2.1)
 (.ok ((0, 20, ())))
 (.ite (!y1.2.1)
 (.ok ((0, 20, ())))
 (.call (ajR (((y.1.1.1, y.1.1.2.1, ()), y.1.2.1, ()), ((y1.1.1.1, y1.1.1.2.1, ()), y1.1.2.1, ()), ())) Dd6 fun y2 =>
 .ok ((y2.1, 0, ()))))
def aMa : LTab := []
def aBz (a : List UInt8 × List UInt8 × Unit) (b : List UInt8 × List UInt8 × Unit) : TT vX :=
 .tt <| .tt <| .call (acY ((a.1, a.2.1, ()), ())) aKn fun y =>
 .call (acY ((b.1, b.2.1, ()), ())) aKn fun y1 =>
 .ite (!y.2.1)
 (.tt <| .tt <| .ok (((#[].toList, #[].toList, ()), 20, ())))
 (.ite (!y1.2.1)
 (.tt <| .tt <| .ok (((#[].toList, #[].toList, ()), 20, ())))
 (.call (amB (((y.1.1.1, y.1.1.2.1, ()), y.1.2.1, ()), ((y1.1.1.1, y1.1.1.2.1, ()), y1.1.2.1, ()), ())) Dd8 fun y2 =>
 .tt <| .tt <| .call (ae8 (((y2.1.1.1, y2.1.1.2.1, ()), y2.1.2.1, ()), ())) aME fun y3 =>
 .ok (((y3.1.1, y3.1.2.1, ()), y3.2.1, ()))))
def aL8 : LTab := []
def aBw (a : List UInt8 × List UInt8 × Unit) (b : List UInt8 × List UInt8 × Unit) : TT vX :=
 .tt <| .tt <| .call (acY ((a.1, a.2.1, ()), ())) aKn fun y =>
 .call (acY ((b.1, b.2.1, ()), ())) aKn fun y1 =>
 .ite (!y.2.1)
 (.tt <| .tt <| .ok (((#[].toList, #[].toList, ()), 20, ())))
 (.ite (!y1.2.1)
 (.tt <| .tt <| .ok (((#[].toList, #[].toList, ()), 20, ())))
 (.call (amA (((y.1.1.1, y.1.1.2.1, ()), y.1.2.1, ()), ((y1.1.1.1, y1.1.1.2.1, ()), y1.1.2.1, ()), ())) Dd8 fun y2 =>
 .tt <| .tt <| .call (ae8 (((y2.1.1.1, y2.1.1.2.1, ()), y2.1.2.1, ()), ())) aME fun y3 =>
 .ok (((y3.1.1, y3.1.2.1, ()), y3.2.1, ()))))
def aG7 (a : List UInt8 × List UInt8 × Unit) (b : List UInt8 × List UInt8 × Unit) : TT vX :=
 .call (acY ((a.1, a.2.1, ()), ())) aKn fun y =>
 .call (acY ((b.1, b.2.1, ()), ())) aKn fun y1 =>
 .ite (!y.2.1)
 (.ok (((#[].toList, #[].toList, ()), 20, ())))
 (.ite (!y1.2.1)
 (.ok (((#[].toList, #[].toList, ()), 20, ())))
 (.call (adP (y1.1.1.1, ())) Dd1 fun y2 =>
 .ite (y2.1)
 (.ok (((#[].toList, #[].toList, ()), 7, ())))
 (.call (aoM (((y1.1.1.1, y1.1.1.2.1, ()), y1.1.2.1, ()), ())) Dd8 fun y3 =>
 .call (amA (((y.1.1.1, y.1.1.2.1, ()), y.1.2.1, ()), y3.1, ())) Dd8 fun y4 =>
 .call (ae8 (y4.1, ())) aME fun y5 =>
 .ok (((y5.1.1, y5.1.2.1, ()), y5.2.1, ())))))
end
theorem aLJ {s t : List UInt8} {b : Bool} (hc : ac9 (s, #[45].toList, ()) = some (t, b, ())) (h : ¬ (isD t ∧ t ≠ [] ∧ t.length ≤ 600 ∧ (t.head? = some 48 → b = false ∧ t.length = 1))) : rdW s = none := by
 refine aIO fun z hz he => h ?_
 rw [← he, aAz] at hc
 injection hc with hc
 obtain ⟨rfl, h2⟩ := Prod.mk.inj hc
 obtain ⟨rfl, -⟩ := Prod.mk.inj h2
 refine ⟨apB _, ah5 _, hz, fun h0 => ?_⟩
 by_cases hn : z.natAbs = 0
 ·rw [hn, acL zc]
  exact ⟨zn zc, rfl⟩
 ·exact absurd h0 (aHv hn)
theorem aLI {s t : List UInt8} {b : Bool} (hc : ac9 (s, #[45].toList, ()) = some (t, b, ())) (h1 : isD t) (h2 : t ≠ []) (h3 : t.length ≤ 600) (h4 : t.head? = some 48 → b = false ∧ t.length = 1) : ∃ z : Int, rdW s = some z ∧ z.natAbs = num t ∧ decide (z < 0) = b := by
 have hu : t = acG (num t) := az6 h1 h2 (by
  by_cases h0 : t.head? = some 48
  ·exact Or.inr (h4 h0).2
  ·exact Or.inl h0)
 have hs : s = if b then 45 :: t else t := by
  injection hc with hc
  simp only at hc
  split at hc
  ·rename_i hp
   obtain ⟨e1, e2⟩ := Prod.mk.inj hc
   obtain ⟨rfl, -⟩ := Prod.mk.inj e2
   cases s with
   | nil => cases hp
   | cons c s =>
    have : c = 45 := by
     have h5 : ([45] : List UInt8).isPrefixOf (c :: s) = true := hp
     simp [List.isPrefixOf] at h5
     exact h5.symm
    rw [this, ← e1]; rfl
  ·obtain ⟨e1, e2⟩ := Prod.mk.inj hc
   obtain ⟨rfl, -⟩ := Prod.mk.inj e2
   rw [← e1]; rfl
 cases b
 ·refine ⟨(num t : Int), ?_, by simp, by simp⟩
  have : s = dec (num t : Int) := by rw [arV, ← hu, hs]; rfl
  rw [this, amO (show (acG (num t : Int).natAbs).length ≤ 600 by simp; rw [← hu]; exact h3)]
 ·have hn : num t ≠ 0 := by
   intro h0
   rw [h0, acL zc] at hu
   have := h4 (by rw [hu]; rfl)
   cases this.1
  refine ⟨-(num t : Int), ?_, by simp, by simp; omega⟩
  have : s = dec (-(num t : Int)) := by rw [ah4 zc, Int.natAbs_neg, yK, ← hu, hs]; rfl
  rw [this, amO (show (acG (-(num t : Int)).natAbs).length ≤ 600 by simp; rw [← hu]; exact h3)]
noncomputable def aMG (s : List UInt8) : SgT × Bool × Unit := match rdW s with | some z => (sg z, true, ()) | none => (([], false, ()), false, ())
theorem aDh (a : List UInt8) (y) (h : aiB (a, ()) = some y) : (avJ a).toO = some y := by
 have hy : y = aMG a := by injection h with h; exact h.symm
 clear h
 subst hy
 obtain ⟨t, b, hc⟩ : ∃ t b, ac9 (a, #[45].toList, ()) = some (t, b, ()) := ⟨_, _, rfl⟩
 have hnot : ¬ (isD t ∧ t ≠ [] ∧ t.length ≤ 600 ∧ (t.head? = some 48 → b = false ∧ t.length = 1)) → aMG a = (([], false, ()), false, ()) := fun h => by unfold aMG; rw [aLJ hc h]
 have hyes : isD t → t ≠ [] → t.length ≤ 600 → (t.head? = some 48 → b = false ∧ t.length = 1) → ahF (t, ()) = some (mag (num t), ()) ∧ aMG a = ((mag (num t), b, ()), true, ()) := fun h1 h2 h3 h4 => by
  obtain ⟨z, e1, e2, e3⟩ := aLI hc h1 h2 h3 h4
  refine ⟨?_, ?_⟩
  ·unfold ahF
   rw [if_pos ⟨h1, h2, by simp only; omega⟩]
  ·unfold aMG
   rw [e1]
   show ((mag z.natAbs, decide (z < 0), ()), true, ()) = _
   rw [e2, e3]
 unfold avJ
 refine uC (t, b, ()) hc ?_
 by_cases h1 : t = []
 ·rw [hnot (fun h => h.2.1 h1)]
  refine uR _ (uT (by simp [h1, len]) rfl)
 have hlen : 1 ≤ t.length := zO.2 h1
 by_cases h2 : t.length ≤ 600
 case neg =>
  rw [hnot (fun h => h2 h.2.2.1)]
  refine uR _ (uF sd (uT sd rfl))
 refine uL (false, ()) (uF sd (uF sd rfl)) ?_
 refine uO (0, ()) rfl ?_
 refine abH (fun i : Int × Unit => ∃ k : Nat, i.1 = (k : Int) ∧ k ≤ t.length ∧ isD (t.take k)) (fun i => ((t.length : Int) - i.1).toNat) (fun _ => aMG a) ?_ _ ⟨0, rfl, by omega, by simp [isD]⟩
 rintro ⟨i, u⟩ ⟨k, h3, h4, h5⟩
 simp only at h3
 subst h3
 simp only [axQ, aaU]
 rcases zx k t.length with hk | hk
 ·have e1 : t.getD k 0 = t[k] := by simp [hk]
  simp only [e1]
  by_cases c1 : t[k].toNat < 48
  ·right
   rw [hnot (fun h => by have := h.1 t[k] (xz hk); omega)]
   repeat refine za ?_
   rfl
  by_cases c2 : t[k].toNat > 57
  ·right
   rw [hnot (fun h => by have := h.1 t[k] (xz hk); omega)]
   repeat refine za ?_
   rfl
  ·left
   refine ⟨(((k + 1 : Nat) : Int), ()), ?_, ⟨k + 1, rfl, by omega, ?_⟩, by simp only; omega, ze⟩
   ·repeat refine za ?_
    simp (disch := omega) only [aaT, aaB, aaO, aa3, ab8, aaU, zl, zk, aaN, zt]
    rfl
   ·rw [yg hk, isD_append]
    refine ⟨h5, fun c hc => ?_⟩
    have := yo.1 hc
    subst this
    omega
 ·right
  have hd : isD t := by rwa [zr hk] at h5
  refine uF sd (uN ⟨by simp [asT], by exact sn⟩ ?_)
  cases ht : t with
  | nil => exact absurd ht h1
  | cons c r =>
   rw [← ht]
   have hg : gi t 0 0 = c := by rw [ht]; rfl
   simp only [hg]
   have hh : t.head? = some c := by rw [ht]; rfl
   by_cases c0 : c = 48
   ·subst c0
    refine uT (by rfl) ?_
    cases b
    ·refine uF rfl ?_
     by_cases hl : t.length = 1
     ·obtain ⟨g1, g2⟩ := hyes hd h1 h2 (fun _ => ⟨rfl, hl⟩)
      rw [g2]
      exact uF sd (uC _ g1 rfl)
     ·rw [hnot (fun h => hl (h.2.2.2 hh).2)]
      exact uT sd rfl
    ·rw [hnot (fun h => by have := (h.2.2.2 hh).1; cases this)]
     exact uT rfl rfl
   ·obtain ⟨g1, g2⟩ := hyes hd h1 h2 (fun h => by rw [hh] at h; injection h with h; exact absurd h c0)
    rw [g2]
    refine uF ?_ (uC _ g1 rfl)
    rw [beq_eq_false_iff_ne]
    intro h
    exact c0 (UInt8.toNat_inj.1 (Int.ofNat.inj h))
theorem axI {s : List UInt8} {z : Int} (h : rdW s = some z) : aiB (s, ()) = some (sg z, true, ()) := by unfold aiB; rw [h]
theorem axJ {s : List UInt8} (h : rdW s = none) : aiB (s, ()) = some (([], false, ()), false, ()) := by unfold aiB; rw [h]
theorem aAF (a : List UInt8) (y) (h : afL (a, ()) = some y) : (apL a).toO = some y := by
 unfold afL at h
 unfold apL
 cases hr : rdW a with
 | none =>
  simp only [hr] at h
  exact uC _ (axJ hr) (uT rfl h)
 | some z =>
  simp only [hr] at h
  exact uC _ (axI hr) (uF rfl h)
theorem aIo (n : Int) (y) (h : asL (n, ()) = some y) : (aKp n).toO = some y := by
 unfold asL at h
 split at h
 ·rename_i hp
  exact uC (dec n, ()) (by unfold au8; exact if_pos hp) h
 ·cases h
theorem aLu {n : Int} (h : aeW n) : asL (n, ()) = some (dec n, ()) := by unfold asL; rw [if_pos h]
theorem aAu {a b : Int} (h1 : Bd 7 a.natAbs) (h2 : Bd 7 b.natAbs) : aoK (sg a, sg b, ()) = some (sg (a * b), ()) := aaZ (enc := fun x : Int × Int => (sg x.1, sg x.2, ())) (a, b) ⟨h1, h2⟩ (fun b hb => aB9 hb)
theorem at2 {s : List UInt8} {z : Int} (h : rdW s = some z) : Bd 0 z.natAbs := aAk (ahN h).1
theorem aM2 (a b : List UInt8) (y) (h : aH2 (a, b, ()) = some y) : (aEX a b).toO = some y := by
 unfold aH2 at h
 unfold aEX
 refine uV (uV ?_)
 cases hr : rdW a with
 | none =>
  simp only [hr] at h
  refine uC (([], false, ()), ([], false, ()), 10, ()) (by unfold apH; simp only [hr]) (uT rfl h)
 | some z =>
  cases hb : rdW b with
  | none =>
   simp only [hr, hb] at h
   refine uC (([], false, ()), ([], false, ()), 10, ()) (by unfold apH; simp only [hr, hb]) (uT rfl h)
  | some w =>
   simp only [hr, hb] at h
   have b1 := at2 hr
   have b2 := at2 hb
   refine uC (sg z, sg w, 0, ()) (by unfold apH; simp only [hr, hb]) (uF rfl (uV ?_))
   refine uC _ (aAu (aaS b1 zc) (aaS b2 zc)) ?_
   refine uC _ (aH4 (aaS (aaE b1 b2) zc)) ?_
   exact h
theorem ad5 (s : List UInt8) : afL (s, ()) = some (if (rdW s).isSome then 0 else 10, ()) := rfl
theorem aHE (n : Nat) : atH n 1 = 0 ↔ n = 1 := by
 unfold atH
 split
 ·omega
 ·split <;> omega
theorem aEe (a : FxT) (y) (h : acY (a, ()) = some y) : (awP a).toO = some y := by
 obtain ⟨s, t, u⟩ := a
 have hs := aNl s t
 unfold acY at h
 dsimp only at h
 unfold awP
 dsimp only
 cases hn : rdW s with
 | none =>
  rw [hn] at hs
  have hs' : rdF (s, t, u) = none := hs
  rw [hs'] at h
  refine uC _ (ad5 s) (uT (by rw [hn]; rfl) h)
 | some n =>
  cases hd : rdW t with
  | none =>
   rw [hn, hd] at hs
   have hs' : rdF (s, t, u) = none := hs
   rw [hs'] at h
   refine uC _ (ad5 s) (uF (by rw [hn]; rfl) (uC _ (ad5 t) (uT (by rw [hd]; rfl) h)))
  | some d =>
   rw [hn, hd] at hs
   dsimp only at hs
   obtain ⟨f1, e1⟩ := ahN hn
   obtain ⟨f2, e2⟩ := ahN hd
   have b1 := at2 hn
   have b2 := at2 hd
   refine uC _ (ad5 s) (uF (by rw [hn]; rfl) (uC _ (ad5 t) (uF (by rw [hd]; rfl) ?_)))
   refine uC (sg n, ()) (by rw [e1]; exact ajY (aaS b1 zc)) ?_
   refine uC (sg d, ()) (by rw [e2]; exact ajY (aaS b2 zc)) ?_
   refine uC _ (aAy (aaS b2 zc)) ?_
   by_cases hp : 0 < d
   ·refine uF ?_ ?_
    ·rw [xK hp]; rfl
    have hg := ajX (a := n.natAbs) (b := d.natAbs) (aaS b1 zc) (aaS b2 zc)
    refine uC _ hg ?_
    have hc := aoP (a := Nat.gcd n.natAbs d.natAbs) (b := 1) (aaS (aa6 b1 b2) zc) (aaS (aaJ zc) zc)
    rw [aLY] at hc
    refine uC _ hc ?_
    by_cases hcop : n.natAbs.Coprime d.natAbs
    ·rw [dif_pos ⟨hp, hcop⟩] at hs
     have hs' : rdF (s, t, u) = some ⟨n, d.natAbs, by omega, hcop⟩ := hs
     rw [hs'] at h
     refine uF ?_ h
     have : atH (Nat.gcd n.natAbs d.natAbs) 1 = 0 := (aHE _).2 hcop
     show (atH (Nat.gcd n.natAbs d.natAbs) 1 != 0) = false
     rw [this]; rfl
    ·rw [dif_neg (fun h => hcop h.2)] at hs
     have hs' : rdF (s, t, u) = none := hs
     rw [hs'] at h
     refine uT ?_ h
     show (atH (Nat.gcd n.natAbs d.natAbs) 1 != 0) = true
     rw [wJ]
     exact fun h2 => hcop ((aHE _).1 h2)
   ·rw [dif_neg (fun h => hp h.1)] at hs
    have hs' : rdF (s, t, u) = none := hs
    rw [hs'] at h
    refine uT ?_ h
    rcases zL d 0 with h0 | h0
    ·rw [xu h0]; rfl
    ·have : d = 0 := zc
     rw [this]; rfl
theorem aa1 {s : FxT} {q : Rat} (h : rdF s = some q) : acY (s, ()) = some (rt q, true, ()) := by unfold acY; dsimp only; rw [h]
theorem aa2 {s : FxT} (h : rdF s = none) : acY (s, ()) = some ((([], false, ()), [], ()), false, ()) := by unfold acY; dsimp only; rw [h]
theorem aiH {k j : Nat} {q : Rat} (h : BdQ k q) (hk : k ≤ j) : BdQ j q := ⟨aaS h.1 hk, aaS h.2 hk⟩
theorem anV {s : FxT} {q : Rat} (h : rdF s = some q) : BdQ 0 q := by
 obtain ⟨h1, h2⟩ := (aIP h).1
 exact ⟨aAk h1, aAk h2⟩
theorem aMs {k : Nat} {p q : Rat} (h1 : BdQ k p) (h2 : BdQ k q) : BdQ (k + 2) (p + q) := by
 obtain ⟨g, h', top, t, hg, ht, hh, g0, h0, htt, e1, e2⟩ := aAp p q
 refine ⟨?_, ?_⟩
 ·rw [e1, ← ac3 htt h0]
  refine aaV _ ?_
  rw [ht]
  exact aaG (aaE h1.1 (aaX (aaV _ h2.2))) (aaE h2.1 (aaX (aaV _ h1.2)))
 ·rw [e2]
  exact aaS (aa5 (aaV _ h1.2) (aaV _ h2.2)) zc
theorem aHO {k : Nat} {p q : Rat} (h1 : BdQ k p) (h2 : BdQ k q) : BdQ (k + 2) (p * q) := by
 obtain ⟨g, h', s, t, hg, hh, g0, h0, hs, ht, e1, e2⟩ := ayZ p q
 refine ⟨?_, ?_⟩
 ·rw [e1]
  refine aaS (aaE (k := k) ?_ ?_) zc
  ·rw [← ac3 hs g0]; exact aaV _ h1.1
  ·rw [← ac3 ht h0]; exact aaV _ h2.1
 ·rw [e2]
  exact aaS (aa5 (aaV _ h1.2) (aaV _ h2.2)) zc
theorem aHP {k : Nat} {p : Rat} (h : BdQ k p) (h0 : p ≠ 0) : BdQ k p⁻¹ := by
 obtain ⟨e1, e2, e3⟩ := aGF h0
 exact ⟨by rw [e1]; exact h.2, by rw [e3]; exact h.1⟩
theorem aHa (a b : FxT) (y) (h : aaL (a, b, ()) = some y) : (aBz a b).toO = some y := by
 unfold aaL aMJ at h
 dsimp only at h
 unfold aBz
 refine uV (uV ?_)
 cases ha : rdF a with
 | none =>
  simp only [ha] at h
  cases hb : rdF b with
  | none => exact uC _ (aa2 ha) (uC _ (aa2 hb) (uT rfl (uV (uV h))))
  | some q => exact uC _ (aa2 ha) (uC _ (aa1 hb) (uT rfl (uV (uV h))))
 | some p =>
  cases hb : rdF b with
  | none =>
   simp only [ha, hb] at h
   exact uC _ (aa1 ha) (uC _ (aa2 hb) (uF rfl (uT rfl (uV (uV h)))))
  | some q =>
   simp only [ha, hb] at h
   have b1 := anV ha
   have b2 := anV hb
   refine uC _ (aa1 ha) (uC _ (aa1 hb) (uF rfl (uF rfl ?_)))
   refine uC _ (aC9 (aiH b1 zc) (aiH b2 zc)) (uV (uV ?_))
   exact uC _ (ajV (aiH (aMs b1 b2) zc)) h
theorem aG6 (a b : FxT) (y) (h : aaK (a, b, ()) = some y) : (aBw a b).toO = some y := by
 unfold aaK aMJ at h
 dsimp only at h
 unfold aBw
 refine uV (uV ?_)
 cases ha : rdF a with
 | none =>
  simp only [ha] at h
  cases hb : rdF b with
  | none => exact uC _ (aa2 ha) (uC _ (aa2 hb) (uT rfl (uV (uV h))))
  | some q => exact uC _ (aa2 ha) (uC _ (aa1 hb) (uT rfl (uV (uV h))))
 | some p =>
  cases hb : rdF b with
  | none =>
   simp only [ha, hb] at h
   exact uC _ (aa1 ha) (uC _ (aa2 hb) (uF rfl (uT rfl (uV (uV h)))))
  | some q =>
   simp only [ha, hb] at h
   have b1 := anV ha
   have b2 := anV hb
   refine uC _ (aa1 ha) (uC _ (aa1 hb) (uF rfl (uF rfl ?_)))
   refine uC _ (aC8 (aiH b1 zc) (aiH b2 zc)) (uV (uV ?_))
   exact uC _ (ajV (aiH (aHO b1 b2) zc)) h
theorem aOb (a b : FxT) (y) (h : aH3 (a, b, ()) = some y) : (aG7 a b).toO = some y := by
 unfold aH3 at h
 dsimp only at h
 unfold aG7
 cases ha : rdF a with
 | none =>
  simp only [ha] at h
  cases hb : rdF b with
  | none => exact uC _ (aa2 ha) (uC _ (aa2 hb) (uT rfl h))
  | some q => exact uC _ (aa2 ha) (uC _ (aa1 hb) (uT rfl h))
 | some p =>
  cases hb : rdF b with
  | none =>
   simp only [ha, hb] at h
   exact uC _ (aa1 ha) (uC _ (aa2 hb) (uF rfl (uT rfl h)))
  | some q =>
   simp only [ha, hb] at h
   have b1 := anV ha
   have b2 := anV hb
   refine uC _ (aa1 ha) (uC _ (aa1 hb) (uF rfl (uF rfl ?_)))
   refine uC _ (asO _) ?_
   by_cases h0 : q = 0
   ·rw [if_pos h0] at h
    exact uT (zp (by rw [h0]; rfl)) h
   ·rw [if_neg h0] at h
    have := aK6 h0
    refine uF sd ?_
    refine uC _ (aAx (aiH b2 zc) h0) ?_
    refine uC _ (aC8 (aiH b1 zc) (aiH (aHP b2 h0) zc)) ?_
    exact uC _ (ajV (aiH (aHO b1 (aHP b2 h0)) zc)) h
theorem aG8 (a b : FxT) (y) (h : ak8 (a, b, ()) = some y) : (aBx a b).toO = some y := by
 unfold ak8 at h
 dsimp only at h
 unfold aBx
 refine uV (uV ?_)
 cases ha : rdF a with
 | none =>
  simp only [ha] at h
  cases hb : rdF b with
  | none => exact uC _ (aa2 ha) (uC _ (aa2 hb) (uT rfl h))
  | some q => exact uC _ (aa2 ha) (uC _ (aa1 hb) (uT rfl h))
 | some p =>
  cases hb : rdF b with
  | none =>
   simp only [ha, hb] at h
   exact uC _ (aa1 ha) (uC _ (aa2 hb) (uF rfl (uT rfl h)))
  | some q =>
   simp only [ha, hb] at h
   have b1 := anV ha
   have b2 := anV hb
   exact uC _ (aa1 ha) (uC _ (aa1 hb) (uF rfl (uF rfl (uC _ (aEO (aiH b1 zc) (aiH b2 zc)) h))))
theorem aBy (a : FxT) (y) (h : aaC (a, ()) = some y) : (arI a).toO = some y := by
 unfold aaC at h
 dsimp only at h
 unfold arI
 cases ha : rdF a with
 | none =>
  simp only [ha] at h
  exact uC _ (aa2 ha) (uT rfl h)
 | some q =>
  simp only [ha] at h
  exact uC _ (aa1 ha) (uF rfl h)
theorem aEh (n d : List UInt8) (y) (h : amF (n, d, ()) = some y) : (awR n d).toO = some y := by
 unfold amF at h
 dsimp only at h
 unfold awR
 cases hn : rdW n with
 | none =>
  simp only [hn] at h
  exact uC _ (ad5 n) (uT (by rw [hn]; rfl) h)
 | some a =>
  cases hd : rdW d with
  | none =>
   simp only [hn, hd] at h
   exact uC _ (ad5 n) (uF (by rw [hn]; rfl) (uC _ (ad5 d) (uT (by rw [hd]; rfl) h)))
  | some b =>
   simp only [hn, hd] at h
   have b1 := at2 hn
   have b2 := at2 hd
   refine uC _ (ad5 n) (uF (by rw [hn]; rfl) (uC _ (ad5 d) (uF (by rw [hd]; rfl) ?_)))
   refine uC (sg a, ()) (by rw [(ahN hn).2]; exact ajY (aaS b1 zc)) ?_
   refine uC (sg b, ()) (by rw [(ahN hd).2]; exact ajY (aaS b2 zc)) ?_
   refine uC _ (asO _) ?_
   unfold ofQ at h
   by_cases h0 : b = 0
   ·rw [if_pos h0] at h
    exact uT sd h
   ·rw [if_neg h0] at h
    refine uF sd ?_
    obtain ⟨s, hs, hv⟩ : ∃ s : Int, s.natAbs = a.natAbs ∧ (s = 0 ∨ (!(decide (a < 0) == decide (b < 0))) = decide (s < 0)) ∧ Rat.divInt a b = mkRat s b.natAbs := by
     rcases zL b 0 with c | c
     ·refine ⟨-a, by omega, ?_, ?_⟩
      ·by_cases ha : a = 0
       ·left; omega
       ·right
        rw [zp c]
        rcases zL a 0 with c2 | c2
        ·rw [zp c2, zn zc]; rfl
        ·rw [zn zc, zp zc]; rfl
      ·rw [← Rat.neg_divInt_neg, ← xU]
       congr 1; omega
     ·refine ⟨a, rfl, ?_, ?_⟩
      ·right
       rw [zn (show ¬ b < 0 by omega)]
       cases decide (a < 0) <;> rfl
      ·rw [← xU]
       congr 1; omega
    obtain ⟨hv1, hv2⟩ := hv
    rw [hv2] at h
    refine uC (sg s, ()) (adV hs.symm hv1) ?_
    refine uC _ (aBV (by rw [hs]; exact aaS b1 zc) (aaS b2 zc) zc) ?_
    refine uC _ (ajV ?_) h
    obtain ⟨g, t, hg, g0, e0, e1, e2⟩ := ad8 s (d := b.natAbs) zc
    refine ⟨?_, ?_⟩
    ·rw [e1, ← ac3 e0 g0, hs]; exact aaS (aaV _ b1) zc
    ·rw [e2]; exact aaS (aaV _ b2) zc
theorem afH {z : Int} (h : aeW z) : Fit z := by
 unfold aeW at h
 have : (acG z.natAbs).length ≤ 20 := (adO zc).2 zc
 unfold Fit; omega
theorem aJ0 (n d : Int) (y) (h : aaH (n, d, ()) = some y) : (aLj n d).toO = some y := by
 unfold aaH at h
 split at h
 ·rename_i hp
  refine uC _ (aLu hp.1) (uC _ (aLu hp.2) ?_)
  refine uC (ofQ n d) ?_ h
  unfold amF
  simp only [amO (afH hp.1), amO (afH hp.2)]
 ·cases h
set_option maxRecDepth 100000
open Go Go.Vg Go.Proofs
noncomputable section
def aKe : LTab := []
def aC2 (n : Int) (d : Int) : TT (vH × Unit) :=
 .call (aaH (n, d, ())) aME fun y =>
 .ok (((y.1.1, y.1.2.1, ()), ()))
def aBN : LTab := []
def ar8 (n : Int) : TT (vH × Unit) :=
 .call (ajT (n, 1, ())) aQg fun y =>
 .ok (((y.1.1, y.1.2.1, ()), ()))
def aw9 : LTab := []
def ah8 (x : List UInt8 × List UInt8 × Unit) : TT (vH × Unit) :=
 .call (aeA (0, ())) aQg fun y =>
 .call (aeA (1, ())) aQg fun y1 =>
 .tt <| .tt <| .tt <| .tt <| .call (ak8 ((x.1, x.2.1, ()), (y.1.1, y.1.2.1, ()), ())) aQB fun y2 =>
 .ite (decide (y2.1 < 0))
 (.ok (((y.1.1, y.1.2.1, ()), ())))
 (.tt <| .tt <| .call (ak8 ((x.1, x.2.1, ()), (y1.1.1, y1.1.2.1, ()), ())) aQB fun y3 =>
 .ite (decide (y3.1 > 0))
 (.ok (((y1.1.1, y1.1.2.1, ()), ())))
 (.ok (((x.1, x.2.1, ()), ()))))
end
theorem arB {a b : Int} (h : Fit b) (hab : a.natAbs ≤ b.natAbs) : Fit a := by
 unfold Fit at *
 rw [adO zc] at *
 omega
theorem aG2 (q : Rat) (n : Int) : n ≤ fl q ↔ (n : Rat) ≤ q := by
 unfold fl
 rw [Rat.le_iff, wC (by have := q.den_pos; omega)]
 simp
theorem aNm (a b : Rat) : a < b ∨ a = b ∨ b < a := by grind
theorem aG3 {n : Int} {d : Nat} (hd : d ≠ 0) (h1 : Fit n) (h2 : Fit d) : alA (mkRat n d) := by
 obtain ⟨g, t, hg, g0, e0, e1, e2⟩ := ad8 n hd
 refine ⟨arB h1 ?_, arB h2 ?_⟩
 ·rw [e1, ← ac3 e0 g0]; exact we _ _
 ·rw [e2]; simp only [yK]; exact we _ _
theorem aGa {n : Int} {d : Nat} (hd : d ≠ 0) (h1 : Fit n) (h2 : Fit d) : ofQ n d = (fx (mkRat n d), 0, ()) := by
 unfold ofQ
 rw [if_neg zc, xU, aAE (aG3 hd h1 h2)]
theorem aIa {n : Int} {d : Nat} (hn : aeW n) (hd : d ≠ 0) (h2 : d ≤ 9223372036854775807) : aaH (n, (d : Int), ()) = some (fx (mkRat n d), 0, ()) := by
 have hd2 : aeW (d : Int) := ⟨by omega, by omega⟩
 unfold aaH
 rw [if_pos ⟨hn, hd2⟩]
 simp only [aGa hd (afH hn) (afH hd2)]
theorem auQ {n k : Nat} (h : n < 10 ^ k) (hk : k ≤ 600) : Fit (n : Int) := by
 show (acG n).length ≤ 600
 have h2 : (acG n).length ≤ k + 1 := acR (zR h (yh zc zc))
 rcases zC k with h0 | h0
 ·omega
 ·have := (adO h0).2 h
  omega
theorem aEv (n d : Int) (y) (h : ajT (n, d, ()) = some y) : (aC2 n d).toO = some y := by
 unfold ajT at h
 split at h
 ·rename_i hp
  exact uC (ofQ n d) (by unfold aaH; rw [if_pos hp]) h
 ·cases h
theorem aKl {n : Int} {d : Nat} (hn : aeW n) (hd : d ≠ 0) (h2 : d ≤ 9223372036854775807) : ajT (n, (d : Int), ()) = some (fx (mkRat n d), ()) := by
 have hd2 : aeW (d : Int) := ⟨by omega, by omega⟩
 unfold ajT
 rw [if_pos ⟨hn, hd2⟩]
 simp only [aGa hd (afH hn) (afH hd2)]
theorem aw8 (n : Int) (y) (h : aeA (n, ()) = some y) : (ar8 n).toO = some y := by
 unfold aeA at h
 split at h
 ·rename_i hp
  exact uC _ (aKl (d := 1) hp zc zc) h
 ·cases h
theorem asQ {n : Int} (h : aeW n) : aeA (n, ()) = some (fx (mkRat n 1), ()) := by unfold aeA; rw [if_pos h]
theorem ay0 (n : Int) : mkRat n 1 = (n : Rat) := by rw [Rat.mkRat_eq_div, show ((1 : Nat) : Rat) = 1 from rfl]; grind
theorem aCM {n : Int} (h : aeW n) : alA (mkRat n 1) := aG3 zc (afH h) (afH ⟨by omega, by omega⟩)
theorem aIb {p q : Rat} (hp : alA p) (hq : alA q) : ak8 (fx p, fx q, ()) = some (aIk p q, 0, ()) := by
 unfold ak8
 simp only [anU hp, anU hq]
theorem aCo (p q : Rat) : aIk p q < 0 ↔ p < q := by
 unfold aIk
 split
 ·simp_all
 ·split <;> simp_all
theorem aCn (p q : Rat) : aIk p q > 0 ↔ q < p := by
 unfold aIk
 split
 ·rename_i h; constructor
  ·intro h2; omega
  ·intro h2; exact absurd h2 (by grind)
 ·split
  ·rename_i h; subst h; simp
  ·rename_i h1 h2
   constructor
   ·intro _; rcases aNm p q with c | c | c
    ·exact absurd c h1
    ·exact absurd c h2
    ·exact c
   ·intro _; omega
theorem axL {q : Rat} (h : alA q) : aaM (fx q, ()) = some (fx (aAd q), ()) := aaZ (enc := fun x : Rat => (fx x, ())) q h (fun b hb => aLi (Prod.mk.inj hb).1)
theorem ar9 (x : FxT) (y) (h : aaM (x, ()) = some y) : (ah8 x).toO = some y := by
 obtain ⟨q, hp, hx, rfl⟩ := aaP h
 obtain ⟨rfl, -⟩ := Prod.mk.inj hx
 have i0 : aeW 0 := ⟨by omega, by omega⟩
 have i1 : aeW 1 := ⟨by omega, by omega⟩
 unfold ah8
 refine uC _ (asQ i0) (uC _ (asQ i1) (uV (uV (uV (uV ?_)))))
 refine uC _ (aIb hp (aCM i0)) ?_
 have e0 : mkRat 0 1 = (0 : Rat) := by rw [ay0]; rfl
 have e1 : mkRat 1 1 = (1 : Rat) := by rw [ay0]; rfl
 unfold aAd
 by_cases c : q < 0
 ·rw [if_pos c]
  refine uT (zp ((aCo _ _).2 (by rw [e0]; exact c))) ?_
  rw [e0]; rfl
 ·rw [if_neg c]
  refine uF (zn (fun h => c (by rw [← e0]; exact (aCo _ _).1 h))) (uV (uV ?_))
  refine uC _ (aIb hp (aCM i1)) ?_
  by_cases c2 : q > 1
  ·rw [if_pos c2]
   refine uT (zp ((aCn _ _).2 (by rw [e1]; exact c2))) ?_
   rw [e1]; rfl
  ·rw [if_neg c2]
   exact uF (zn (fun h => c2 (by rw [← e1]; exact (aCn _ _).1 h))) rfl
set_option maxRecDepth 100000
open Go Go.Vg Go.Proofs
noncomputable section
def aIS : LTab := [(212, 28, 4097, ⟨0, (Int) × Unit, .dat (.s 3) vz <| .nil, [2, 0], [], 0⟩)]
def ayA (d : List Int) (i : (Int) × Unit) : TT (vZ ⊕ vG) :=
 .ite (decide (i.1 > 0))
 (.need (inb (w64 (i.1 - 1)) (len d)) <| .ite (gi d (w64 (i.1 - 1)) 0 == 0)
 (.tt <| .lt (w64 (i.1 - 1) : Int) fun z => .wT (wU z <| True ∧ vj d) <| .tr <| .ok (.inl ((z, ()))))
 (.need (inc i.1 (len d)) <| .ok (.inr ((List.take (Int.toNat i.1) d, ())))))
 (.need (inc i.1 (len d)) <| .ok (.inr ((List.take (Int.toNat i.1) d, ()))))
def aCj (d : List Int) : TT vG :=
 .loop 0 (.tt <| .wT (wU (len d) <| True ∧ vj d) <| .tr <| .ok ((len d, ()))) (ayA d)
def aFs : LTab := []
def ax9 (below : Bool) (d : List Int) : TT uh :=
 .call (acX (d, ())) aBW fun y =>
 .ite (below)
 (.ok (((decide (len y.1 > 0), y.1, ()), ())))
 (.ok (((false, y.1, ()), ())))
def ayE : LTab := [(94, 60, 5122, ⟨0, Bool × (List Int) × (Int) × Unit, .appN (.s 3) 5 3 vz <| .dat (.s 0) vz <| .nil, [4, 2], [0], 1⟩)]
def aeQ (n : Int) (i : Bool × (List Int) × (Int) × Unit) : TT ((Bool × (List Int) × (Int) × Unit) ⊕ uh) :=
 .ite (i.1)
 (.ite (i.2.2.1 != 0)
 (.triv (asT Int 10000 ≠ 0) zd <| .ite (decide (Int.tmod i.2.2.1 10000 < 0))
 (.need (1 * 8 ≤ 140737488355328) <| .triv (asT Int 10000 ≠ 0) zd <| .tt <| .lt ([w64 (0 - Int.tmod i.2.2.1 10000)] : List Int) fun z => .lt (w64 (Int.tdiv i.2.2.1 10000) : Int) fun z1 => .wT (wU z1 <| (wY 5 0 1 true) ∧ (wU (decide (n < 0)) <| ua ∧ True)) <| .wT (wS (wX 3 z) <| wS vP True) <| .ok (.inl ((false, z, z1, ()))))
 (.need (1 * 8 ≤ 140737488355328) <| .triv (asT Int 10000 ≠ 0) zd <| .tt <| .lt ([Int.tmod i.2.2.1 10000] : List Int) fun z2 => .lt (w64 (Int.tdiv i.2.2.1 10000) : Int) fun z3 => .wT (wU z3 <| (wY 5 0 1 true) ∧ (wU (decide (n < 0)) <| ua ∧ True)) <| .wT (wS (wX 3 z2) <| wS vP True) <| .ok (.inl ((false, z2, z3, ())))))
 (.call (acE (decide (n < 0), [], ())) atK fun y =>
 .ok (.inr (((y.1.1, y.1.2.1, ()), ())))))
 (.ite (i.2.2.1 != 0)
 (.triv (asT Int 10000 ≠ 0) zd <| .ite (decide (Int.tmod i.2.2.1 10000 < 0))
 (.need ((List.length i.2.1 + 1) * 8 ≤ 140737488355328) <| .triv (asT Int 10000 ≠ 0) zd <| .tt <| .lt (List.take (List.length i.2.1) i.2.1 ++ [w64 (0 - Int.tmod i.2.2.1 10000)] : List Int) fun z4 => .lt (w64 (Int.tdiv i.2.2.1 10000) : Int) fun z5 => .need (((z5 : Int) = z5) ∧ (((5) = (5)) ∧ (((0) = (0)) ∧ ((List.length i.2.1 + 1 = List.length z4) ∧ ((true) = (true))))) ∧ ((decide (n < 0)) = (decide (n < 0))) ∧ (((0) = (0)) ∧ (((0) = (0)) ∧ ((true) = (true)))) ∧ True) <| .wT (wS (wX 3 z4) <| wS vP True) <| .ok (.inl ((false, z4, z5, ()))))
 (.need ((List.length i.2.1 + 1) * 8 ≤ 140737488355328) <| .triv (asT Int 10000 ≠ 0) zd <| .tt <| .lt (List.take (List.length i.2.1) i.2.1 ++ [Int.tmod i.2.2.1 10000] : List Int) fun z6 => .lt (w64 (Int.tdiv i.2.2.1 10000) : Int) fun z7 => .need (((z7 : Int) = z7) ∧ (((5) = (5)) ∧ (((0) = (0)) ∧ ((List.length i.2.1 + 1 = List.length z6) ∧ ((true) = (true))))) ∧ ((decide (n < 0)) = (decide (n < 0))) ∧ (((0) = (0)) ∧ (((0) = (0)) ∧ ((true) = (true)))) ∧ True) <| .wT (wS (wX 3 z6) <| wS vP True) <| .ok (.inl ((false, z6, z7, ())))))
 (.call (acE (decide (n < 0), List.take (List.length i.2.1) i.2.1, ())) atK fun y1 =>
 .ok (.inr (((y1.1.1, y1.1.2.1, ()), ())))))
def anW (n : Int) : TT uh :=
 .loop 0 (.tt <| .wT (wU n <| True ∧ (wU (decide (n < 0)) <| ua ∧ True)) <| .wT (wS vP True) <| .ok ((true, [], n, ()))) (aeQ n)
def aFt : LTab := []
def ap7 (n : Int) : TT vU :=
 .triv (asT Int 1000 ≠ 0) zd <| .triv (asT Int 100 ≠ 0) zd <| .triv (asT Int 10 ≠ 0) zd <| .triv (asT Int 10 ≠ 0) zd <| .triv (asT Int 10 ≠ 0) zd <| .triv (asT Int 10 ≠ 0) zd <| .ok ((List.map (fun n => UInt8.ofNat (Int.toNat n)) (List.take 4 [wu8 (w64 (48 + w64 (Int.tdiv n 1000))), wu8 (w64 (48 + Int.tmod (w64 (Int.tdiv n 100)) 10)), wu8 (w64 (48 + Int.tmod (w64 (Int.tdiv n 10)) 10)), wu8 (w64 (48 + Int.tmod n 10))]), ()))
def aFv : LTab := [(66, 58, 8192, ⟨0, (Int) × (List UInt8) × Unit, .dat (.s 4) vz <| .dat (.s 3) (Ty.str) <| .nil, [2, 1], [0], 0⟩), (66, 124, 11264, ⟨1, (Int) × Unit, .dat (.s 5) vz <| .nil, [3, 2, 1], [0], 0⟩)]
def ahP (i1 : (Int) × Unit) (i : Int × List UInt8 × Unit) (a : Bool × List Int × Unit) : TT (vZ ⊕ uf) :=
 .need (inc i1.1 (len i.2.1)) <| .ite (List.take (List.length i.2.1 - Int.toNat i1.1) (List.drop (Int.toNat i1.1) i.2.1) == #[].toList)
 (.ok (.inr (.inr ((#[48].toList, ())))))
 (.ite (a.1)
 (.need (List.length #[45].toList + List.length (List.take (List.length i.2.1 - Int.toNat i1.1) (List.drop (Int.toNat i1.1) i.2.1)) ≤ lim) <| .ok (.inr (.inr ((#[45].toList ++ List.take (List.length i.2.1 - Int.toNat i1.1) (List.drop (Int.toNat i1.1) i.2.1), ())))))
 (.ok (.inr (.inr ((List.take (List.length i.2.1 - Int.toNat i1.1) (List.drop (Int.toNat i1.1) i.2.1), ()))))))
def at4 (a : Bool × List Int × Unit) (i : Int × List UInt8 × Unit) (i1 : (Int) × Unit) : TT (vZ ⊕ uf) :=
 .ite (decide (i1.1 < len i.2.1))
 (.need (inb i1.1 (len i.2.1)) <| .ite ((↑(UInt8.toNat (gi i.2.1 i1.1 0)) : Int) == 48)
  (.tt <| .lt (w64 (i1.1 + 1) : Int) fun z3 => .wT (vl z3 i.2.1 (#[].toList : List UInt8) <| ua ∧ True) <| .wT (wS (wW 91 a.1 a.2.1) True) <| .ok (.inl ((z3, ()))))
  (ahP i1 i a))
 (ahP i1 i a)
def amT (a : Bool × List Int × Unit) (i : (Int) × (List UInt8) × Unit) : TT uf :=
 .ite (decide (i.1 ≥ 0))
 (.need (inb i.1 (len a.2.1)) <| .call (al7 (gi a.2.1 i.1 0, ())) Dd2 fun y =>
 .need (List.length i.2.1 + List.length y.1 ≤ lim) <| .tt <| .lt (w64 (i.1 - 1) : Int) fun z1 => .lt (i.2.1 ++ y.1 : List UInt8) fun z2 => .wT (vl z2 z1 (#[].toList : List UInt8) <| ua ∧ True) <| .wT (wS (wW 91 a.1 a.2.1) True) <| .ok (.inl ((z1, z2, ()))))
 (.loop 1 (.tt <| .wT (vl (0 : Int) i.2.1 (#[].toList : List UInt8) <| ua ∧ True) <| .wT (wS (wW 91 a.1 a.2.1) True) <| .ok ((0, ()))) (at4 a i))
def ap9 (a : Bool × List Int × Unit) : TT vU :=
 .loop 0 (.tt <| .lt (w64 (len a.2.1 - 1) : Int) fun z => .wT (vl (#[].toList : List UInt8) z (#[].toList : List UInt8) <| ua ∧ True) <| .wT (wS (wW 91 a.1 a.2.1) True) <| .ok ((z, #[].toList, ()))) (amT a)
def aIT : LTab := []
def aCk (a : Bool × List Int × Unit) : TT (List UInt8 × Int × Unit) :=
 .call (al8 ((a.1, a.2.1, ()), ())) Dd2 fun y =>
 .ite (a.1)
 (.ite (decide (w64 (len y.1 - 1) > 600))
 (.ok ((#[].toList, 6, ())))
 (.ok ((y.1, 0, ()))))
 (.ite (decide (len y.1 > 600))
 (.ok ((#[].toList, 6, ())))
 (.ok ((y.1, 0, ()))))
def aDy : LTab := [(121, 58, 10240, ⟨0, (Int) × Unit, .dat (.s 5) vz <| .nil, [0, 1], [], 0⟩)]
def ap5 (a : List Int) (b : List Int) (i : (Int) × Unit) : TT (vZ ⊕ vW) :=
 .ite (decide (i.1 ≥ 0))
 (.need (inb i.1 (len a)) <| .need (inb i.1 (len b)) <| .ite (gi a i.1 0 != gi b i.1 0)
 (.need (inb i.1 (len a)) <| .need (inb i.1 (len b)) <| .ok (.inr ((w64 (gi a i.1 0 - gi b i.1 0), ()))))
 (.tt <| .lt (w64 (i.1 - 1) : Int) fun z1 => .wT (wW z1 a b) <| .tr <| .ok (.inl ((z1, ())))))
 (.ok (.inr ((0, ()))))
def amQ (a : List Int) (b : List Int) : TT vW :=
 .ite (len a != len b)
 (.ok ((w64 (len a - len b), ())))
 (.loop 0 (.tt <| .lt (w64 (len a - 1) : Int) fun z => .wT (wW z a b) <| .tr <| .ok ((z, ()))) (ap5 a b))
def aIR : LTab := [(120, 122, 4098, ⟨0, (Int) × (Int) × Bool × (List Int) × Unit, .dat (.s 7) vz <| .dat (.s 6) vz <| .appN (.s 5) 4 3 vz <| .nil, [4, 0, 1], [], 1⟩)]
def adK (i : (Int) × (Int) × Bool × (List Int) × Unit) (a : List Int) (b : List Int) : TT vQ :=
 .ite (decide (i.1 < len a))
 (.need (inb i.1 (len a)) <| .ite (decide (i.1 < len b))
 (.need (inb i.1 (len b)) <| .triv (asT Int 10000 ≠ 0) zd <| .need ((List.length i.2.2.2.1 + 1) * 8 ≤ 140737488355328) <| .triv (asT Int 10000 ≠ 0) zd <| .tt <| .lt (w64 (i.1 + 1) : Int) fun z36 => .lt (w64 (Int.tdiv (w64 (w64 (i.2.1 + gi a i.1 0) + gi b i.1 0)) 10000) : Int) fun z37 => .lt (List.take (List.length i.2.2.2.1) i.2.2.2.1 ++ [Int.tmod (w64 (w64 (i.2.1 + gi a i.1 0) + gi b i.1 0)) 10000] : List Int) fun z38 => .need ((((4) = (4)) ∧ (((0) = (0)) ∧ ((List.length i.2.2.2.1 + 1 = List.length z38) ∧ ((true) = (true))))) ∧ ((z37 : Int) = z37) ∧ ((z36 : Int) = z36) ∧ True ∧ ((a) = (a)) ∧ ((b) = (b)) ∧ True) <| .wT (wS (wX 3 z38) True) <| .ok (.inl ((z36, z37, false, z38, ()))))
 (.triv (asT Int 10000 ≠ 0) zd <| .need ((List.length i.2.2.2.1 + 1) * 8 ≤ 140737488355328) <| .triv (asT Int 10000 ≠ 0) zd <| .tt <| .lt (w64 (i.1 + 1) : Int) fun z39 => .lt (w64 (Int.tdiv (w64 (i.2.1 + gi a i.1 0)) 10000) : Int) fun z40 => .lt (List.take (List.length i.2.2.2.1) i.2.2.2.1 ++ [Int.tmod (w64 (i.2.1 + gi a i.1 0)) 10000] : List Int) fun z41 => .need ((((4) = (4)) ∧ (((0) = (0)) ∧ ((List.length i.2.2.2.1 + 1 = List.length z41) ∧ ((true) = (true))))) ∧ ((z40 : Int) = z40) ∧ ((z39 : Int) = z39) ∧ True ∧ ((a) = (a)) ∧ ((b) = (b)) ∧ True) <| .wT (wS (wX 3 z41) True) <| .ok (.inl ((z39, z40, false, z41, ())))))
 (.ite (decide (i.1 < len b))
 (.need (inb i.1 (len b)) <| .triv (asT Int 10000 ≠ 0) zd <| .need ((List.length i.2.2.2.1 + 1) * 8 ≤ 140737488355328) <| .triv (asT Int 10000 ≠ 0) zd <| .tt <| .lt (w64 (i.1 + 1) : Int) fun z42 => .lt (w64 (Int.tdiv (w64 (i.2.1 + gi b i.1 0)) 10000) : Int) fun z43 => .lt (List.take (List.length i.2.2.2.1) i.2.2.2.1 ++ [Int.tmod (w64 (i.2.1 + gi b i.1 0)) 10000] : List Int) fun z44 => .need ((((4) = (4)) ∧ (((0) = (0)) ∧ ((List.length i.2.2.2.1 + 1 = List.length z44) ∧ ((true) = (true))))) ∧ ((z43 : Int) = z43) ∧ ((z42 : Int) = z42) ∧ True ∧ ((a) = (a)) ∧ ((b) = (b)) ∧ True) <| .wT (wS (wX 3 z44) True) <| .ok (.inl ((z42, z43, false, z44, ()))))
 (.triv (asT Int 10000 ≠ 0) zd <| .need ((List.length i.2.2.2.1 + 1) * 8 ≤ 140737488355328) <| .triv (asT Int 10000 ≠ 0) zd <| .tt <| .lt (w64 (i.1 + 1) : Int) fun z45 => .lt (w64 (Int.tdiv i.2.1 10000) : Int) fun z46 => .lt (List.take (List.length i.2.2.2.1) i.2.2.2.1 ++ [Int.tmod i.2.1 10000] : List Int) fun z47 => .need ((((4) = (4)) ∧ (((0) = (0)) ∧ ((List.length i.2.2.2.1 + 1 = List.length z47) ∧ ((true) = (true))))) ∧ ((z46 : Int) = z46) ∧ ((z45 : Int) = z45) ∧ True ∧ ((a) = (a)) ∧ ((b) = (b)) ∧ True) <| .wT (wS (wX 3 z47) True) <| .ok (.inl ((z45, z46, false, z47, ())))))
def adJ (i : (Int) × (Int) × Bool × (List Int) × Unit) (a : List Int) (b : List Int) : TT vQ :=
 .ite (decide (i.1 < len a))
 (.need (inb i.1 (len a)) <| .ite (decide (i.1 < len b))
 (.need (inb i.1 (len b)) <| .triv (asT Int 10000 ≠ 0) zd <| .need (1 * 8 ≤ 140737488355328) <| .triv (asT Int 10000 ≠ 0) zd <| .tt <| .lt (w64 (i.1 + 1) : Int) fun z => .lt (w64 (Int.tdiv (w64 (w64 (i.2.1 + gi a i.1 0) + gi b i.1 0)) 10000) : Int) fun z1 => .lt ([Int.tmod (w64 (w64 (i.2.1 + gi a i.1 0) + gi b i.1 0)) 10000] : List Int) fun z2 => .wT (ud ∧ (ve z1 z <| True ∧ vo a b)) <| .wT (wS (wX 3 z2) True) <| .ok (.inl ((z, z1, false, z2, ()))))
 (.triv (asT Int 10000 ≠ 0) zd <| .need (1 * 8 ≤ 140737488355328) <| .triv (asT Int 10000 ≠ 0) zd <| .tt <| .lt (w64 (i.1 + 1) : Int) fun z3 => .lt (w64 (Int.tdiv (w64 (i.2.1 + gi a i.1 0)) 10000) : Int) fun z4 => .lt ([Int.tmod (w64 (i.2.1 + gi a i.1 0)) 10000] : List Int) fun z5 => .wT (ud ∧ (ve z4 z3 <| True ∧ vo a b)) <| .wT (wS (wX 3 z5) True) <| .ok (.inl ((z3, z4, false, z5, ())))))
 (.ite (decide (i.1 < len b))
 (.need (inb i.1 (len b)) <| .triv (asT Int 10000 ≠ 0) zd <| .need (1 * 8 ≤ 140737488355328) <| .triv (asT Int 10000 ≠ 0) zd <| .tt <| .lt (w64 (i.1 + 1) : Int) fun z6 => .lt (w64 (Int.tdiv (w64 (i.2.1 + gi b i.1 0)) 10000) : Int) fun z7 => .lt ([Int.tmod (w64 (i.2.1 + gi b i.1 0)) 10000] : List Int) fun z8 => .wT (ud ∧ (ve z7 z6 <| True ∧ vo a b)) <| .wT (wS (wX 3 z8) True) <| .ok (.inl ((z6, z7, false, z8, ()))))
 (.triv (asT Int 10000 ≠ 0) zd <| .need (1 * 8 ≤ 140737488355328) <| .triv (asT Int 10000 ≠ 0) zd <| .tt <| .lt (w64 (i.1 + 1) : Int) fun z9 => .lt (w64 (Int.tdiv i.2.1 10000) : Int) fun z10 => .lt ([Int.tmod i.2.1 10000] : List Int) fun z11 => .wT (ud ∧ (ve z10 z9 <| True ∧ vo a b)) <| .wT (wS (wX 3 z11) True) <| .ok (.inl ((z9, z10, false, z11, ())))))
def aiO (a : List Int) (b : List Int) (i : (Int) × (Int) × Bool × (List Int) × Unit) : TT vQ :=
 .ite (i.2.2.1)
 (.ite (decide (i.1 < len a))
  (adJ i a b)
  (.ite (decide (i.1 < len b))
   (adJ i a b)
   (.ite (decide (i.2.1 > 0))
    (adJ i a b)
    (.ok (.inr (([], ())))))))
 (.ite (decide (i.1 < len a))
  (adK i a b)
  (.ite (decide (i.1 < len b))
   (adK i a b)
   (.ite (decide (i.2.1 > 0))
    (adK i a b)
    (.ok (.inr ((List.take (List.length i.2.2.2.1) i.2.2.2.1, ())))))))
def aCi (a : List Int) (b : List Int) : TT vG :=
 .loop 0 (.tt <| .wT (True ∧ (ve (0 : Int) (0 : Int) <| True ∧ vo a b)) <| .tr <| .ok ((0, 0, true, [], ()))) (aiO a b)
def ap8 : LTab := [(122, 122, 4098, ⟨0, (Int) × (Int) × Bool × (List Int) × Unit, .dat (.s 7) vz <| .dat (.s 6) vz <| .appN (.s 5) 4 3 vz <| .nil, [4, 0, 1], [], 1⟩)]
def ab0 (a : List Int) (b : List Int) (i : (Int) × (Int) × Bool × (List Int) × Unit) : TT vQ :=
 .ite (i.2.2.1)
 (.ite (decide (i.1 < len a))
 (.need (inb i.1 (len a)) <| .ite (decide (i.1 < len b))
 (.need (inb i.1 (len b)) <| .ite (decide (w64 (w64 (gi a i.1 0 - i.2.1) - gi b i.1 0) < 0))
 (.need (1 * 8 ≤ 140737488355328) <| .tt <| .lt (w64 (i.1 + 1) : Int) fun z => .lt ([w64 (w64 (w64 (gi a i.1 0 - i.2.1) - gi b i.1 0) + 10000)] : List Int) fun z1 => .wT (ud ∧ (ve (1 : Int) z <| True ∧ vo a b)) <| .wT (wS (wX 3 z1) True) <| .ok (.inl ((z, 1, false, z1, ()))))
 (.need (1 * 8 ≤ 140737488355328) <| .tt <| .lt (w64 (i.1 + 1) : Int) fun z2 => .lt ([w64 (w64 (gi a i.1 0 - i.2.1) - gi b i.1 0)] : List Int) fun z3 => .wT (ud ∧ (ve (0 : Int) z2 <| True ∧ vo a b)) <| .wT (wS (wX 3 z3) True) <| .ok (.inl ((z2, 0, false, z3, ())))))
 (.ite (decide (w64 (gi a i.1 0 - i.2.1) < 0))
 (.need (1 * 8 ≤ 140737488355328) <| .tt <| .lt (w64 (i.1 + 1) : Int) fun z4 => .lt ([w64 (w64 (gi a i.1 0 - i.2.1) + 10000)] : List Int) fun z5 => .wT (ud ∧ (ve (1 : Int) z4 <| True ∧ vo a b)) <| .wT (wS (wX 3 z5) True) <| .ok (.inl ((z4, 1, false, z5, ()))))
 (.need (1 * 8 ≤ 140737488355328) <| .tt <| .lt (w64 (i.1 + 1) : Int) fun z6 => .lt ([w64 (gi a i.1 0 - i.2.1)] : List Int) fun z7 => .wT (ud ∧ (ve (0 : Int) z6 <| True ∧ vo a b)) <| .wT (wS (wX 3 z7) True) <| .ok (.inl ((z6, 0, false, z7, ()))))))
 (.call (acX ([], ())) aBW fun y =>
 .ok (.inr ((y.1, ())))))
 (.ite (decide (i.1 < len a))
 (.need (inb i.1 (len a)) <| .ite (decide (i.1 < len b))
 (.need (inb i.1 (len b)) <| .ite (decide (w64 (w64 (gi a i.1 0 - i.2.1) - gi b i.1 0) < 0))
 (.need ((List.length i.2.2.2.1 + 1) * 8 ≤ 140737488355328) <| .tt <| .lt (w64 (i.1 + 1) : Int) fun z8 => .lt (List.take (List.length i.2.2.2.1) i.2.2.2.1 ++ [w64 (w64 (w64 (gi a i.1 0 - i.2.1) - gi b i.1 0) + 10000)] : List Int) fun z9 => .need ((((4) = (4)) ∧ (((0) = (0)) ∧ ((List.length i.2.2.2.1 + 1 = List.length z9) ∧ ((true) = (true))))) ∧ ((1 : Int) = 1) ∧ ((z8 : Int) = z8) ∧ True ∧ ((a) = (a)) ∧ ((b) = (b)) ∧ True) <| .wT (wS (wX 3 z9) True) <| .ok (.inl ((z8, 1, false, z9, ()))))
 (.need ((List.length i.2.2.2.1 + 1) * 8 ≤ 140737488355328) <| .tt <| .lt (w64 (i.1 + 1) : Int) fun z10 => .lt (List.take (List.length i.2.2.2.1) i.2.2.2.1 ++ [w64 (w64 (gi a i.1 0 - i.2.1) - gi b i.1 0)] : List Int) fun z11 => .need ((((4) = (4)) ∧ (((0) = (0)) ∧ ((List.length i.2.2.2.1 + 1 = List.length z11) ∧ ((true) = (true))))) ∧ ((0 : Int) = 0) ∧ ((z10 : Int) = z10) ∧ True ∧ ((a) = (a)) ∧ ((b) = (b)) ∧ True) <| .wT (wS (wX 3 z11) True) <| .ok (.inl ((z10, 0, false, z11, ())))))
 (.ite (decide (w64 (gi a i.1 0 - i.2.1) < 0))
 (.need ((List.length i.2.2.2.1 + 1) * 8 ≤ 140737488355328) <| .tt <| .lt (w64 (i.1 + 1) : Int) fun z12 => .lt (List.take (List.length i.2.2.2.1) i.2.2.2.1 ++ [w64 (w64 (gi a i.1 0 - i.2.1) + 10000)] : List Int) fun z13 => .need ((((4) = (4)) ∧ (((0) = (0)) ∧ ((List.length i.2.2.2.1 + 1 = List.length z13) ∧ ((true) = (true))))) ∧ ((1 : Int) = 1) ∧ ((z12 : Int) = z12) ∧ True ∧ ((a) = (a)) ∧ ((b) = (b)) ∧ True) <| .wT (wS (wX 3 z13) True) <| .ok (.inl ((z12, 1, false, z13, ()))))
 (.need ((List.length i.2.2.2.1 + 1) * 8 ≤ 140737488355328) <| .tt <| .lt (w64 (i.1 + 1) : Int) fun z14 => .lt (List.take (List.length i.2.2.2.1) i.2.2.2.1 ++ [w64 (gi a i.1 0 - i.2.1)] : List Int) fun z15 => .need ((((4) = (4)) ∧ (((0) = (0)) ∧ ((List.length i.2.2.2.1 + 1 = List.length z15) ∧ ((true) = (true))))) ∧ ((0 : Int) = 0) ∧ ((z14 : Int) = z14) ∧ True ∧ ((a) = (a)) ∧ ((b) = (b)) ∧ True) <| .wT (wS (wX 3 z15) True) <| .ok (.inl ((z14, 0, false, z15, ()))))))
 (.call (acX (List.take (List.length i.2.2.2.1) i.2.2.2.1, ())) aBW fun y1 =>
 .ok (.inr ((y1.1, ())))))
def aiP (a : List Int) (b : List Int) : TT vG :=
 .loop 0 (.tt <| .wT (True ∧ (ve (0 : Int) (0 : Int) <| True ∧ vo a b)) <| .tr <| .ok ((0, 0, true, [], ()))) (ab0 a b)
def ax6 : LTab := [(123, 58, 9217, ⟨0, (Int) × (List Int) × Unit, .dat (.s 6) vz <| .row 6 vz <| .nil, [5, 4, 0, 1], [6], 0⟩), (123, 14922, 15361, ⟨1, (Int) × (Int) × (List Int) × Unit, .dat (.s 8) vz <| .dat (.s 7) vz <| .row 6 vz <| .nil, [18, 17, 16, 15, 6, 5, 4, 0, 1], [6], 0⟩)]
def adS (a : List Int) (b : List Int) (i : Int × List Int × Unit) (i1 : (Int) × (Int) × (List Int) × Unit) : TT (vM ⊕ vY) :=
 .ite (decide (i1.1 < len b))
 (.need (inb (w64 (i.1 + i1.1)) (↑(Int.toNat (w64 (len a + len b))) : Int)) <| .need (inb i.1 (len a)) <| .need (inb i1.1 (len b)) <| .triv (asT Int 10000 ≠ 0) zd <| .need (inb (w64 (i.1 + i1.1)) (↑(Int.toNat (w64 (len a + len b))) : Int)) <| .triv (asT Int 10000 ≠ 0) zd <| .tt <| .lt (w64 (i1.1 + 1) : Int) fun z2 => .lt (w64 (Int.tdiv (w64 (w64 (i1.2.1 + List.getD i1.2.2.1 (0 + Int.toNat (w64 (i.1 + i1.1))) 0) + w64 (gi a i.1 0 * gi b i1.1 0))) 10000) : Int) fun z3 => .lt (List.set i1.2.2.1 (0 + Int.toNat (w64 (i.1 + i1.1))) (Int.tmod (w64 (w64 (i1.2.1 + List.getD i1.2.2.1 (0 + Int.toNat (w64 (i.1 + i1.1))) 0) + w64 (gi a i.1 0 * gi b i1.1 0))) 10000) : List Int) fun z4 => .wT (vq z3 z2 (decide (i.1 < len a)) (len a) a i.1 i.1 <| (wY 6 0 (Int.toNat (w64 (len a + len b))) true) ∧ True ∧ vo a b) <| .wT (wS (wX 3 z4) True) <| .ok (.inl ((z2, z3, z4, ()))))
 (.need (inb (w64 (i.1 + len b)) (↑(Int.toNat (w64 (len a + len b))) : Int)) <| .tt <| .lt (w64 (i.1 + 1) : Int) fun z5 => .lt (List.set i1.2.2.1 (0 + Int.toNat (w64 (i.1 + len b))) i1.2.1 : List Int) fun z6 => .wT (wU z5 <| (wY 6 0 (Int.toNat (w64 (len a + len b))) true) ∧ True ∧ vo a b) <| .wT (wS (wX 3 z6) True) <| .ok (.inr (.inl ((z5, z6, ())))))
def ahO (a : List Int) (b : List Int) (i : (Int) × (List Int) × Unit) : TT vY :=
 .ite (decide (i.1 < len a))
 (.loop 1 (.tt <| .lt (i.2.1 : List Int) fun z1 => .wT (vq (0 : Int) (0 : Int) (decide (i.1 < len a)) (len a) a i.1 i.1 <| (wY 6 0 (Int.toNat (w64 (len a + len b))) true) ∧ True ∧ vo a b) <| .wT (wS (wX 3 z1) True) <| .ok ((0, 0, z1, ()))) (adS a b i))
 (.call (acX (List.take (Int.toNat (w64 (len a + len b))) i.2.1, ())) aBW fun y =>
 .ok (.inr ((y.1, ()))))
def aeD (a : List Int) (b : List Int) : TT vG :=
 .need (0 ≤ w64 (len a + len b) ∧ w64 (len a + len b) ≤ w64 (len a + len b) ∧ w64 (len a + len b) * (↑8 : Int) ≤ 140737488355328) <| .loop 0 (.tt <| .lt (List.replicate (Int.toNat (w64 (len a + len b))) 0 : List Int) fun z => .wT (wU (0 : Int) <| (wY 6 0 (Int.toNat (w64 (len a + len b))) true) ∧ True ∧ vo a b) <| .wT (wS (wX 3 z) True) <| .ok ((0, z, ()))) (ahO a b)
def aFr : LTab := [(213, 122, 11265, ⟨0, (Int) × (Int) × (List Int) × Unit, .dat (.s 8) vz <| .dat (.s 7) vz <| .row 4 vz <| .nil, [6, 5, 4, 0, 1], [4], 0⟩)]
def amR (a : List Int) (d : Int) (i : (Int) × (Int) × (List Int) × Unit) : TT (vM ⊕ ui) :=
 .ite (decide (i.1 ≥ 0))
 (.need (inb i.1 (len a)) <| .need (d ≠ 0) <| .need (inb i.1 (↑(Int.toNat (len a)) : Int)) <| .need (d ≠ 0) <| .tt <| .lt (w64 (i.1 - 1) : Int) fun z2 => .lt (Int.tmod (w64 (w64 (i.2.1 * 10000) + gi a i.1 0)) d : Int) fun z3 => .lt (List.set i.2.2.1 (0 + Int.toNat i.1) (w64 (Int.tdiv (w64 (w64 (i.2.1 * 10000) + gi a i.1 0)) d)) : List Int) fun z4 => .wT (ve z3 z2 <| (wY 4 0 (Int.toNat (len a)) true) ∧ (wU (0 : Int) <| True ∧ vo a d)) <| .wT (wS (wX 3 z4) True) <| .ok (.inl ((z2, z3, z4, ()))))
 (.call (acX (List.take (Int.toNat (len a)) i.2.2.1, ())) aBW fun y =>
 .ok (.inr ((y.1, i.2.1, ()))))
def ap6 (a : List Int) (d : Int) : TT ui :=
 .need (0 ≤ len a ∧ len a ≤ len a ∧ len a * (↑8 : Int) ≤ 140737488355328) <| .loop 0 (.tt <| .lt (w64 (len a - 1) : Int) fun z => .lt (List.replicate (Int.toNat (len a)) 0 : List Int) fun z1 => .wT (ve (0 : Int) z <| (wY 4 0 (Int.toNat (len a)) true) ∧ (wU (0 : Int) <| True ∧ vo a d)) <| .wT (wS (wX 3 z1) True) <| .ok ((z, 0, z1, ()))) (amR a d)
end
abbrev zs : aH0 := (0, 0, 0, 0, 0, 0, ())
theorem axT {α : Type} {s t : List α} {k : Nat} (hs : k < s.length) (ht : k < t.length) (h : s.take k = t.take k) (he : s[k] = t[k]) : s.take (k + 1) = t.take (k + 1) := by
 rw [yg hs, yg ht, h, he]
theorem afC {l : List Int} (h : Dg 10000 l) (hl : l.length ≤ 1000000000000) {n : Nat} (hv : V 10000 l = n) : acX (l, ()) = some (dig n, ()) := by
 unfold acX
 rw [if_pos ⟨h, hl⟩]
 simp only [hv, zk]
theorem aDz (d : List Int) (y) (h : acX (d, ()) = some y) : (aCj d).toO = some y := by
 unfold acX at h
 split at h
 case isFalse => cases h
 case isTrue hp =>
 obtain ⟨hd, hl⟩ := hp
 dsimp only at hd hl h
 injection h with h
 subst h
 refine uO ((d.length : Int), ()) rfl ?_
 refine abH (fun i : Int × Unit => ∃ k : Nat, k ≤ d.length ∧ i = ((k : Int), ()) ∧ V 10000 (d.take k) = V 10000 d) (fun i => i.1.toNat) (fun _ => (dig (V 10000 d).toNat, ())) ?_ _ ⟨_, zi _, rfl, by rw [zt]⟩
 rintro i ⟨k, h1, rfl, h2⟩
 have hn := aaQ zc hd
 have fin : Cn (d.take k) → d.take k = dig (V 10000 d).toNat := fun hc => awX (acF hd k) hc (by rw [h2]; omega)
 unfold ayA
 rcases zC k with h0 | h0
 ·right
  subst h0
  refine uF sd (uN sd ?_)
  show some (Sum.inr (d.take (Int.toNat (0 : Nat)), ())) = _
  rw [zk, fin (by simp [Cn])]
 ·have hw : w64 ((k : Int) - 1) = ((k - 1 : Nat) : Int) := by rw [aaB (x := (k : Int) - 1) zc]; omega
  have hg : d.getD (k - 1) 0 = d[k - 1] := by simp [show k - 1 < d.length by omega]
  have ht := aiA 10000 (l := d) (i := k - 1) zc
  rw [show k - 1 + 1 = k by omega] at ht
  simp only [hw, aaU, hg]
  by_cases c : d[k - 1] = 0
  ·left
   refine ⟨(((k - 1 : Nat) : Int), ()), ?_, ⟨k - 1, by omega, rfl, ?_⟩, by dsimp only; omega, ze⟩
   ·refine uT sd (uN sd (uT (by rw [c]; rfl) ?_))
    repeat refine za ?_
    rfl
   ·rw [← h2, ht, c]; simp
  ·right
   refine uT sd (uN sd (uF (by simpa using c) (uN sd ?_)))
   show some (Sum.inr (d.take (Int.toNat (k : Int)), ())) = _
   rw [zk, fin ?_]
   unfold Cn
   rw [yB, zY, yf h1, zK, if_pos zc, zG zc]
   simpa using c
theorem aAT (b : Bool) (d : List Int) (y) (h : acE (b, d, ()) = some y) : (ax9 b d).toO = some y := by
 unfold acE at h
 split at h
 case isFalse => cases h
 case isTrue hp =>
 obtain ⟨hd, hl⟩ := hp
 dsimp only at hd hl h
 injection h with h
 subst h
 obtain ⟨n, hn⟩ := zI (aaQ zc hd)
 rw [hn, zk]
 refine uC _ (afC hd hl hn) ?_
 have e : decide (len (dig n) > 0) = decide ((n : Int) ≠ 0) := by
  refine decide_eq_decide.2 ?_
  have := dig_nil_iff (n := n)
  rw [aaN]
  constructor
  ·intro h h2
   rw [this.2 zc] at h
   simp at h
  ·intro h
   rcases zC (dig n).length with h3 | h3
   ·have := this.1 (zW.1 h3); omega
   ·omega
 cases b
 ·exact uF rfl rfl
 ·refine uT rfl ?_
  show some ((decide (len (dig n) > 0), dig n, ()), ()) = _
  rw [e]; rfl
theorem aAv {l : List Int} {b : Bool} {z : Int} (h : Dg 10000 l) (hl : l.length ≤ 1000000000000) (hv : V 10000 l = z.natAbs) (hb : z = 0 ∨ b = decide (z < 0)) : acE (b, l, ()) = some (pl z, ()) := by
 unfold acE
 rw [if_pos ⟨h, hl⟩]
 simp only [hv, zk]
 congr 2
 unfold pl
 congr 1
 by_cases h0 : z = 0
 ·subst h0; simp
 ·rw [zp (show ((z.natAbs : Int) ≠ 0) by omega), Bool.and_true]
  rcases hb with h2 | h2
  ·exact absurd h2 h0
  ·exact h2
theorem af0 {n : Nat} {b : Bool} {z : Int} (hl : (dig n).length ≤ 1000000000000) (hv : n = z.natAbs) (hb : z = 0 ∨ b = decide (z < 0)) : acE (b, dig n, ()) = some (pl z, ()) := aAv (adW n) hl (by rw [ag3, hv]) hb
theorem aH6 {n : Nat} (h : n < 10000) : al7 ((n : Int), ()) = some (atB n, ()) := aaZ (enc := fun x : Nat => ((x : Int), ())) n h (fun b hb => Int.ofNat.inj (Prod.mk.inj hb).1)
theorem aAU (n : Int) (y) (h : al7 (n, ()) = some y) : (ap7 n).toO = some y := by
 obtain ⟨k, hk, hx, rfl⟩ := aaP h
 obtain ⟨rfl, -⟩ := Prod.mk.inj hx
 have d1 : ∀ m : Nat, 0 < m → Int.tdiv (k : Int) m = ((k / m : Nat) : Int) := fun m hm => by rw [zJ zc]; simp
 have e1 := d1 1000 zc
 have e2 := d1 100 zc
 have e3 := d1 10 zc
 have m1 : ∀ j : Nat, Int.tmod (j : Int) 10 = ((j % 10 : Nat) : Int) := fun j => by rw [zM zc]; omega
 have w1 : ∀ j : Nat, j < 10000 → w64 (j : Int) = j := fun j hj => aaB zc
 have w2 : ∀ j : Nat, j < 10 → wu8 (w64 (48 + (j : Int))) = ((48 + j : Nat) : Int) := fun j hj => by rw [aaB (x := 48 + (j : Int)) zc, ab8 zc]; omega
 unfold ap7
 have f1 : Int.tdiv (k : Int) 1000 = ((k / 1000 : Nat) : Int) := e1
 have f2 : Int.tdiv (k : Int) 100 = ((k / 100 : Nat) : Int) := e2
 have f3 : Int.tdiv (k : Int) 10 = ((k / 10 : Nat) : Int) := e3
 refine uV (uV (uV (uV (uV (uV ?_)))))
 rw [aaT, f1, f2, f3, w1 (k / 1000) zc, w1 (k / 100) zc, w1 (k / 10) zc, m1, m1, m1, w2 _ zc, w2 _ zc, w2 _ zc, w2 _ zc]
 rfl
theorem anN (a b : List Int) (h1 : Dg 10000 a) (h2 : Dg 10000 b) (h3 : a.length ≤ 1000000000000) (h4 : b.length ≤ 1000000000000) : ae6 (a, b, ()) = some (aK2 a b, ()) := by unfold ae6; rw [if_pos ⟨h1, h2, h3, h4⟩]
theorem ax8 (a b : List Int) (y) (h : ae6 (a, b, ()) = some y) : (amQ a b).toO = some y := by
 unfold ae6 at h
 split at h
 case isFalse => cases h
 case isTrue hp =>
 obtain ⟨ha, hb, hl, hl2⟩ := hp
 dsimp only at ha hb hl hl2 h
 injection h with h
 subst h
 unfold amQ aK2
 by_cases c : a.length = b.length
 case neg =>
  rw [if_pos c]
  refine uT sd ?_
  rw [aaT, aaN, aaN, aaB zc]
 rw [if_neg (fun h => h c)]
 refine uF sd ?_
 refine uO ((a.length : Int) - 1, ()) ?_ ?_
 ·repeat refine za ?_
  rw [aaT, aaN, aaB zc]
 refine abH (fun i : Int × Unit => ∃ k : Nat, k ≤ a.length ∧ i = ((k : Int) - 1, ()) ∧ aIw a b a.length = aIw a b k) (fun i => (i.1 + 1).toNat) (fun _ => (aIw a b a.length, ())) ?_ _ ⟨_, zi _, rfl, rfl⟩
 rintro i ⟨k, h1, rfl, h2⟩
 unfold ap5
 dsimp only
 cases k with
 | zero =>
  right
  refine uF sd ?_
  rw [h2]; rfl
 | succ j =>
  have e6 : ((j + 1 : Nat) : Int) - 1 = (j : Int) := zc
  simp only [e6, aaU]
  have da := aa4 zc ha j
  have db := aa4 zc hb j
  by_cases c2 : a.getD j 0 = b.getD j 0
  ·left
   refine ⟨((j : Int) - 1, ()), ?_, ⟨j, by omega, rfl, ?_⟩, by dsimp only; omega, ze⟩
   ·refine uT sd (uN sd (uN sd (uF (by rw [c2]; simp) ?_)))
    repeat refine za ?_
    rw [aaT, aaB zc]
   ·rw [h2]; show (if _ then _ else _) = _; rw [if_neg (fun h => h c2)]
  ·right
   refine uT sd (uN sd (uN sd (uT (by simpa using c2) (uN sd (uN sd ?_)))))
   rw [aaT, aaB zc, h2]
   show _ = some (Sum.inr (if _ then _ else _, ()))
   rw [if_pos c2]
theorem axR {a b : List Int} (ha : Dg 10000 a) (hb : Dg 10000 b) : ∀ k, (aIw a b k < 0 ↔ V 10000 (a.take k) < V 10000 (b.take k)) ∧ (aIw a b k = 0 ↔ V 10000 (a.take k) = V 10000 (b.take k))
 | 0 => by simp [aIw]
 | k + 1 => by
  obtain ⟨i1, i2⟩ := axR ha hb k
  have ea := abB 10000 a k
  have eb := abB 10000 b k
  have la := adC zc ha k
  have lb := adC zc hb k
  have na := aaQ zc (acF ha k)
  have nb := aaQ zc (acF hb k)
  unfold aIw
  rw [ea, eb]
  by_cases c : a.getD k 0 = b.getD k 0
  ·rw [if_neg (fun h => h c), c]
   omega
  ·rw [if_pos c]
   rcases zL (a.getD k 0) (b.getD k 0) with h | h
   ·have h5 : (10000 : Int) ^ k * (a.getD k 0 + 1) ≤ 10000 ^ k * b.getD k 0 := zy zc zc
    rw [xJ] at h5
    omega
   ·have h5 : (10000 : Int) ^ k * (b.getD k 0 + 1) ≤ 10000 ^ k * a.getD k 0 := zy zc zc
    rw [xJ] at h5
    omega
theorem aCp (m n : Nat) : (aK2 (dig m) (dig n) < 0 ↔ m < n) ∧ (aK2 (dig m) (dig n) = 0 ↔ m = n) := by
 unfold aK2
 by_cases c : (dig m).length = (dig n).length
 ·rw [if_neg (fun h => h c)]
  obtain ⟨h1, h2⟩ := axR (adW m) (adW n) (dig m).length
  rw [abR _ (zi _), abR _ zc, ag3, ag3] at h1 h2
  omega
 ·rw [if_pos c]
  rcases zx (dig m).length (dig n).length with h | h
  ·have := akB h; omega
  ·have := akB (m := n) (n := m) zc; omega
theorem aIC {a b s : List Int} {k : Nat} {c x c' : Int} (h5 : s.length = k) (h7 : V 10000 s + 10000 ^ k * c = V 10000 (a.take k) + V 10000 (b.take k)) (hx : x + 10000 * c' = a.getD k 0 + b.getD k 0 + c) : V 10000 (s ++ [x]) + 10000 ^ (k + 1) * c' = V 10000 (a.take (k + 1)) + V 10000 (b.take (k + 1)) := by
 rw [ad6, axH, h5, abB, abB, yi]
 have : (10000 : Int) ^ k * (x + 10000 * c') = 10000 ^ k * (a.getD k 0 + b.getD k 0 + c) := by rw [hx]
 grind
theorem aIB {x : Int} (h : 0 ≤ x) : Int.tdiv x 10000 = x / 10000 := zJ h
theorem aIA {x : Int} (h : 0 ≤ x) : Int.tmod x 10000 = x % 10000 := zM h
theorem aDw (m o : List Int) (y) (h : apJ (m, o, ()) = some y) : (aCi m o).toO = some y := by
 obtain ⟨⟨a, b⟩, hn, hx, rfl⟩ := aaP h
 obtain ⟨rfl, hx2⟩ := Prod.mk.inj hx; obtain ⟨rfl, -⟩ := Prod.mk.inj hx2; dsimp only
 obtain ⟨la, lb⟩ := hn
 simp only at la lb
 have hda := adW a
 have hdb := adW b
 have hVa := ag3 a
 have hVb := ag3 b
 clear hx hx2 h
 have hca := aCW a
 have hcb := aCW b
 generalize dig a = A at *
 generalize dig b = B at *
 refine uO (0, 0, true, [], ()) rfl ?_
 refine abH (fun i : Int × Int × Bool × List Int × Unit => ∃ k : Nat, k ≤ A.length + B.length + 1 ∧ i.1 = (k : Int) ∧ 0 ≤ i.2.1 ∧ i.2.1 ≤ 1 ∧ i.2.2.2.1.length = k ∧ Dg 10000 i.2.2.2.1 ∧ V 10000 i.2.2.2.1 + 10000 ^ k * i.2.1 = V 10000 (A.take k) + V 10000 (B.take k) ∧ (i.2.2.1 = true → i.2.2.2.1 = []) ∧ (A.length ≤ k → B.length ≤ k → i.2.1 = 0 → Cn i.2.2.2.1) ∧ (i.2.1 = 0 ∨ k ≤ A.length ∨ k ≤ B.length)) (fun i => (((A.length + B.length + 2 : Nat) : Int) - i.1).toNat) (fun _ => (dig (a + b), ())) ?_ _ ⟨0, by omega, rfl, by simp, by simp, rfl, asR _, by simp [V], fun _ => rfl, fun _ _ _ => aoQ, Or.inl rfl⟩
 rintro ⟨i, c, f, s, u⟩ ⟨k, h1, h2, h3, h4, h5, h6, h7, h8, h9, h10⟩
 dsimp only at h2 h3 h4 h5 h6 h7 h8 h9 h10
 subst h2
 have da := aa4 zc hda k
 have db := aa4 zc hdb k
 have hS : 0 ≤ A.getD k 0 + B.getD k 0 + c := zc
 by_cases hgo : k < A.length ∨ k < B.length ∨ 0 < c
 ·left
  have e1 := yc (A.getD k 0 + B.getD k 0 + c) 10000
  refine ⟨(((k + 1 : Nat) : Int), (A.getD k 0 + B.getD k 0 + c) / 10000, false, s ++ [(A.getD k 0 + B.getD k 0 + c) % 10000], ()), ?_, ⟨k + 1, by omega, rfl, by dsimp only; omega, by dsimp only; omega, by simp; omega, aeV h6 (akI zc zc), aIC h5 h7 e1, by simp, ?_, ?_⟩, by dsimp only; omega, ze⟩
  ·have zA : ¬ k < A.length → A.getD k 0 = 0 := fun h => af9 zc 0
   have zB : ¬ k < B.length → B.getD k 0 = 0 := fun h => af9 zc 0
   have eD : ∀ x : Int, x = A.getD k 0 + B.getD k 0 + c → Int.tdiv x 10000 = (A.getD k 0 + B.getD k 0 + c) / 10000 ∧ Int.tmod x 10000 = (A.getD k 0 + B.getD k 0 + c) % 10000 := fun x hx => by rw [hx]; exact ⟨aIB hS, aIA hS⟩
   have w1 : w64 (c + A.getD k 0) = c + A.getD k 0 := aaB zc
   have w2 : w64 (c + A.getD k 0 + B.getD k 0) = c + A.getD k 0 + B.getD k 0 := aaB zc
   have w3 : w64 (c + B.getD k 0) = c + B.getD k 0 := aaB zc
   have w4 : w64 ((A.getD k 0 + B.getD k 0 + c) / 10000) = (A.getD k 0 + B.getD k 0 + c) / 10000 := aaB zc
   have w5 : w64 ((k : Int) + 1) = ((k + 1 : Nat) : Int) := by rw [aaB (x := (k : Int) + 1) zc]; omega
   cases f with
   | true =>
    obtain rfl := h8 rfl
    simp only [aiO, adJ, adK, aaU, w1, w2, w3, w5]
    by_cases cA : k < A.length <;> by_cases cB : k < B.length
    ·obtain ⟨q1, q2⟩ := eD (c + A.getD k 0 + B.getD k 0) zc
     simp only [q1, q2, w4]
     repeat refine za ?_
     rfl
    ·obtain ⟨q1, q2⟩ := eD (c + A.getD k 0) (by have := zB cB; omega)
     simp only [q1, q2, w4]
     repeat refine za ?_
     rfl
    ·obtain ⟨q1, q2⟩ := eD (c + B.getD k 0) (by have := zA cA; omega)
     simp only [q1, q2, w4]
     repeat refine za ?_
     rfl
    ·obtain ⟨q1, q2⟩ := eD c (by have := zA cA; have := zB cB; omega)
     have hc0 : 0 < c := zc
     simp only [q1, q2, w4]
     repeat refine za ?_
     rfl
   | false =>
    simp only [aiO, adJ, adK, aaU, w1, w2, w3, w5, zt]
    by_cases cA : k < A.length <;> by_cases cB : k < B.length
    ·obtain ⟨q1, q2⟩ := eD (c + A.getD k 0 + B.getD k 0) zc
     simp only [q1, q2, w4]
     repeat refine za ?_
     rfl
    ·obtain ⟨q1, q2⟩ := eD (c + A.getD k 0) (by have := zB cB; omega)
     simp only [q1, q2, w4]
     repeat refine za ?_
     rfl
    ·obtain ⟨q1, q2⟩ := eD (c + B.getD k 0) (by have := zA cA; omega)
     simp only [q1, q2, w4]
     repeat refine za ?_
     rfl
    ·obtain ⟨q1, q2⟩ := eD c (by have := zA cA; have := zB cB; omega)
     have hc0 : 0 < c := zc
     simp only [q1, q2, w4]
     repeat refine za ?_
     rfl
  ·intro g1 g2 g3
   dsimp only at g3 ⊢
   unfold Cn
   simp only [List.getLast?_concat, ne_eq, Option.some.injEq]
   intro g4
   have hz : A.getD k 0 + B.getD k 0 + c = 0 := zc
   have ca : ¬ k < A.length := by
    intro hk
    have : k = A.length - 1 := zc
    unfold Cn at hca
    rw [yB, ← this, zG hk] at hca
    rw [ahZ hk] at *
    exact hca (by congr 1; omega)
   have cb : ¬ k < B.length := by
    intro hk
    have : k = B.length - 1 := zc
    unfold Cn at hcb
    rw [yB, ← this, zG hk] at hcb
    rw [ahZ hk] at *
    exact hcb (by congr 1; omega)
   omega
  ·dsimp only
   by_cases cA : k < A.length
   ·right; left; omega
   ·by_cases cB : k < B.length
    ·right; right; omega
    ·left
     have := af9 (l := A) (k := k) zc 0
     have := af9 (l := B) (k := k) zc 0
     omega
 ·right
  have hc : c = 0 := zc
  subst hc
  rw [abR _ zc, abR _ zc, hVa, hVb] at h7
  have hs : s = dig (a + b) := awX h6 (h9 zc zc rfl) zc
  cases f with
  | true =>
   obtain rfl := h8 rfl
   unfold aiO adJ adK
   repeat refine za ?_
   rw [← hs]; rfl
  | false =>
   unfold aiO adJ adK
   repeat refine za ?_
   rw [← hs, aaT, zt]
theorem ai7 {a b : List Int} (h1 : Dg 10000 a) (h2 : Dg 10000 b) (h3 : a.length ≤ 1000000000000) (h4 : b.length ≤ a.length) (h5 : V 10000 b ≤ V 10000 a) {n : Nat} (hn : V 10000 a - V 10000 b = n) : abN (a, b, ()) = some (dig n, ()) := by
 unfold abN
 rw [if_pos ⟨h1, h2, h3, h4, h5⟩]
 simp only [hn, zk]
theorem aHp {a b s : List Int} {k : Nat} {c x c' : Int} (h5 : s.length = k) (h7 : V 10000 s = V 10000 (a.take k) - V 10000 (b.take k) + 10000 ^ k * c) (hx : x = a.getD k 0 - b.getD k 0 - c + 10000 * c') : V 10000 (s ++ [x]) = V 10000 (a.take (k + 1)) - V 10000 (b.take (k + 1)) + 10000 ^ (k + 1) * c' := by
 rw [ad6, axH, h5, abB, abB, yi, h7, hx]
 grind
theorem amS (A B : List Int) (y) (h : abN (A, B, ()) = some y) : (aiP A B).toO = some y := by
 unfold abN at h
 split at h
 case isFalse => cases h
 case isTrue hp =>
 obtain ⟨hda, hdb, la, lb, hle⟩ := hp
 dsimp only at hda hdb la lb hle h
 injection h with h
 subst h
 refine uO (0, 0, true, [], ()) rfl ?_
 refine abH (fun i : Int × Int × Bool × List Int × Unit => ∃ k : Nat, k ≤ A.length ∧ i.1 = (k : Int) ∧ 0 ≤ i.2.1 ∧ i.2.1 ≤ 1 ∧ i.2.2.2.1.length = k ∧ Dg 10000 i.2.2.2.1 ∧ V 10000 i.2.2.2.1 = V 10000 (A.take k) - V 10000 (B.take k) + 10000 ^ k * i.2.1 ∧ (i.2.2.1 = true → i.2.2.2.1 = [])) (fun i => ((A.length : Int) - i.1).toNat) (fun _ => (dig (V 10000 A - V 10000 B).toNat, ())) ?_ _ ⟨0, by omega, rfl, by simp, by simp, rfl, asR _, by simp [V], fun _ => rfl⟩
 rintro ⟨i, c, f, s, u⟩ ⟨k, h1, h2, h3, h4, h5, h6, h7, h8⟩
 dsimp only at h2 h3 h4 h5 h6 h7 h8
 subst h2
 have da := aa4 zc hda k
 have db := aa4 zc hdb k
 have w5 : w64 ((k : Int) + 1) = ((k + 1 : Nat) : Int) := by rw [aaB (x := (k : Int) + 1) zc]; omega
 have w1 : w64 (A.getD k 0 - c) = A.getD k 0 - c := aaB zc
 have w2 : w64 (A.getD k 0 - c - B.getD k 0) = A.getD k 0 - c - B.getD k 0 := aaB zc
 have w3 : w64 (A.getD k 0 - c + 10000) = A.getD k 0 - c + 10000 := aaB zc
 have w4 : w64 (A.getD k 0 - c - B.getD k 0 + 10000) = A.getD k 0 - c - B.getD k 0 + 10000 := aaB zc
 rcases zx k A.length with hk | hk
 ·left
  have fin : ∀ x c' : Int, 0 ≤ x ∧ x < 10000 → 0 ≤ c' ∧ c' ≤ 1 → x = A.getD k 0 - B.getD k 0 - c + 10000 * c' → (∃ k_1 : Nat, k_1 ≤ A.length ∧ ((k + 1 : Nat) : Int) = (k_1 : Int) ∧ 0 ≤ c' ∧ c' ≤ 1 ∧ (s ++ [x]).length = k_1 ∧ Dg 10000 (s ++ [x]) ∧ V 10000 (s ++ [x]) = V 10000 (A.take k_1) - V 10000 (B.take k_1) + 10000 ^ k_1 * c' ∧ (false = true → (s ++ [x]) = [])) ∧ ((A.length : Int) - ((k + 1 : Nat) : Int)).toNat < ((A.length : Int) - (k : Int)).toNat :=
   fun x c' hx hc he => ⟨⟨k + 1, by omega, rfl, hc.1, hc.2, by simp; omega, aeV h6 (akI hx.1 hx.2), aHp h5 h7 he, by simp⟩, by omega⟩
  have zB : ¬ k < B.length → B.getD k 0 = 0 := fun h => af9 zc 0
  by_cases cn : A.getD k 0 - c - B.getD k 0 < 0
  ·obtain ⟨g1, g2⟩ := fin (A.getD k 0 - c - B.getD k 0 + 10000) 1 zc zc zc
   refine ⟨(((k + 1 : Nat) : Int), 1, false, s ++ [A.getD k 0 - c - B.getD k 0 + 10000], ()), ?_, g1, g2, ze⟩
   cases f with
   | true =>
    obtain rfl := h8 rfl
    simp only [ab0, aaU, w1, w2, w3, w4, w5]
    by_cases cB : k < B.length
    ·repeat refine za ?_
     rfl
    ·have := zB cB
     rw [this, wz] at *
     repeat refine za ?_
     rfl
   | false =>
    simp only [ab0, aaU, w1, w2, w3, w4, w5, zt]
    by_cases cB : k < B.length
    ·repeat refine za ?_
     rfl
    ·have := zB cB
     rw [this, wz] at *
     repeat refine za ?_
     rfl
  ·obtain ⟨g1, g2⟩ := fin (A.getD k 0 - c - B.getD k 0) 0 zc zc zc
   refine ⟨(((k + 1 : Nat) : Int), 0, false, s ++ [A.getD k 0 - c - B.getD k 0], ()), ?_, g1, g2, ze⟩
   cases f with
   | true =>
    obtain rfl := h8 rfl
    simp only [ab0, aaU, w1, w2, w3, w4, w5]
    by_cases cB : k < B.length
    ·repeat refine za ?_
     rfl
    ·have := zB cB
     rw [this, wz] at *
     repeat refine za ?_
     rfl
   | false =>
    simp only [ab0, aaU, w1, w2, w3, w4, w5, zt]
    by_cases cB : k < B.length
    ·repeat refine za ?_
     rfl
    ·have := zB cB
     rw [this, wz] at *
     repeat refine za ?_
     rfl
 ·right
  have hkk : k = A.length := zc
  subst hkk
  rw [abR _ (zi _), abR _ lb] at h7
  have hlt := aEK zc h6
  rw [h5] at hlt
  have hc : c = 0 := by
   rcases zL 0 c with hc | hc
   ·have hc1 : c = 1 := zc
    subst hc1
    omega
   ·omega
  subst hc
  cases f with
  | true =>
   obtain rfl := h8 rfl
   unfold ab0
   refine uT rfl (uF sd (uC (dig (V 10000 A - V 10000 B).toNat, ()) (afC h6 zh zc) rfl))
  | false =>
   unfold ab0
   dsimp only
   rw [zt]
   refine uF rfl (uF sd (uC (dig (V 10000 A - V 10000 B).toNat, ()) (afC h6 zc zc) rfl))
end Go.Vs
