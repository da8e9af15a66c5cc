/-
  Trees of what the functions compute, and their laws. Own work; no condition.
-/
import Derived.Test.YtakjojajnblpoaaGreatDoorClL1
import Derived.Test.YtakjojajnblpoaaGreatDoorProg
set_option linter.unusedVariables false
set_option linter.unusedSimpArgs false
namespace Go.Vs
open Go Go.Vg
theorem aH5 {q : Rat} (h : acB q) : wrF q = (fx q, 0, ()) := if_pos h
theorem aDs {q : Rat} (h : ¬ acB q) : wrF q = (([], [], ()), 6, ()) := if_neg h
theorem aj5 {z : Int} (h : Fit z) : wrW z = (dec z, 0, ()) := if_pos h
theorem at7 {z : Int} (h : ¬ Fit z) : wrW z = ([], 6, ()) := if_neg h
theorem atU {z : Int} (h : Bd 8 z.natAbs) : adF (sg z, ()) = some (wrW z) := aaE (enc := fun x : Int => (sg x, ())) z h (fun b hb => arT (Prod.mk.inj hb).1)
theorem aH9 (s : SgT) (y) (h : adF (s, ()) = some y) : (ax7 s).toO = some y := by
 obtain ⟨a, hp, hx, rfl⟩ := aaC h
 obtain ⟨rfl, -⟩ := Prod.mk.inj hx
 unfold ax7
 dsimp only
 refine uC _ (aA7 hp) ?_
 by_cases hf : Fit a
 ·have hf' : (aa4 a.natAbs).length ≤ 600 := hf
  rw [aj5 hf]
  refine uF zh ?_
  have hb : Bd 0 a.natAbs := aoE hf
  by_cases h0 : a < 0
  ·refine uT zh (uC _ (aA9 hb) (uN ?_ ?_))
   ·show 1 + (aa4 a.natAbs).length ≤ lim
    unfold lim; omega
   ·rw [aiW h0]; rfl
  ·refine uF zh (uC _ (aA9 hb) ?_)
   rw [ab3 zc]; rfl
 ·have hf' : ¬ (aa4 a.natAbs).length ≤ 600 := hf
  rw [at7 hf]
  exact uT zh rfl
theorem alU {q : Rat} (h : BdQ 8 q) : af1 (rt q, ()) = some (wrF q) := aaE (enc := fun x : Rat => (rt x, ())) q h (fun b hb => aB3 (Prod.mk.inj hb).1)
theorem aGZ (x : RtT) (y) (h : af1 (x, ()) = some y) : (avC x).toO = some y := by
 obtain ⟨q, hp, hx, rfl⟩ := aaC h
 obtain ⟨rfl, -⟩ := Prod.mk.inj hx
 obtain ⟨h1, h2⟩ := hp
 unfold avC
 dsimp only
 refine uC _ (aBg h1) ?_
 by_cases hf : Fit q.num
 ·have hf' : (aa4 q.num.natAbs).length ≤ 600 := hf
  refine uF zh ?_
  refine uC _ (aBg h2) ?_
  by_cases hg : Fit q.den
  ·have hg' : (aa4 q.den).length ≤ 600 := hg
   rw [aH5 ⟨hf, hg⟩]
   refine uF zh ?_
   exact uC _ (aBh (aoE hf)) (uC _ (arL (aoE hg)) rfl)
  ·have hg' : ¬ (aa4 q.den).length ≤ 600 := hg
   rw [aDs (fun h => hg h.2)]
   exact uT zh rfl
 ·have hf' : ¬ (aa4 q.num.natAbs).length ≤ 600 := hf
  rw [aDs (fun h => hf h.1)]
  exact uT zh rfl
theorem alX {g : Nat} {t n : Int} (h : n = g * t) (g0 : g ≠ 0) : (n < 0 ↔ t < 0) ∧ (n = 0 ↔ t = 0) := by
 subst h
 rcases xn t 0 with h | h | h
 ·have := wo (show (0 : Int) < g by omega) h
  omega
 ·subst h; simp
 ·have := vC (show (0 : Int) < g by omega) h
  omega
theorem acT {g : Nat} {t n : Int} (h : n = g * t) (g0 : g ≠ 0) : n.natAbs / g = t.natAbs := by
 rw [h, yF, zK, yq _ zc]
theorem aKk {n : Int} {d : Nat} (h1 : Bd 7 n.natAbs) (h2 : Bd 7 d) (h3 : d ≠ 0) : amY (sg n, mag d, ()) = some (rt (mkRat n d), ()) := aaE (enc := fun x : Int × Nat => (sg x.1, mag x.2, ())) (n, d) ⟨h1, h2, h3⟩ (fun b hb => aIo hb)
theorem aEx (n : SgT) (d : List Int) (y) (h : amY (n, d, ()) = some y) : (aq8 n d).toO = some y := by
 obtain ⟨⟨a, b⟩, hp, hx, rfl⟩ := aaC h
 obtain ⟨rfl, hx2⟩ := Prod.mk.inj hx; obtain ⟨rfl, -⟩ := Prod.mk.inj hx2; dsimp only
 obtain ⟨l1, l2, l3⟩ := hp
 simp only at l1 l2 l3
 obtain ⟨g, t, hg, g0, hn, e1, e2⟩ := aeH a l3
 have hs := alX hn g0
 have ha := acT hn g0
 unfold aq8
 dsimp only
 have bg : Bd 7 g := by rw [hg]; repeat (first | assumption | exact aaF zg zc | exact aaH zc | refine aa0 ?_ ?_ | refine aaS _ ?_ | refine aa2 _ ?_ | refine aaG ?_ ?_ | refine aaD ?_ ?_ | refine aaV ?_ | refine aaW ?_ ?_ | refine aaZ ?_ ?_ | refine aaN ?_)
 refine uC (mag g, ()) (by rw [ap1 zd zd, hg]) ?_
 refine uC _ (acM zd zd g0) ?_
 refine uC _ (acM zd zd g0) ?_
 refine uC (sg t, ()) (ab5 ha (Or.inr (decide_eq_decide.2 hs.1))) ?_
 show some (((sg t), mag (b / g), ()), ()) = some (rt (mkRat a b), ())
 unfold rt
 rw [e1, e2]
theorem aHU {q : Rat} (h : BdQ 7 q) : ajZ (rt q, ()) = some (rt (-q), ()) := aaE (enc := fun x : Rat => (rt x, ())) q h (fun b hb => aB3 (Prod.mk.inj hb).1)
theorem aBD (x : RtT) (y) (h : ajZ (x, ()) = some y) : (awR x).toO = some y := by
 obtain ⟨q, hp, hx, rfl⟩ := aaC h
 obtain ⟨rfl, -⟩ := Prod.mk.inj hx
 exact uC _ (at3 (aaF hp.1 zc)) rfl
theorem aHV {q : Rat} (h : BdQ 7 q) (h0 : q ≠ 0) : aj0 (rt q, ()) = some (rt q⁻¹, ()) := aaE (enc := fun x : Rat => (rt x, ())) q ⟨h, h0⟩ (fun b hb => aB3 (Prod.mk.inj hb).1)
theorem aK6 {q : Rat} (h : q ≠ 0) : q.num ≠ 0 := fun h2 => h (Rat.num_eq_zero.1 h2)
theorem aGR {q : Rat} (h : q ≠ 0) : (q⁻¹).num.natAbs = q.den ∧ ((q⁻¹).num < 0 ↔ q.num < 0) ∧ (q⁻¹).den = q.num.natAbs := by
 have h1 := aK6 h
 have h2 := q.den_pos
 rw [Rat.num_inv, Rat.den_inv, if_neg h1]
 rcases zQ q.num 0 with h3 | h3
 ·rw [yH h3]; omega
 ·rw [xh zc]; omega
theorem aBE (x : RtT) (y) (h : aj0 (x, ()) = some y) : (awS x).toO = some y := by
 obtain ⟨q, hp, hx, rfl⟩ := aaC h
 obtain ⟨rfl, -⟩ := Prod.mk.inj hx
 obtain ⟨e1, e2, e3⟩ := aGR hp.2
 refine uC (sg (q⁻¹).num, ()) (ab5 e1.symm (Or.inr (decide_eq_decide.2 e2.symm))) ?_
 show some ((sg (q⁻¹).num, mag q.num.natAbs, ()), ()) = some (rt q⁻¹, ())
 unfold rt
 rw [e3]
theorem aLy {p q : Rat} (h : BdQ 3 p) (h2 : BdQ 3 q) : atO (rt p, rt q, ()) = some (rt (p + q), ()) := aaE (enc := fun x : Rat × Rat => (rt x.1, rt x.2, ())) (p, q) ⟨h, h2⟩ (fun b hb => axQ hb)
theorem aNe (x x' : RtT) (y) (h : atO (x, x', ()) = some y) : (aEq x x').toO = some y := by
 obtain ⟨⟨p, q⟩, hp, hx, rfl⟩ := aaC h
 obtain ⟨rfl, hx2⟩ := Prod.mk.inj hx; obtain ⟨rfl, -⟩ := Prod.mk.inj hx2; dsimp only
 obtain ⟨⟨p1, p2⟩, q1, q2⟩ := hp
 simp only at p1 p2 q1 q2
 obtain ⟨g, h', top, t, hg, ht, hh, g0, h0, htt, e1, e2⟩ := aHG p q
 have hs := alX htt h0
 have ha := acT htt h0
 have bg : Bd 3 g := by rw [hg]; repeat (first | assumption | exact aaF zg zc | exact aaH zc | refine aa0 ?_ ?_ | refine aaS _ ?_ | refine aa2 _ ?_ | refine aaG ?_ ?_ | refine aaD ?_ ?_ | refine aaV ?_ | refine aaW ?_ ?_ | refine aaZ ?_ ?_ | refine aaN ?_)
 have bt : Bd 5 top.natAbs := by
  rw [ht]
  refine aaG (aaD ?_ (aaN ?_)) (aaD ?_ (aaN ?_)) <;> repeat (first | assumption | exact aaF zg zc | exact aaH zc | refine aa0 ?_ ?_ | refine aaS _ ?_ | refine aa2 _ ?_ | refine aaG ?_ ?_ | refine aaD ?_ ?_ | refine aaV ?_ | refine aaW ?_ ?_ | refine aaZ ?_ ?_ | refine aaN ?_)
 have bh : Bd 5 h' := by rw [hh]; repeat (first | assumption | exact aaF zg zc | exact aaH zc | refine aa0 ?_ ?_ | refine aaS _ ?_ | refine aa2 _ ?_ | refine aaG ?_ ?_ | refine aaD ?_ ?_ | refine aaV ?_ | refine aaW ?_ ?_ | refine aaZ ?_ ?_ | refine aaN ?_)
 unfold aEq
 dsimp only
 refine uC (mag g, ()) (by rw [ap1 zd zd, hg]) ?_
 refine uC _ (acM zd zd g0) ?_
 refine uC _ (acM zd zd g0) ?_
 refine uC _ (ai8 zd zd) ?_
 refine uC _ (ai8 zd zd) ?_
 refine uC (sg top, ()) (by rw [aFb zd zd, ht]) ?_
 refine uC (mag h', ()) (by rw [ap1 zd zd, hh]) ?_
 refine uC _ (acM zd zd h0) ?_
 refine uC _ (acM zd zd h0) ?_
 refine uC (sg t, ()) (ab5 ha (Or.inr (decide_eq_decide.2 hs.1))) ?_
 refine uC _ (aiG zd zd) ?_
 show some ((sg t, mag (p.den / g * (q.den / h')), ()), ()) = some (rt (p + q), ())
 unfold rt
 rw [e1, e2]
theorem aTH {p q : Rat} (h : BdQ 3 p) (h2 : BdQ 3 q) : ax3 (rt p, rt q, ()) = some (rt (p - q), ()) := aaE (enc := fun x : Rat × Rat => (rt x.1, rt x.2, ())) (p, q) ⟨h, h2⟩ (fun b hb => axQ hb)
theorem aNa (x x' : RtT) (y) (h : ax3 (x, x', ()) = some y) : (aLb x x').toO = some y := by
 obtain ⟨⟨p, q⟩, hp, hx, rfl⟩ := aaC h
 obtain ⟨rfl, hx2⟩ := Prod.mk.inj hx; obtain ⟨rfl, -⟩ := Prod.mk.inj hx2; dsimp only
 obtain ⟨bp, bq⟩ := hp
 refine uC _ (aHU ⟨aaF bq.1 zc, aaF bq.2 zc⟩) ?_
 refine uC _ (aLy bp ⟨aaV bq.1, bq.2⟩) ?_
 rw [vv]; rfl
theorem aLx {p q : Rat} (h : BdQ 3 p) (h2 : BdQ 3 q) : atN (rt p, rt q, ()) = some (rt (p * q), ()) := aaE (enc := fun x : Rat × Rat => (rt x.1, rt x.2, ())) (p, q) ⟨h, h2⟩ (fun b hb => axQ hb)
theorem aNc (x x' : RtT) (y) (h : atN (x, x', ()) = some y) : (aEp x x').toO = some y := by
 obtain ⟨⟨p, q⟩, hp, hx, rfl⟩ := aaC h
 obtain ⟨rfl, hx2⟩ := Prod.mk.inj hx; obtain ⟨rfl, -⟩ := Prod.mk.inj hx2; dsimp only
 obtain ⟨⟨p1, p2⟩, q1, q2⟩ := hp
 simp only at p1 p2 q1 q2
 obtain ⟨g, h', s, t, hg, hh, g0, h0, hs, ht, e1, e2⟩ := aGJ p q
 have as1 := acT hs g0
 have at' := acT ht h0
 have ss := alX hs g0
 have st := alX ht h0
 have bg : Bd 3 g := by rw [hg]; repeat (first | assumption | exact aaF zg zc | exact aaH zc | refine aa0 ?_ ?_ | refine aaS _ ?_ | refine aa2 _ ?_ | refine aaG ?_ ?_ | refine aaD ?_ ?_ | refine aaV ?_ | refine aaW ?_ ?_ | refine aaZ ?_ ?_ | refine aaN ?_)
 have bh : Bd 3 h' := by rw [hh]; repeat (first | assumption | exact aaF zg zc | exact aaH zc | refine aa0 ?_ ?_ | refine aaS _ ?_ | refine aa2 _ ?_ | refine aaG ?_ ?_ | refine aaD ?_ ?_ | refine aaV ?_ | refine aaW ?_ ?_ | refine aaZ ?_ ?_ | refine aaN ?_)
 unfold aEp
 dsimp only
 refine uC (mag g, ()) (by rw [ap1 zd zd, hg]) ?_
 refine uC (mag h', ()) (by rw [ap1 zd zd, hh]) ?_
 refine uC _ (acM zd zd g0) ?_
 refine uC _ (acM zd zd h0) ?_
 refine uC _ (acM zd zd h0) ?_
 refine uC _ (acM zd zd g0) ?_
 refine uC _ (aiG zd zd) ?_
 refine uC (sg (s * t), ()) (ab5 (n := p.num.natAbs / g * (q.num.natAbs / h')) (by rw [as1, at', yF]) ?_) ?_
 ·by_cases hz : s * t = 0
  ·exact Or.inl hz
  ·right
   show (!(decide (p.num < 0) == decide (q.num < 0))) = decide (s * t < 0)
   have z1 : s ≠ 0 := fun h => hz (by rw [h]; simp)
   have z2 : t ≠ 0 := fun h => hz (by rw [h]; simp)
   rcases zQ s 0 with c1 | c1 <;> rcases zQ t 0 with c2 | c2
   ·have := wu c1 c2
    rw [zo (ss.1.2 c1), zo (st.1.2 c2), zn zc]; rfl
   ·have := wj c1 (show 0 < t by omega)
    rw [zo (ss.1.2 c1), zn zc, zo zc]; rfl
   ·have := wo (show 0 < s by omega) c2
    rw [zn zc, zo (st.1.2 c2), zo zc]; rfl
   ·have := vC (show 0 < s by omega) (show 0 < t by omega)
    rw [zn zc, zn zc, zn zc]; rfl
 refine uC _ (aiG zd zd) ?_
 show some ((sg (s * t), mag (p.den / h' * (q.den / g)), ()), ()) = some (rt (p * q), ())
 unfold rt
 rw [e1, e2]
theorem aN8 {p q : Rat} (h : BdQ 3 p) (h2 : BdQ 3 q) : apY (rt p, rt q, ()) = some (axD p q, ()) := aaE (enc := fun x : Rat × Rat => (rt x.1, rt x.2, ())) (p, q) ⟨h, h2⟩ (fun b hb => axQ hb)
theorem aG0 (x x' : RtT) (y) (h : apY (x, x', ()) = some y) : (avD x x').toO = some y := by
 obtain ⟨⟨p, q⟩, hp, hx, rfl⟩ := aaC h
 obtain ⟨rfl, hx2⟩ := Prod.mk.inj hx; obtain ⟨rfl, -⟩ := Prod.mk.inj hx2; dsimp only
 obtain ⟨⟨p1, p2⟩, q1, q2⟩ := hp
 simp only at p1 p2 q1 q2
 unfold avD
 dsimp only
 refine uC _ (ai8 zd zd) ?_
 refine uC _ (ai8 zd zd) ?_
 refine uC _ (at3 (aaF (aaD q1 (aaN p2)) zc)) ?_
 refine uC _ (aFb (aaF (aaD p1 (aaN q2)) zc) (aaV (aaF (aaD q1 (aaN p2)) zc))) ?_
 refine uC _ (aBi (aaF (aaG (aaD p1 (aaN q2)) (aaV (aaD q1 (aaN p2)))) zc)) ?_
 rw [aPv]; rfl
theorem aRR {q : Rat} {s : Nat} (h : BdQ 1 q) (h2 : Bd 1 s) : atM (rt q, mag s, ()) = some (sg (asC q s), ()) := aaE (enc := fun x : Rat × Nat => (rt x.1, mag x.2, ())) (q, s) ⟨h, h2⟩ (fun b hb => aUg hb)
theorem aJx (x : RtT) (sc : List Int) (y) (h : atM (x, sc, ()) = some y) : (az5 x sc).toO = some y := by
 obtain ⟨⟨q, s⟩, hp, hx, rfl⟩ := aaC h
 obtain ⟨rfl, hx2⟩ := Prod.mk.inj hx; obtain ⟨rfl, -⟩ := Prod.mk.inj hx2; dsimp only
 obtain ⟨⟨p1, p2⟩, bs⟩ := hp
 simp only at p1 p2 bs
 have b2 : Bd 1 2 := aaF (aaH zc) zc
 unfold az5
 dsimp only
 have t1 := aiG (a := s) (b := 2) zd zd
 have t2 := aiG (a := q.den) (b := 2) zd zd
 rw [aUG] at t1 t2
 refine uC _ t1 ?_
 refine uC _ (ai8 zd zd) ?_
 refine uC (sg (q.den : Int), ()) (ab5 (w := (q.den : Int)) zi (Or.inr (by rw [zn zc]))) ?_
 refine uC _ (aFb (aaF (aaD (aaF p1 (show 1 ≤ 2 by omega)) (aaN (aaW bs b2))) zc) zd) ?_
 refine uC _ t2 ?_
 refine uC _ (aDp zd zd (xp q.den_nz zc)) ?_
 rw [aP7]; rfl
set_option maxRecDepth 100000
open Go Go.Vg Go.Proofs
noncomputable section
def aRX : LTab := [(172, 7, 9217, ⟨0, (Bool) × Unit, .dat (.s 3) se <| .nil, [5, 4, 2], [0], 0⟩), (172, 122, 12289, ⟨1, (Int) × Unit, .dat (.s 23) uq <| .nil, [22, 5, 4, 2], [0], 0⟩)]
def aFo (a : List UInt8) (y : List UInt8 × Bool × Unit) (j : Bool × Unit) (i : (Int) × Unit) : TT (uY ⊕ (uA × Bool × Unit)) :=
 .ite (decide (i.1 < len y.1))
 (.need (inb i.1 (len y.1)) <| .ite (decide ((↑(UInt8.toNat (gi y.1 i.1 0)) : Int) < 48))
 (.ok (.inr ((([], false, ()), false, ()))))
 (.need (inb i.1 (len y.1)) <| .ite (decide ((↑(UInt8.toNat (gi y.1 i.1 0)) : Int) > 57))
 (.ok (.inr ((([], false, ()), false, ()))))
 (.tt <| .lt (w64 (i.1 + 1) : Int) fun z => .vW (ue z (len y.1) y.2.1 y.1 <| ux ∧ True) <| .vW tU <| .ok (.inl ((z, ()))))))
 (.need (asT Int 0 ≤ 0 ∧ 0 < len y.1) <| .ite ((↑(UInt8.toNat (gi y.1 0 0)) : Int) == 48)
 (.ite (y.2.1)
 (.ok (.inr ((([], false, ()), false, ()))))
 (.ite (decide (len y.1 > 1))
 (.ok (.inr ((([], false, ()), false, ()))))
 (.call (ak5 (y.1, ())) Dd0 fun y1 =>
 .ok (.inr (((y1.1, y.2.1, ()), true, ()))))))
 (.call (ak5 (y.1, ())) Dd0 fun y2 =>
 .ok (.inr (((y2.1, y.2.1, ()), true, ())))))
def aOo (a : List UInt8) (y : List UInt8 × Bool × Unit) (j : (Bool) × Unit) : TT (uA × Bool × Unit) :=
 .loop 1 (.tt <| .vW (ue (0 : Int) (len y.1) y.2.1 y.1 <| ux ∧ True) <| .vW tU <| .ok ((0, ()))) (aFo a y j)
def aDu (a : List UInt8) : TT (uA × Bool × Unit) :=
 .call (ab8 (a, #[45].toList, ())) Dd7 fun y =>
 .join 0 (ι := (Bool) × Unit) (.ite (len y.1 == 0)
 (.ok (.inr ((([], false, ()), false, ()))))
 (.ite (decide (len y.1 > 600))
 (.ok (.inr ((([], false, ()), false, ()))))
 (.tt <| .vW (uh false y.2.1 y.1 <| ux ∧ True) <| .vW tU <| .ok (.inl ((false, ())))))) (aOo a y)
def aRY : LTab := []
def aDv (a : List UInt8) (b : List UInt8) : TT (uA × uA × Int × Unit) :=
 .call (agH (a, ())) Dd9 fun y =>
 .call (agH (b, ())) Dd9 fun y1 =>
 .ite (!y.2.1)
 (.ok ((([], false, ()), ([], false, ()), 10, ())))
 (.ite (!y1.2.1)
 (.ok ((([], false, ()), ([], false, ()), 10, ())))
 (.ok (((y.1.1, y.1.2.1, ()), (y1.1.1, y1.1.2.1, ()), 0, ()))))
def aOt : LTab := []
def ax8 (a : List UInt8) : TT uS :=
 .call (agH (a, ())) Dd9 fun y =>
 .ite (!y.2.1)
 (.ok ((10, ())))
 (.ok ((0, ())))
def aVd : LTab := []
def aTK (n : Int) : TT tl :=
 .call (aDf (n, ())) Dd2 fun y =>
 .ok ((y.1, ()))
def aT5 : LTab := []
def aIc (a : List UInt8) (b : List UInt8) : TT tz :=
 .tt <| .tt <| .call (agI (a, b, ())) aWs fun y =>
 .ite (y.2.2.1 != 0)
 (.ok ((#[].toList, y.2.2.1, ())))
 (.triv (asT Int 0 ≤ 2 ∧ 2 < (↑4 : Int)) zf <| .call (ajT ((y.1.1, y.1.2.1, ()), (y.2.1.1, y.2.1.2.1, ()), ())) Dd5 fun y1 =>
 .call (adF (y1.1, ())) aKm fun y2 =>
 .ok ((y2.1, y2.2.1, ())))
def aT7 : LTab := []
def at8 (y2 : (List (Int)) × (List (Int)) × Unit) (y : ((List (Int)) × (Bool) × Unit) × ((List (Int)) × (Bool) × Unit) × (Int) × Unit) : TT (List UInt8 × List UInt8 × Int × Unit) :=
 .call (ajU (y2.1, !y.1.2.1 == y.2.1.2.1, ())) Dd5 fun y10 =>
 .call (adF (y10.1, ())) aKm fun y11 =>
 .ite (y11.2.1 != 0)
 (.ok ((#[].toList, #[].toList, y11.2.1, ())))
 (.call (ajU (y2.2.1, false, ())) Dd5 fun y12 =>
 .call (adF (y12.1, ())) aKm fun y13 =>
 .ite (y13.2.1 != 0)
 (.ok ((#[].toList, #[].toList, y13.2.1, ())))
 (.ok ((y11.1, y13.1, 0, ()))))
def aIe (a : List UInt8) (b : List UInt8) : TT (List UInt8 × List UInt8 × Int × Unit) :=
 .call (agI (a, b, ())) aWs fun y =>
 .ite (y.2.2.1 != 0)
 (.ok ((#[].toList, #[].toList, y.2.2.1, ())))
 (.call (aiZ (y.2.1.1, ())) Dd1 fun y1 =>
  .ite (y1.1)
  (.ok ((#[].toList, #[].toList, 7, ())))
  (.call (amT (y.1.1, y.2.1.1, ())) Dd4 fun y2 =>
   .ite (y.1.2.1)
   (.call (aiZ (y2.2.1, ())) Dd1 fun y3 =>
    .ite (!y3.1)
    (.call (as9 (y2.1, [1], ())) Dd0 fun y4 =>
     .call (avX (y.2.1.1, y2.2.1, ())) Dd0 fun y5 =>
     .call (ajU (y4.1, !y.1.2.1 == y.2.1.2.1, ())) Dd5 fun y6 =>
     .call (adF (y6.1, ())) aKm fun y7 =>
     .ite (y7.2.1 != 0)
     (.ok ((#[].toList, #[].toList, y7.2.1, ())))
     (.call (ajU (y5.1, false, ())) Dd5 fun y8 =>
      .call (adF (y8.1, ())) aKm fun y9 =>
      .ite (y9.2.1 != 0)
      (.ok ((#[].toList, #[].toList, y9.2.1, ())))
      (.ok ((y7.1, y9.1, 0, ())))))
    (at8 y2 y))
   (at8 y2 y)))
def aT4 : LTab := []
def aIb (a : List UInt8) (n : Int) : TT tz :=
 .call (agH (a, ())) Dd9 fun y =>
 .ite (!y.2.1)
 (.ok ((#[].toList, 10, ())))
 (.ite (decide (n < 0))
 (.ok ((#[].toList, 2, ())))
 (.ite (decide (n > 40))
 (.ok ((#[].toList, 2, ())))
 (.call (ak4 (y.1.1, n, ())) Dd0 fun y1 =>
 .ite (y.1.2.1)
 (.triv (asT Int 2 ≠ 0) zf <| .call (ajU (y1.1, Int.tmod n 2 == 1, ())) Dd5 fun y2 =>
 .call (adF (y2.1, ())) aKm fun y3 =>
 .ok ((y3.1, y3.2.1, ())))
 (.call (ajU (y1.1, false, ())) Dd5 fun y4 =>
 .call (adF (y4.1, ())) aKm fun y5 =>
 .ok ((y5.1, y5.2.1, ()))))))
def aR0 : LTab := []
def aDx (a : List UInt8) (k : Int) : TT tz :=
 .call (agH (a, ())) Dd9 fun y =>
 .ite (!y.2.1)
 (.ok ((#[].toList, 10, ())))
 (.ite (decide (k < 1))
 (.ok ((#[].toList, 2, ())))
 (.ite (decide (k > 12))
 (.ok ((#[].toList, 2, ())))
 (.ite (y.1.2.1)
 (.ok ((#[].toList, 2, ())))
 (.call (as8 (y.1.1, k, ())) Dd0 fun y1 =>
 .call (ajU (y1.1, false, ())) Dd5 fun y2 =>
 .call (adF (y2.1, ())) aKm fun y3 =>
 .ok ((y3.1, y3.2.1, ()))))))
def aIa : LTab := [(281, 122, 10241, ⟨0, (Int) × (Int) × Unit, .dat (.s 11) uq <| .dat (.s 4) uy <| .nil, [10, 3, 2, 0], [4], 0⟩)]
def awB (n : Int) (i : (Int) × (Int) × Unit) : TT (uQ ⊕ uG) :=
 .ite (decide (i.1 < Int.tmod n 9))
 (.tt <| .lt (w64 (i.1 + 1) : Int) fun z => .lt (aeU (i.2.1 * 10) : Int) fun z1 => .vW (uh z1 z (Int.tmod n 9) <| (ub 4 0 (Int.toNat (w64 (w64 (Int.tdiv n 9) + 1))) true) ∧ True ∧ uf n) <| .vW (vV (ua 189 (List.replicate (Int.toNat (w64 (w64 (Int.tdiv n 9) + 1))) 0 : List Int)) True) <| .ok (.inl ((z, z1, ()))))
 (.triv (asT Int 9 ≠ 0) zf <| .need (inb (w64 (Int.tdiv n 9)) (↑(Int.toNat (w64 (w64 (Int.tdiv n 9) + 1))) : Int)) <| .ok (.inr ((List.take (Int.toNat (w64 (w64 (Int.tdiv n 9) + 1))) (List.set (List.replicate (Int.toNat (w64 (w64 (Int.tdiv n 9) + 1))) 0) (0 + Int.toNat (w64 (Int.tdiv n 9))) i.2.1), ()))))
def aqH (n : Int) : TT uG :=
 .triv (asT Int 9 ≠ 0) zf <| .need (0 ≤ w64 (w64 (Int.tdiv n 9) + 1) ∧ w64 (w64 (Int.tdiv n 9) + 1) ≤ w64 (w64 (Int.tdiv n 9) + 1) ∧ w64 (w64 (Int.tdiv n 9) + 1) * (↑4 : Int) ≤ 140737488355328) <| .triv (asT Int 9 ≠ 0) zf <| .loop 0 (.tt <| .vW (uh (1 : Int) (0 : Int) (Int.tmod n 9) <| (ub 4 0 (Int.toNat (w64 (w64 (Int.tdiv n 9) + 1))) true) ∧ True ∧ uf n) <| .vW (vV (ua 189 (List.replicate (Int.toNat (w64 (w64 (Int.tdiv n 9) + 1))) 0 : List Int)) True) <| .ok ((0, 1, ()))) (awB n)
def aLJ : LTab := [(242, 122, 8193, ⟨0, (Int) × (List Int) × Unit, .dat (.s 11) uq <| .dat (.s 5) tj <| .nil, [10, 6, 4], [], 0⟩)]
def ax6 (m : List Int) (n : Int) (i : (Int) × (List Int) × Unit) : TT tx :=
 .ite (decide (i.1 < n))
 (.call (ak3 (m, i.2.1, ())) Dd0 fun y =>
 .tt <| .lt (w64 (i.1 + 1) : Int) fun z1 => .vW (uh y.1 z1 n <| (vX (257 : FuncId) <| (uf m) ∧ True) ∧ True ∧ True) <| .tr <| .ok (.inl ((z1, y.1, ()))))
 (.ok (.inr ((i.2.1, ()))))
def aBT (m : List Int) (n : Int) : TT uG :=
 .loop 0 (.tt <| .lt ([1] : List Int) fun z => .vW (uh z (0 : Int) n <| (vX (257 : FuncId) <| (uf m) ∧ True) ∧ True ∧ True) <| .tr <| .ok ((0, z, ()))) (ax6 m n)
def aOl : LTab := [(270, 30, 10241, ⟨0, (List Int) × Unit, .dat (.s 5) tj <| .nil, [0, 1], [], 0⟩)]
def akJ (m : List Int) (k : Int) (y : Bool × Unit) (y1 : Int × Unit) (y2 : List Int × Unit) (i : (List Int) × Unit) : TT (tW ⊕ uG) :=
 .call (ak4 (i.1, w64 (k - 1), ())) Dd0 fun y3 =>
 .call (amT (m, y3.1, ())) Dd4 fun y4 =>
 .call (ah4 (abZ (w64 (k - 1)), ())) Dd0 fun y5 =>
 .call (ak3 (i.1, y5.1, ())) Dd0 fun y6 =>
 .call (as9 (y6.1, y4.1, ())) Dd0 fun y7 =>
 .call (avW (y7.1, aeU k, ())) aWh fun y8 =>
 .call (aoL (y8.1, i.1, ())) Dd6 fun y9 =>
 .ite (decide (y9.1 ≥ 0))
 (.ok (.inr ((i.1, ()))))
 (.tt <| .vW (vZ y8.1 m k) <| .tr <| .ok (.inl ((y8.1, ()))))
def aFl (m : List Int) (k : Int) : TT uG :=
 .call (aiZ (m, ())) Dd1 fun y =>
 .ite (y.1)
 (.ok (([], ())))
 (.call (amS (m, ())) Dd6 fun y1 =>
 .need (k ≠ 0) <| .call (amV (w64 (w64 (Int.tdiv y1.1 k) + 1), ())) Dd0 fun y2 =>
 .loop 0 (.tt <| .vW (vZ y2.1 m k) <| .tr <| .ok ((y2.1, ()))) (akJ m k y y1 y2))
def aTi : LTab := []
def aEy (a : List UInt8 × List UInt8 × Unit) : TT ((uA × List Int × Unit) × Bool × Unit) :=
 .call (agJ (a.1, ())) Dd6 fun y =>
 .ite (y.1 != 0)
 (.ok (((([], false, ()), [], ()), false, ())))
 (.call (agJ (a.2.1, ())) Dd6 fun y1 =>
 .ite (y1.1 != 0)
 (.ok (((([], false, ()), [], ()), false, ())))
 (.call (ag3 (a.1, ())) Dd5 fun y2 =>
 .call (ag3 (a.2.1, ())) Dd5 fun y3 =>
 .call (alJ ((y3.1.1, y3.1.2.1, ()), ())) Dd6 fun y4 =>
 .ite (decide (y4.1 < 1))
 (.ok (((([], false, ()), [], ()), false, ())))
 (.call (ah6 (y2.1.1, y3.1.1, ())) Dd0 fun y5 =>
 .call (aeM (y5.1, [1], ())) Dd6 fun y6 =>
 .ite (y6.1 != 0)
 (.ok (((([], false, ()), [], ()), false, ())))
 (.ok ((((y2.1.1, y2.1.2.1, ()), y3.1.1, ()), true, ()))))))
def aQK : LTab := []
def aAm (a : List UInt8 × List UInt8 × Unit) : TT uS :=
 .call (abX ((a.1, a.2.1, ()), ())) aLB fun y =>
 .ite (!y.2.1)
 (.ok ((20, ())))
 (.ok ((0, ())))
def aTm : LTab := []
def aEC (n : List UInt8) (d : List UInt8) : TT uI :=
 .call (agJ (n, ())) Dd6 fun y =>
 .ite (y.1 != 0)
 (.ok (((#[].toList, #[].toList, ()), 10, ())))
 (.call (agJ (d, ())) Dd6 fun y1 =>
 .ite (y1.1 != 0)
 (.ok (((#[].toList, #[].toList, ()), 10, ())))
 (.call (ag3 (n, ())) Dd5 fun y2 =>
 .call (ag3 (d, ())) Dd5 fun y3 =>
 .call (adW (y3.1.1, ())) Dd1 fun y4 =>
 .ite (y4.1)
 (.ok (((#[].toList, #[].toList, ()), 7, ())))
 (.call (abD (y2.1.1, !y2.1.2.1 == y3.1.2.1, ())) Dd5 fun y5 =>
 .call (amY (y5.1, y3.1.1, ())) Dd8 fun y6 =>
 .call (af1 (y6.1, ())) adZ fun y7 =>
 .ok (((y7.1.1, y7.1.2.1, ()), y7.2.1, ())))))
def aVF : LTab := []
def aTX (n : Int) (d : Int) : TT uI :=
 .call (aw7 (n, ())) Dd2 fun y =>
 .call (aw7 (d, ())) Dd2 fun y1 =>
 .call (atQ (y.1, y1.1, ())) adZ fun y2 =>
 .ok (((y2.1.1, y2.1.2.1, ()), y2.2.1, ()))
def aTj : LTab := []
def aEA (a : List UInt8 × List UInt8 × Unit) : TT uv :=
 .call (abX ((a.1, a.2.1, ()), ())) aLB fun y =>
 .ite (!y.2.1)
 (.ok ((0, 20, ())))
 (.call (alJ ((y.1.1.1, y.1.1.2.1, ()), ())) Dd6 fun y1 =>
 .ok ((y1.1, 0, ())))
def aUV : LTab := []
def aJL (a : List UInt8 × List UInt8 × Unit) (b : List UInt8 × List UInt8 × Unit) : TT uv :=
 .tt <| .tt <| .call (abX ((a.1, a.2.1, ()), ())) aLB fun y =>
 .call (abX ((b.1, b.2.1, ()), ())) aLB fun y1 =>
 .ite (!y.2.1)
 (.ok ((0, 20, ())))
 (.ite (!y1.2.1)
 (.ok ((0, 20, ())))
 (.call (apY (((y.1.1.1, y.1.1.2.1, ()), y.1.2.1, ()), ((y1.1.1.1, y1.1.1.2.1, ()), y1.1.2.1, ()), ())) Dd6 fun y2 =>
 .ok ((y2.1, 0, ()))))
def aUW : LTab := []
def aJN (a : List UInt8 × List UInt8 × Unit) (b : List UInt8 × List UInt8 × Unit) : TT uI :=
 .tt <| .tt <| .call (abX ((a.1, a.2.1, ()), ())) aLB fun y =>
 .call (abX ((b.1, b.2.1, ()), ())) aLB fun y1 =>
 .ite (!y.2.1)
 (.tt <| .tt <| .ok (((#[].toList, #[].toList, ()), 20, ())))
 (.ite (!y1.2.1)
 (.tt <| .tt <| .ok (((#[].toList, #[].toList, ()), 20, ())))
 (.call (atO (((y.1.1.1, y.1.1.2.1, ()), y.1.2.1, ()), ((y1.1.1.1, y1.1.1.2.1, ()), y1.1.2.1, ()), ())) Dd8 fun y2 =>
 .tt <| .tt <| .call (af1 (((y2.1.1.1, y2.1.1.2.1, ()), y2.1.2.1, ()), ())) adZ fun y3 =>
 .ok (((y3.1.1, y3.1.2.1, ()), y3.2.1, ()))))
def aUS : LTab := []
def aJH (a : List UInt8 × List UInt8 × Unit) (b : List UInt8 × List UInt8 × Unit) : TT uI :=
 .tt <| .tt <| .call (abX ((a.1, a.2.1, ()), ())) aLB fun y =>
 .call (abX ((b.1, b.2.1, ()), ())) aLB fun y1 =>
 .ite (!y.2.1)
 (.tt <| .tt <| .ok (((#[].toList, #[].toList, ()), 20, ())))
 (.ite (!y1.2.1)
 (.tt <| .tt <| .ok (((#[].toList, #[].toList, ()), 20, ())))
 (.call (ax3 (((y.1.1.1, y.1.1.2.1, ()), y.1.2.1, ()), ((y1.1.1.1, y1.1.1.2.1, ()), y1.1.2.1, ()), ())) Dd8 fun y2 =>
 .tt <| .tt <| .call (af1 (((y2.1.1.1, y2.1.1.2.1, ()), y2.1.2.1, ()), ())) adZ fun y3 =>
 .ok (((y3.1.1, y3.1.2.1, ()), y3.2.1, ()))))
def aUT : LTab := []
def aJI (a : List UInt8 × List UInt8 × Unit) (b : List UInt8 × List UInt8 × Unit) : TT uI :=
 .tt <| .tt <| .call (abX ((a.1, a.2.1, ()), ())) aLB fun y =>
 .call (abX ((b.1, b.2.1, ()), ())) aLB fun y1 =>
 .ite (!y.2.1)
 (.tt <| .tt <| .ok (((#[].toList, #[].toList, ()), 20, ())))
 (.ite (!y1.2.1)
 (.tt <| .tt <| .ok (((#[].toList, #[].toList, ()), 20, ())))
 (.call (atN (((y.1.1.1, y.1.1.2.1, ()), y.1.2.1, ()), ((y1.1.1.1, y1.1.1.2.1, ()), y1.1.2.1, ()), ())) Dd8 fun y2 =>
 .tt <| .tt <| .call (af1 (((y2.1.1.1, y2.1.1.2.1, ()), y2.1.2.1, ()), ())) adZ fun y3 =>
 .ok (((y3.1.1, y3.1.2.1, ()), y3.2.1, ()))))
def aUU : LTab := []
def aJK (a : List UInt8 × List UInt8 × Unit) (b : List UInt8 × List UInt8 × Unit) : TT uI :=
 .call (abX ((a.1, a.2.1, ()), ())) aLB fun y =>
 .call (abX ((b.1, b.2.1, ()), ())) aLB fun y1 =>
 .ite (!y.2.1)
 (.ok (((#[].toList, #[].toList, ()), 20, ())))
 (.ite (!y1.2.1)
 (.ok (((#[].toList, #[].toList, ()), 20, ())))
 (.call (adW (y1.1.1.1, ())) Dd1 fun y2 =>
 .ite (y2.1)
 (.ok (((#[].toList, #[].toList, ()), 7, ())))
 (.call (aj0 (((y1.1.1.1, y1.1.1.2.1, ()), y1.1.2.1, ()), ())) Dd8 fun y3 =>
 .call (atN (((y.1.1.1, y.1.1.2.1, ()), y.1.2.1, ()), y3.1, ())) Dd8 fun y4 =>
 .call (af1 (y4.1, ())) adZ fun y5 =>
 .ok (((y5.1.1, y5.1.2.1, ()), y5.2.1, ())))))
def aQH : LTab := []
def aAl (a : List UInt8 × List UInt8 × Unit) : TT tz :=
 .call (abX ((a.1, a.2.1, ()), ())) aLB fun y =>
 .ite (!y.2.1)
 (.ok ((#[].toList, 20, ())))
 (.call (alK ((y.1.1.1, y.1.1.2.1, ()), y.1.2.1, ())) Dd5 fun y1 =>
 .call (alI (y1.1, ())) Dd2 fun y2 =>
 .ok ((y2.1, 0, ())))
def aTl : LTab := []
def aEB (a : List UInt8 × List UInt8 × Unit) (scale : Int) : TT uv :=
 .call (abX ((a.1, a.2.1, ()), ())) aLB fun y =>
 .ite (!y.2.1)
 (.ok ((0, 20, ())))
 (.ite (decide (scale < 1))
 (.ok ((0, 2, ())))
 (.ite (decide (scale > 1000000000000))
 (.ok ((0, 2, ())))
 (.call (abY (abZ scale, ())) Dd0 fun y1 =>
 .call (atM (((y.1.1.1, y.1.1.2.1, ()), y.1.2.1, ()), y1.1, ())) Dd5 fun y2 =>
 .call (alI (y2.1, ())) Dd2 fun y3 =>
 .call (amW (y3.1, ())) aDr fun y4 =>
 .ite (y4.2.1 != 0)
 (.ok ((0, 6, ())))
 (.ok ((y4.1, 0, ()))))))
end
theorem aOT {s t : List UInt8} {b : Bool} (hc : ab8 (s, #[45].toList, ()) = some (t, b, ())) (h : ¬ (isD t ∧ t ≠ [] ∧ t.length ≤ 600 ∧ (t.head? = some 48 → b = false ∧ t.length = 1))) : rdW s = none := by
 refine aKE fun z hz he => h ?_
 rw [← he, aHX] at hc
 injection hc with hc
 obtain ⟨rfl, h2⟩ := Prod.mk.inj hc
 obtain ⟨rfl, -⟩ := Prod.mk.inj h2
 refine ⟨amI _, afO _, hz, fun h0 => ?_⟩
 by_cases hn : z.natAbs = 0
 ·rw [hn, abN zc]
  exact ⟨zn zc, rfl⟩
 ·exact absurd h0 (aQ6 hn)
theorem aOS {s t : List UInt8} {b : Bool} (hc : ab8 (s, #[45].toList, ()) = some (t, b, ())) (h1 : isD t) (h2 : t ≠ []) (h3 : t.length ≤ 600) (h4 : t.head? = some 48 → b = false ∧ t.length = 1) : ∃ z : Int, rdW s = some z ∧ z.natAbs = num t ∧ decide (z < 0) = b := by
 have hu : t = aa4 (num t) := aHl h1 h2 (by
  by_cases h0 : t.head? = some 48
  ·exact Or.inr (h4 h0).2
  ·exact Or.inl h0)
 have hs : s = if b then 45 :: t else t := by
  injection hc with hc
  simp only at hc
  split at hc
  ·rename_i hp
   obtain ⟨e1, e2⟩ := Prod.mk.inj hc
   obtain ⟨rfl, -⟩ := Prod.mk.inj e2
   cases s with
   | nil => cases hp
   | cons c s =>
    have : c = 45 := by
     have h5 : ([45] : List UInt8).isPrefixOf (c :: s) = true := hp
     simp [List.isPrefixOf] at h5
     exact h5.symm
    rw [this, ← e1]; rfl
  ·obtain ⟨e1, e2⟩ := Prod.mk.inj hc
   obtain ⟨rfl, -⟩ := Prod.mk.inj e2
   rw [← e1]; rfl
 cases b
 ·refine ⟨(num t : Int), ?_, by simp, by simp⟩
  have : s = dec (num t : Int) := by rw [ae7, ← hu, hs]; rfl
  rw [this, anL (show (aa4 (num t : Int).natAbs).length ≤ 600 by simp; rw [← hu]; exact h3)]
 ·have hn : num t ≠ 0 := by
   intro h0
   rw [h0, abN zc] at hu
   have := h4 (by rw [hu]; rfl)
   cases this.1
  refine ⟨-(num t : Int), ?_, by simp, by simp; omega⟩
  have : s = dec (-(num t : Int)) := by rw [aiW zc, xA, zK, ← hu, hs]; rfl
  rw [this, anL (show (aa4 (-(num t : Int)).natAbs).length ≤ 600 by simp; rw [← hu]; exact h3)]
noncomputable def aU9 (s : List UInt8) : SgT × Bool × Unit := match rdW s with | some z => (sg z, true, ()) | none => (([], false, ()), false, ())
theorem aLM (a : List UInt8) (y) (h : agH (a, ()) = some y) : (aDu a).toO = some y := by
 have hy : y = aU9 a := by injection h with h; exact h.symm
 clear h
 subst hy
 obtain ⟨t, b, hc⟩ : ∃ t b, ab8 (a, #[45].toList, ()) = some (t, b, ()) := ⟨_, _, rfl⟩
 have hnot : ¬ (isD t ∧ t ≠ [] ∧ t.length ≤ 600 ∧ (t.head? = some 48 → b = false ∧ t.length = 1)) → aU9 a = (([], false, ()), false, ()) := fun h => by unfold aU9; rw [aOT hc h]
 have hyes : isD t → t ≠ [] → t.length ≤ 600 → (t.head? = some 48 → b = false ∧ t.length = 1) → ak5 (t, ()) = some (mag (num t), ()) ∧ aU9 a = ((mag (num t), b, ()), true, ()) := fun h1 h2 h3 h4 => by
  obtain ⟨z, e1, e2, e3⟩ := aOS hc h1 h2 h3 h4
  refine ⟨?_, ?_⟩
  ·unfold ak5
   rw [if_pos ⟨h1, h2, by simp only; omega⟩]
  ·unfold aU9
   rw [e1]
   show ((mag z.natAbs, decide (z < 0), ()), true, ()) = _
   rw [e2, e3]
 unfold aDu
 refine uC (t, b, ()) hc ?_
 by_cases h1 : t = []
 ·rw [hnot (fun h => h.2.1 h1)]
  refine uR _ (uT (by simp [h1, len]) rfl)
 have hlen : 1 ≤ t.length := yb.2 h1
 by_cases h2 : t.length ≤ 600
 case neg =>
  rw [hnot (fun h => h2 h.2.2.1)]
  refine uR _ (uF sd (uT sd rfl))
 refine uL (false, ()) (uF sd (uF sd rfl)) ?_
 refine uO (0, ()) rfl ?_
 refine aaK (fun i : Int × Unit => ∃ k : Nat, i.1 = (k : Int) ∧ k ≤ t.length ∧ isD (t.take k)) (fun i => ((t.length : Int) - i.1).toNat) (fun _ => aU9 a) ?_ _ ⟨0, rfl, by omega, by simp [isD]⟩
 rintro ⟨i, u⟩ ⟨k, h3, h4, h5⟩
 simp only at h3
 subst h3
 simp only [aFo, aaL]
 rcases zr k t.length with hk | hk
 ·have e1 : t.getD k 0 = t[k] := by simp [hk]
  simp only [e1]
  by_cases c1 : t[k].toNat < 48
  ·right
   rw [hnot (fun h => by have := h.1 t[k] (ym hk); omega)]
   repeat refine za ?_
   rfl
  by_cases c2 : t[k].toNat > 57
  ·right
   rw [hnot (fun h => by have := h.1 t[k] (ym hk); omega)]
   repeat refine za ?_
   rfl
  ·left
   refine ⟨(((k + 1 : Nat) : Int), ()), ?_, ⟨k + 1, rfl, by omega, ?_⟩, by simp only; omega, ze⟩
   ·repeat refine za ?_
    simp (disch := omega) only [aaI, aaA, aaP, aa1, abU, aaL, zv, zp, aaB, zt]
    rfl
   ·rw [zW hk, isD_append]
    refine ⟨h5, fun c hc => ?_⟩
    have := ya.1 hc
    subst this
    omega
 ·right
  have hd : isD t := by rwa [zy hk] at h5
  refine uF sd (uN ⟨by simp [asT], by exact sn⟩ ?_)
  cases ht : t with
  | nil => exact absurd ht h1
  | cons c r =>
   rw [← ht]
   have hg : gi t 0 0 = c := by rw [ht]; rfl
   simp only [hg]
   have hh : t.head? = some c := by rw [ht]; rfl
   by_cases c0 : c = 48
   ·subst c0
    refine uT (by rfl) ?_
    cases b
    ·refine uF rfl ?_
     by_cases hl : t.length = 1
     ·obtain ⟨g1, g2⟩ := hyes hd h1 h2 (fun _ => ⟨rfl, hl⟩)
      rw [g2]
      exact uF sd (uC _ g1 rfl)
     ·rw [hnot (fun h => hl (h.2.2.2 hh).2)]
      exact uT sd rfl
    ·rw [hnot (fun h => by have := (h.2.2.2 hh).1; cases this)]
     exact uT rfl rfl
   ·obtain ⟨g1, g2⟩ := hyes hd h1 h2 (fun h => by rw [hh] at h; injection h with h; exact absurd h c0)
    rw [g2]
    refine uF ?_ (uC _ g1 rfl)
    rw [beq_eq_false_iff_ne]
    intro h
    exact c0 (UInt8.toNat_inj.1 (Int.ofNat.inj h))
theorem adO {s : List UInt8} {z : Int} (h : rdW s = some z) : agH (s, ()) = some (sg z, true, ()) := by unfold agH; rw [h]
theorem adP {s : List UInt8} (h : rdW s = none) : agH (s, ()) = some (([], false, ()), false, ()) := by unfold agH; rw [h]
theorem aIf (a : List UInt8) (y) (h : agJ (a, ()) = some y) : (ax8 a).toO = some y := by
 unfold agJ at h
 unfold ax8
 cases hr : rdW a with
 | none =>
  simp only [hr] at h
  exact uC _ (adP hr) (uT rfl h)
 | some z =>
  simp only [hr] at h
  exact uC _ (adO hr) (uF rfl h)
theorem aLN (a b : List UInt8) (y) (h : agI (a, b, ()) = some y) : (aDv a b).toO = some y := by
 unfold agI at h
 unfold aDv
 cases hr : rdW a with
 | none =>
  simp only [hr] at h
  cases hb : rdW b with
  | none => exact uC _ (adP hr) (uC _ (adP hb) (uT rfl h))
  | some w => exact uC _ (adP hr) (uC _ (adO hb) (uT rfl h))
 | some z =>
  cases hb : rdW b with
  | none =>
   simp only [hr, hb] at h
   exact uC _ (adO hr) (uC _ (adP hb) (uF rfl (uT rfl h)))
  | some w =>
   simp only [hr, hb] at h
   exact uC _ (adO hr) (uC _ (adO hb) (uF rfl (uF rfl h)))
theorem aR1 (n : Int) (y) (h : aw7 (n, ()) = some y) : (aTK n).toO = some y := by
 unfold aw7 at h
 split at h
 ·rename_i hp
  exact uC (dec n, ()) (by unfold aDf; exact if_pos hp) h
 ·cases h
theorem aRK {n : Int} (h : aa3 n) : aw7 (n, ()) = some (dec n, ()) := by unfold aw7; rw [if_pos h]
theorem aHK {a b : Int} (h1 : Bd 7 a.natAbs) (h2 : Bd 7 b.natAbs) : ajT (sg a, sg b, ()) = some (sg (a * b), ()) := aaE (enc := fun x : Int × Int => (sg x.1, sg x.2, ())) (a, b) ⟨h1, h2⟩ (fun b hb => aDK hb)
theorem ap8 {s : List UInt8} {z : Int} (h : rdW s = some z) : Bd 0 z.natAbs := aoE (afI h).1
theorem aOq (a b : List UInt8) (y) (h : avY (a, b, ()) = some y) : (aIc a b).toO = some y := by
 unfold avY at h
 unfold aIc
 refine uV (uV ?_)
 cases hr : rdW a with
 | none =>
  simp only [hr] at h
  refine uC (([], false, ()), ([], false, ()), 10, ()) (by unfold agI; simp only [hr]) (uT rfl h)
 | some z =>
  cases hb : rdW b with
  | none =>
   simp only [hr, hb] at h
   refine uC (([], false, ()), ([], false, ()), 10, ()) (by unfold agI; simp only [hr, hb]) (uT rfl h)
  | some w =>
   simp only [hr, hb] at h
   have b1 := ap8 hr
   have b2 := ap8 hb
   refine uC (sg z, sg w, 0, ()) (by unfold agI; simp only [hr, hb]) (uF rfl (uV ?_))
   refine uC _ (aHK (aaF b1 zc) (aaF b2 zc)) ?_
   refine uC _ (atU (aaF (aaD b1 b2) zc)) ?_
   exact h
theorem aeR (s : List UInt8) : agJ (s, ()) = some (if (rdW s).isSome then 0 else 10, ()) := rfl
theorem aRg (n : Nat) : aw3 n 1 = 0 ↔ n = 1 := by
 unfold aw3
 split
 ·omega
 ·split <;> omega
theorem aNo (a : FxT) (y) (h : abX (a, ()) = some y) : (aEy a).toO = some y := by
 obtain ⟨s, t, u⟩ := a
 have hs := aTQ s t
 unfold abX at h
 dsimp only at h
 unfold aEy
 dsimp only
 cases hn : rdW s with
 | none =>
  rw [hn] at hs
  have hs' : rdF (s, t, u) = none := hs
  rw [hs'] at h
  refine uC _ (aeR s) (uT (by rw [hn]; rfl) h)
 | some n =>
  cases hd : rdW t with
  | none =>
   rw [hn, hd] at hs
   have hs' : rdF (s, t, u) = none := hs
   rw [hs'] at h
   refine uC _ (aeR s) (uF (by rw [hn]; rfl) (uC _ (aeR t) (uT (by rw [hd]; rfl) h)))
  | some d =>
   rw [hn, hd] at hs
   dsimp only at hs
   obtain ⟨f1, e1⟩ := afI hn
   obtain ⟨f2, e2⟩ := afI hd
   have b1 := ap8 hn
   have b2 := ap8 hd
   refine uC _ (aeR s) (uF (by rw [hn]; rfl) (uC _ (aeR t) (uF (by rw [hd]; rfl) ?_)))
   refine uC (sg n, ()) (by rw [e1]; exact ap2 (aaF b1 zc)) ?_
   refine uC (sg d, ()) (by rw [e2]; exact ap2 (aaF b2 zc)) ?_
   refine uC _ (aBi (aaF b2 zc)) ?_
   by_cases hp : 0 < d
   ·refine uF ?_ ?_
    ·rw [xh hp]; rfl
    have hg := ap1 (a := n.natAbs) (b := d.natAbs) (aaF b1 zc) (aaF b2 zc)
    refine uC _ hg ?_
    have hc := aw8 (a := Nat.gcd n.natAbs d.natAbs) (b := 1) (aaF (aa0 b1 b2) zc) (aaF (aaH zc) zc)
    rw [au5] at hc
    refine uC _ hc ?_
    by_cases hcop : n.natAbs.Coprime d.natAbs
    ·rw [dif_pos ⟨hp, hcop⟩] at hs
     have hs' : rdF (s, t, u) = some ⟨n, d.natAbs, by omega, hcop⟩ := hs
     rw [hs'] at h
     refine uF ?_ h
     have : aw3 (Nat.gcd n.natAbs d.natAbs) 1 = 0 := (aRg _).2 hcop
     show (aw3 (Nat.gcd n.natAbs d.natAbs) 1 != 0) = false
     rw [this]; rfl
    ·rw [dif_neg (fun h => hcop h.2)] at hs
     have hs' : rdF (s, t, u) = none := hs
     rw [hs'] at h
     refine uT ?_ h
     show (aw3 (Nat.gcd n.natAbs d.natAbs) 1 != 0) = true
     rw [xi]
     exact fun h2 => hcop ((aRg _).1 h2)
   ·rw [dif_neg (fun h => hp h.1)] at hs
    have hs' : rdF (s, t, u) = none := hs
    rw [hs'] at h
    refine uT ?_ h
    rcases zQ d 0 with h0 | h0
    ·rw [yH h0]; rfl
    ·have : d = 0 := zc
     rw [this]; rfl
theorem aaQ {s : FxT} {q : Rat} (h : rdF s = some q) : abX (s, ()) = some (rt q, true, ()) := by unfold abX; dsimp only; rw [h]
theorem aaR {s : FxT} (h : rdF s = none) : abX (s, ()) = some ((([], false, ()), [], ()), false, ()) := by unfold abX; dsimp only; rw [h]
theorem aa8 {k j : Nat} {q : Rat} (h : BdQ k q) (hk : k ≤ j) : BdQ j q := ⟨aaF h.1 hk, aaF h.2 hk⟩
theorem aeE {s : FxT} {q : Rat} (h : rdF s = some q) : BdQ 0 q := by
 obtain ⟨h1, h2⟩ := (acW h).1
 exact ⟨aoE h1, aoE h2⟩
theorem aAP {k : Nat} {p q : Rat} (h1 : BdQ k p) (h2 : BdQ k q) : BdQ (k + 2) (p + q) := by
 obtain ⟨g, h', top, t, hg, ht, hh, g0, h0, htt, e1, e2⟩ := aHG p q
 refine ⟨?_, ?_⟩
 ·rw [e1, ← acT htt h0]
  refine aaS _ ?_
  rw [ht]
  exact aaG (aaD h1.1 (aaN (aaS _ h2.2))) (aaD h2.1 (aaN (aaS _ h1.2)))
 ·rw [e2]
  exact aaF (aaW (aaS _ h1.2) (aaS _ h2.2)) zc
theorem aEZ {k : Nat} {p : Rat} (h1 : BdQ k p) : BdQ k (-p) := ⟨aaV h1.1, h1.2⟩
theorem aRq {k : Nat} {p q : Rat} (h1 : BdQ k p) (h2 : BdQ k q) : BdQ (k + 2) (p - q) := by
 rw [vv]; exact aAP h1 (aEZ h2)
theorem avT {k : Nat} {p q : Rat} (h1 : BdQ k p) (h2 : BdQ k q) : BdQ (k + 2) (p * q) := by
 obtain ⟨g, h', s, t, hg, hh, g0, h0, hs, ht, e1, e2⟩ := aGJ p q
 refine ⟨?_, ?_⟩
 ·rw [e1]
  refine aaF (aaD (k := k) ?_ ?_) zc
  ·rw [← acT hs g0]; exact aaS _ h1.1
  ·rw [← acT ht h0]; exact aaS _ h2.1
 ·rw [e2]
  exact aaF (aaW (aaS _ h1.2) (aaS _ h2.2)) zc
theorem aJ8 {k : Nat} {p : Rat} (h : BdQ k p) (h0 : p ≠ 0) : BdQ k p⁻¹ := by
 obtain ⟨e1, e2, e3⟩ := aGR h0
 exact ⟨by rw [e1]; exact h.2, by rw [e3]; exact h.1⟩
theorem aQL (a b : FxT) (y) (h : aeO (a, b, ()) = some y) : (aJN a b).toO = some y := by
 unfold aeO aOf at h
 dsimp only at h
 unfold aJN
 refine uV (uV ?_)
 cases ha : rdF a with
 | none =>
  simp only [ha] at h
  cases hb : rdF b with
  | none => exact uC _ (aaR ha) (uC _ (aaR hb) (uT rfl (uV (uV h))))
  | some q => exact uC _ (aaR ha) (uC _ (aaQ hb) (uT rfl (uV (uV h))))
 | some p =>
  cases hb : rdF b with
  | none =>
   simp only [ha, hb] at h
   exact uC _ (aaQ ha) (uC _ (aaR hb) (uF rfl (uT rfl (uV (uV h)))))
  | some q =>
   simp only [ha, hb] at h
   have b1 := aeE ha
   have b2 := aeE hb
   refine uC _ (aaQ ha) (uC _ (aaQ hb) (uF rfl (uF rfl ?_)))
   refine uC _ (aLy (aa8 b1 zc) (aa8 b2 zc)) (uV (uV ?_))
   exact uC _ (alU (aa8 (aAP b1 b2) zc)) h
theorem aQF (a b : FxT) (y) (h : afS (a, b, ()) = some y) : (aJH a b).toO = some y := by
 unfold afS aOf at h
 dsimp only at h
 unfold aJH
 refine uV (uV ?_)
 cases ha : rdF a with
 | none =>
  simp only [ha] at h
  cases hb : rdF b with
  | none => exact uC _ (aaR ha) (uC _ (aaR hb) (uT rfl (uV (uV h))))
  | some q => exact uC _ (aaR ha) (uC _ (aaQ hb) (uT rfl (uV (uV h))))
 | some p =>
  cases hb : rdF b with
  | none =>
   simp only [ha, hb] at h
   exact uC _ (aaQ ha) (uC _ (aaR hb) (uF rfl (uT rfl (uV (uV h)))))
  | some q =>
   simp only [ha, hb] at h
   have b1 := aeE ha
   have b2 := aeE hb
   refine uC _ (aaQ ha) (uC _ (aaQ hb) (uF rfl (uF rfl ?_)))
   refine uC _ (aTH (aa8 b1 zc) (aa8 b2 zc)) (uV (uV ?_))
   exact uC _ (alU (aa8 (aRq b1 b2) zc)) h
theorem aQG (a b : FxT) (y) (h : ad6 (a, b, ()) = some y) : (aJI a b).toO = some y := by
 unfold ad6 aOf at h
 dsimp only at h
 unfold aJI
 refine uV (uV ?_)
 cases ha : rdF a with
 | none =>
  simp only [ha] at h
  cases hb : rdF b with
  | none => exact uC _ (aaR ha) (uC _ (aaR hb) (uT rfl (uV (uV h))))
  | some q => exact uC _ (aaR ha) (uC _ (aaQ hb) (uT rfl (uV (uV h))))
 | some p =>
  cases hb : rdF b with
  | none =>
   simp only [ha, hb] at h
   exact uC _ (aaQ ha) (uC _ (aaR hb) (uF rfl (uT rfl (uV (uV h)))))
  | some q =>
   simp only [ha, hb] at h
   have b1 := aeE ha
   have b2 := aeE hb
   refine uC _ (aaQ ha) (uC _ (aaQ hb) (uF rfl (uF rfl ?_)))
   refine uC _ (aLx (aa8 b1 zc) (aa8 b2 zc)) (uV (uV ?_))
   exact uC _ (alU (aa8 (avT b1 b2) zc)) h
theorem aQI (a b : FxT) (y) (h : afA (a, b, ()) = some y) : (aJK a b).toO = some y := by
 unfold afA at h
 dsimp only at h
 unfold aJK
 cases ha : rdF a with
 | none =>
  simp only [ha] at h
  cases hb : rdF b with
  | none => exact uC _ (aaR ha) (uC _ (aaR hb) (uT rfl h))
  | some q => exact uC _ (aaR ha) (uC _ (aaQ hb) (uT rfl h))
 | some p =>
  cases hb : rdF b with
  | none =>
   simp only [ha, hb] at h
   exact uC _ (aaQ ha) (uC _ (aaR hb) (uF rfl (uT rfl h)))
  | some q =>
   simp only [ha, hb] at h
   have b1 := aeE ha
   have b2 := aeE hb
   refine uC _ (aaQ ha) (uC _ (aaQ hb) (uF rfl (uF rfl ?_)))
   refine uC _ (at2 _) ?_
   by_cases h0 : q = 0
   ·rw [if_pos h0] at h
    exact uT (zo (by rw [h0]; rfl)) h
   ·rw [if_neg h0] at h
    have := aK6 h0
    refine uF sd ?_
    refine uC _ (aHV (aa8 b2 zc) h0) ?_
    refine uC _ (aLx (aa8 b1 zc) (aa8 (aJ8 b2 h0) zc)) ?_
    exact uC _ (alU (aa8 (avT b1 (aJ8 b2 h0)) zc)) h
theorem aQJ (a b : FxT) (y) (h : agO (a, b, ()) = some y) : (aJL a b).toO = some y := by
 unfold agO at h
 dsimp only at h
 unfold aJL
 refine uV (uV ?_)
 cases ha : rdF a with
 | none =>
  simp only [ha] at h
  cases hb : rdF b with
  | none => exact uC _ (aaR ha) (uC _ (aaR hb) (uT rfl h))
  | some q => exact uC _ (aaR ha) (uC _ (aaQ hb) (uT rfl h))
 | some p =>
  cases hb : rdF b with
  | none =>
   simp only [ha, hb] at h
   exact uC _ (aaQ ha) (uC _ (aaR hb) (uF rfl (uT rfl h)))
  | some q =>
   simp only [ha, hb] at h
   have b1 := aeE ha
   have b2 := aeE hb
   exact uC _ (aaQ ha) (uC _ (aaQ hb) (uF rfl (uF rfl (uC _ (aN8 (aa8 b1 zc) (aa8 b2 zc)) h))))
theorem aJM (a : FxT) (y) (h : alN (a, ()) = some y) : (aAm a).toO = some y := by
 unfold alN at h
 dsimp only at h
 unfold aAm
 cases ha : rdF a with
 | none =>
  simp only [ha] at h
  exact uC _ (aaR ha) (uT rfl h)
 | some q =>
  simp only [ha] at h
  exact uC _ (aaQ ha) (uF rfl h)
theorem aNr (a : FxT) (y) (h : atP (a, ()) = some y) : (aEA a).toO = some y := by
 unfold atP at h
 dsimp only at h
 unfold aEA
 cases ha : rdF a with
 | none =>
  simp only [ha] at h
  exact uC _ (aaR ha) (uT rfl h)
 | some q =>
  simp only [ha] at h
  exact uC _ (aaQ ha) (uF rfl (uC _ (aBi (aaF (aeE ha).1 zc)) h))
theorem aVL {k : Nat} {a : Int} {d : Nat} (h : Bd k a.natAbs) : Bd (k + 1) (a / (d : Int)).natAbs := by
 rcases zC d with h0 | h0
 ·subst h0
  simp only [Int.natCast_zero, Int.ediv_zero, we]
  exact aaF (aaH zc) zc
 ·refine amP (aaZ h (aaF (aaH (n := 1) zc) (ye k))) ?_
  rcases zQ a 0 with h1 | h1
  ·rw [apL h1 zc, xA, zK]
   have := yS a.natAbs d
   split <;> omega
  ·obtain ⟨n, rfl⟩ := zu h1
   have : ((n : Int) / (d : Int)) = ((n / d : Nat) : Int) := zi
   rw [this, zK]
   have := yS n d
   omega
theorem aUP {z : Int} (h : Fit z) : (mag z.natAbs).length ≤ 600 := ahB h
theorem aT1 {n : Nat} (h : (mag n).length ≤ 1000000) : Bd 0 n := h
theorem aTV {a : Int} {d : Nat} {k : Nat} (h : (mag a.natAbs).length ≤ k) (hk : 1 ≤ k) : (mag (a / (d : Int)).natAbs).length ≤ k + 1 := by
 rcases zC d with h0 | h0
 ·subst h0
  simp only [Int.natCast_zero, Int.ediv_zero, we, mag_zero]
  simp
 ·have hle : (a / (d : Int)).natAbs ≤ a.natAbs + 1 := by
   rcases zQ a 0 with h1 | h1
   ·rw [apL h1 zc, xA, zK]
    have := yS a.natAbs d
    split <;> omega
   ·obtain ⟨n, rfl⟩ := zu h1
    have : ((n : Int) / (d : Int)) = ((n / d : Nat) : Int) := zi
    rw [this, zK]
    have := yS n d
    omega
  have h2 := ab1 hle
  have h3 := akA a.natAbs 1
  have h4 : (mag 1).length = 1 := by rw [au5]; rfl
  omega
theorem aJJ (a : FxT) (y) (h : alM (a, ()) = some y) : (aAl a).toO = some y := by
 unfold alM at h
 dsimp only at h
 unfold aAl
 cases ha : rdF a with
 | none =>
  simp only [ha] at h
  exact uC _ (aaR ha) (uT rfl h)
 | some q =>
  simp only [ha] at h
  have b := aeE ha
  refine uC _ (aaQ ha) (uF rfl ?_)
  refine uC _ (aDp (aaF b.1 zc) (aaF b.2 zc) q.den_nz) ?_
  refine uC _ (aBh (aT1 ?_)) h
  have := aTV (d := q.den) (aUP (acW ha).1.1) zc
  omega
theorem aNt (n d : List UInt8) (y) (h : atQ (n, d, ()) = some y) : (aEC n d).toO = some y := by
 unfold atQ at h
 dsimp only at h
 unfold aEC
 cases hn : rdW n with
 | none =>
  simp only [hn] at h
  exact uC _ (aeR n) (uT (by rw [hn]; rfl) h)
 | some a =>
  cases hd : rdW d with
  | none =>
   simp only [hn, hd] at h
   exact uC _ (aeR n) (uF (by rw [hn]; rfl) (uC _ (aeR d) (uT (by rw [hd]; rfl) h)))
  | some b =>
   simp only [hn, hd] at h
   have b1 := ap8 hn
   have b2 := ap8 hd
   refine uC _ (aeR n) (uF (by rw [hn]; rfl) (uC _ (aeR d) (uF (by rw [hd]; rfl) ?_)))
   refine uC (sg a, ()) (by rw [(afI hn).2]; exact ap2 (aaF b1 zc)) ?_
   refine uC (sg b, ()) (by rw [(afI hd).2]; exact ap2 (aaF b2 zc)) ?_
   refine uC _ (at2 _) ?_
   unfold ofQ at h
   by_cases h0 : b = 0
   ·rw [if_pos h0] at h
    exact uT sd h
   ·rw [if_neg h0] at h
    refine uF sd ?_
    obtain ⟨s, hs, hv⟩ : ∃ s : Int, s.natAbs = a.natAbs ∧ (s = 0 ∨ (!(decide (a < 0) == decide (b < 0))) = decide (s < 0)) ∧ Rat.divInt a b = mkRat s b.natAbs := by
     rcases zQ b 0 with c | c
     ·refine ⟨-a, by omega, ?_, ?_⟩
      ·by_cases ha : a = 0
       ·left; omega
       ·right
        rw [zo c]
        rcases zQ a 0 with c2 | c2
        ·rw [zo c2, zn zc]; rfl
        ·rw [zn zc, zo zc]; rfl
      ·rw [← Rat.neg_divInt_neg, ← xl]
       congr 1; omega
     ·refine ⟨a, rfl, ?_, ?_⟩
      ·right
       rw [zn (show ¬ b < 0 by omega)]
       cases decide (a < 0) <;> rfl
      ·rw [← xl]
       congr 1; omega
    obtain ⟨hv1, hv2⟩ := hv
    rw [hv2] at h
    refine uC (sg s, ()) (ab5 hs.symm hv1) ?_
    refine uC _ (aKk (by rw [hs]; exact aaF b1 zc) (aaF b2 zc) zc) ?_
    refine uC _ (alU ?_) h
    obtain ⟨g, t, hg, g0, e0, e1, e2⟩ := aeH s (d := b.natAbs) zc
    refine ⟨?_, ?_⟩
    ·rw [e1, ← acT e0 g0, hs]; exact aaF (aaS _ b1) zc
    ·rw [e2]; exact aaF (aaS _ b2) zc
theorem abK {z : Int} (h : aa3 z) : Fit z := by
 unfold aa3 at h
 have : (aa4 z.natAbs).length ≤ 20 := (adC zc).2 zc
 unfold Fit; omega
theorem aTk (n d : Int) (y) (h : am5 (n, d, ()) = some y) : (aTX n d).toO = some y := by
 unfold am5 at h
 split at h
 ·rename_i hp
  refine uC _ (aRK hp.1) (uC _ (aRK hp.2) ?_)
  refine uC (ofQ n d) ?_ h
  unfold atQ
  simp only [anL (abK hp.1), anL (abK hp.2)]
 ·cases h
theorem aBa {z : Int} (h : Fit z) : amW (dec z, ()) = some (if aa3 z then (z, 0, ()) else (0, 6, ())) := by
 unfold amW
 simp only [anL h]
theorem aCI {z : Int} (h : Fit z) : (mag z.natAbs).length ≤ 67 := by
 have hl : (aa4 z.natAbs).length ≤ 600 := h
 obtain ⟨L, hL⟩ : ∃ L : Nat, L = 67 := ⟨_, rfl⟩
 rw [← hL, mag_length_le_iff]
 have h1 := agS z.natAbs
 have h3 : (10 : Nat) ^ (9 * L) = 1000000000 ^ L := by rw [xG]
 have h2 : (10 : Nat) ^ (aa4 z.natAbs).length ≤ 10 ^ (9 * L) := zY zc zc
 omega
theorem aSW {q : Rat} (h : acB q) {s : Nat} (hs : s ≤ 1000000000000) : (mag (asC q s).natAbs).length ≤ 200 := by
 rw [aP7]
 have h1 := aCI h.1
 have h2 := aCI h.2
 have hs2 : (mag (s * 2)).length ≤ 2 := mag_length_le_iff.2 zc
 have e1 : (mag (q.num * (s * 2 : Nat) + q.den).natAbs).length ≤ 100 := by
  have a1 := Int.natAbs_add_le (q.num * (s * 2 : Nat)) q.den
  have a2 := ab1 a1
  have a3 := akA (q.num * (s * 2 : Nat)).natAbs (q.den : Int).natAbs
  rw [yF] at a3 a2
  have a4 := ahA q.num.natAbs ((s * 2 : Nat) : Int).natAbs
  simp only [zK] at a1 a2 a3 a4 h2 ⊢
  omega
 have := aTV (d := q.den * 2) e1 zc
 omega
theorem aNs (a : FxT) (scale : Int) (y) (h : amZ (a, scale, ()) = some y) : (aEB a scale).toO = some y := by
 unfold amZ at h
 dsimp only at h
 unfold aEB
 cases ha : rdF a with
 | none =>
  simp only [ha] at h
  exact uC _ (aaR ha) (uT rfl h)
 | some q =>
  simp only [ha] at h
  refine uC _ (aaQ ha) (uF rfl ?_)
  have hq := (acW ha).1
  have hb := aeE ha
  by_cases h1 : scale < 1
  ·rw [if_pos (Or.inl h1)] at h
   exact uT (zo h1) h
  by_cases h2 : scale > 1000000000000
  ·rw [if_pos (Or.inr h2)] at h
   exact uF (zn h1) (uT (zo h2) h)
  rw [if_neg zc] at h
  obtain ⟨s, rfl⟩ := zu (show 0 ≤ scale by omega)
  rw [zp] at h
  refine uF (zn h1) (uF (zn h2) ?_)
  have hl := aSW hq (s := s) zc
  refine uC (mag s, ()) (by rw [aaP zc]; exact aFc zc) ?_
  refine uC _ (aRR (aa8 hb zc) (aaF (aaH zc) zc)) ?_
  refine uC _ (aBh (aT1 zc)) ?_
  by_cases hf : Fit (asC q s)
  ·refine uC _ (aBa hf) ?_
   by_cases hi : aa3 (asC q s)
   ·simp only [if_pos hi] at h ⊢
    exact uF rfl h
   ·simp only [if_neg hi] at h ⊢
    exact uT rfl h
  ·have hn : rdW (dec (asC q s)) = none := aKE fun z hz he => hf (by rw [← akD he]; exact hz)
   rw [if_neg (fun h => hf (abK h))] at h
   refine uC (0, 10, ()) (by unfold amW; simp only [hn]) (uT rfl h)
theorem ac6 {z : Int} (h : Fit z) : adF (sg z, ()) = some (dec z, 0, ()) := by
 rw [atU (aaF (aoE h) zc), aj5 h]
theorem agB {a b : Int} (h : Fit b) (hab : a.natAbs ≤ b.natAbs) : Fit a := by
 unfold Fit at *
 rw [adC zc] at *
 omega
theorem aTq {a b : Int} (hb : b ≠ 0) : (a < 0 → (a / b).natAbs = (if a.natAbs % b.natAbs = 0 then a.natAbs / b.natAbs else a.natAbs / b.natAbs + 1) ∧ (a % b).natAbs = (if a.natAbs % b.natAbs = 0 then 0 else b.natAbs - a.natAbs % b.natAbs)) ∧ (0 ≤ a → (a / b).natAbs = a.natAbs / b.natAbs ∧ (a % b).natAbs = a.natAbs % b.natAbs) := by
 obtain ⟨d, hd, hbd⟩ : ∃ d : Nat, b.natAbs = d ∧ (b = d ∨ b = -(d : Int)) := ⟨b.natAbs, rfl, by omega⟩
 have hd0 : d ≠ 0 := zc
 have e1 : (a / b).natAbs = (a / (d : Int)).natAbs := by
  rcases hbd with h | h
  ·rw [h]
  ·rw [h, Int.ediv_neg, xA]
 have e2 : a % b = a % (d : Int) := by
  rcases hbd with h | h
  ·rw [h]
  ·rw [h, Int.emod_neg]
 rw [e1, e2, hd]
 constructor
 ·intro ha
  have h1 := apL ha hd0
  have h2 := yk a d
  have h3 := xZ a.natAbs d
  have h4 := yW a.natAbs (show 0 < d by omega)
  generalize hq : a.natAbs / d = q at *
  generalize hr : a.natAbs % d = r at *
  rw [h1] at h2
  constructor
  ·rw [h1, xA, zK]
  ·by_cases h0 : r = 0
   ·rw [if_pos h0] at h2 ⊢
    have : (a.natAbs : Int) = ((r + d * q : Nat) : Int) := by rw [h3]
    rw [vq, yg] at this
    have e3 : (d : Int) * -(q : Int) = -((d : Int) * q) := by rw [Int.mul_neg]
    rw [e3] at h2
    generalize (d : Int) * q = w at *
    omega
   ·rw [if_neg h0] at h2 ⊢
    have : (a.natAbs : Int) = ((r + d * q : Nat) : Int) := by rw [h3]
    rw [vq, yg] at this
    have e3 : (d : Int) * -(((q + 1 : Nat)) : Int) = -((d : Int) * q) - d := by rw [Int.mul_neg, vq, wz]; simp; omega
    rw [e3] at h2
    generalize (d : Int) * q = w at *
    omega
 ·intro ha
  obtain ⟨n, rfl⟩ := zu ha
  have h1 : ((n : Int) / (d : Int)) = ((n / d : Nat) : Int) := zi
  have h2 : ((n : Int) % (d : Int)) = ((n % d : Nat) : Int) := zi
  exact ⟨by rw [h1, zK, zK], by rw [h2, zK, zK]⟩
theorem aQV {a b : Int} (hb : b ≠ 0) : a / b = 0 ∨ (!(decide (a < 0) == decide (b < 0))) = decide (a / b < 0) := by
 by_cases h0 : a / b = 0
 ·exact Or.inl h0
 ·right
  rcases zQ a 0 with ha | ha <;> rcases zQ b 0 with hb' | hb'
  ·have := Int.ediv_nonneg_of_nonpos_of_nonpos (xu ha) (xu hb')
   rw [zo ha, zo hb', zn zc]; rfl
  ·have := Int.ediv_neg_of_neg_of_pos ha (show 0 < b by omega)
   rw [zo ha, zn zc, zo zc]; rfl
  ·have := Int.ediv_nonpos_of_nonneg_of_nonpos ha (xu hb')
   rw [zn zc, zo hb', zo zc]; rfl
  ·have := xJ ha hb'
   rw [zn zc, zn zc, zn zc]; rfl
theorem aOs (a b : List UInt8) (y) (h : avZ (a, b, ()) = some y) : (aIe a b).toO = some y := by
 unfold avZ at h
 dsimp only at h
 unfold aIe at8
 cases hr : rdW a with
 | none =>
  simp only [hr] at h
  exact uC (([], false, ()), ([], false, ()), 10, ()) (by unfold agI; simp only [hr]) (uT rfl h)
 | some z =>
  cases hb : rdW b with
  | none =>
   simp only [hr, hb] at h
   exact uC (([], false, ()), ([], false, ()), 10, ()) (by unfold agI; simp only [hr, hb]) (uT rfl h)
  | some w =>
   simp only [hr, hb] at h
   have b1 := ap8 hr
   have b2 := ap8 hb
   have f1 := (afI hr).1
   have f2 := (afI hb).1
   refine uC (sg z, sg w, 0, ()) (by unfold agI; simp only [hr, hb]) (uF rfl ?_)
   refine uC _ (aA6 _) ?_
   by_cases h0 : w = 0
   ·rw [if_pos h0] at h
    exact uT sd h
   rw [if_neg h0] at h
   refine uF sd ?_
   have hdv := aA8 (a := z.natAbs) (b := w.natAbs) (aaF b1 zc) (aaF b2 zc) zc
   obtain ⟨en, ep⟩ := aTq (a := z) h0
   have hsg := aQV (a := z) h0
   have hr0 := yQ z h0
   have hrlt : (z % w).natAbs < w.natAbs := by
    rcases zQ w 0 with c | c
    ·have := yB z (show 0 < -w by omega)
     rw [Int.emod_neg] at this
     omega
    ·have := yB z (show 0 < w by omega)
     omega
   have fr : Fit (z % w) := agB f2 zc
   have hq1 := yS z.natAbs w.natAbs
   have fq : Fit (z / w) := by
    refine agB f1 ?_
    rcases zQ z 0 with c | c
    ·rw [(en c).1]
     split
     ·exact hq1
     ·rename_i hm
      have : 2 ≤ w.natAbs := by
       rcases zr w.natAbs 2 with c2 | c2
       ·have : w.natAbs = 1 := zc
        rw [this, Nat.mod_one] at hm; exact absurd rfl hm
       ·exact c2
      have h2 := Nat.div_le_div_left this (show 0 < 2 by omega) (a := z.natAbs)
      omega
    ·rw [(ep c).1]; exact hq1
   have tail : ∀ (q r : Nat) (b : Bool), q = (z / w).natAbs → r = (z % w).natAbs → (b = (!(decide (z < 0) == decide (w < 0)))) → ajU (mag q, b, ()) = some (sg (z / w), ()) ∧ ajU (mag r, false, ()) = some (sg (z % w), ()) := by
    intro q r b hq hr2 hb2
    refine ⟨aDh hq ?_, aDh hr2 (Or.inr (zn zc).symm)⟩
    rw [hb2]; exact hsg
   refine uC _ hdv ?_
   by_cases c : z < 0
   ·refine uT (zo c) ?_
    refine uC _ (aA6 _) ?_
    obtain ⟨g1, g2⟩ := en c
    by_cases hm : z.natAbs % w.natAbs = 0
    ·rw [if_pos hm] at g1 g2
     obtain ⟨u1, u2⟩ := tail _ _ (!(decide (z < 0) == decide (w < 0))) g1.symm (hm.trans g2.symm) rfl
     refine uF (by show (!decide _) = false; rw [zo hm]; rfl) ?_
     refine uC _ u1 (uC _ (ac6 fq) (uF rfl ?_))
     exact uC _ u2 (uC _ (ac6 fr) (uF rfl h))
    ·rw [if_neg hm] at g1 g2
     have hlt := yW z.natAbs (show 0 < w.natAbs by omega)
     obtain ⟨u1, u2⟩ := tail _ _ (!(decide (z < 0) == decide (w < 0))) g1.symm g2.symm rfl
     refine uT (by show (!decide _) = true; rw [zn hm]; rfl) ?_
     have hp := aHL (a := z.natAbs / w.natAbs) (b := 1) (aaF (aaS _ b1) zc) (aaF (aaH zc) zc)
     rw [au5] at hp
     refine uC _ hp ?_
     refine uC _ (aN3 (aaF b2 zc) zc) ?_
     refine uC _ u1 (uC _ (ac6 fq) (uF rfl ?_))
     exact uC _ u2 (uC _ (ac6 fr) (uF rfl h))
   ·refine uF (zn c) ?_
    obtain ⟨g1, g2⟩ := ep zc
    obtain ⟨u1, u2⟩ := tail _ _ (!(decide (z < 0) == decide (w < 0))) g1.symm g2.symm rfl
    refine uC _ u1 (uC _ (ac6 fq) (uF rfl ?_))
    exact uC _ u2 (uC _ (ac6 fr) (uF rfl h))
theorem aj9 (n : Nat) : ∀ k : Nat, (mag (n ^ k)).length ≤ k * (mag n).length + 1
 | 0 => by simp [au5]
 | k + 1 => by
  have h1 := aj9 n k
  have h2 := ahA (n ^ k) n
  rw [yC, yP]
  rcases zC (mag n).length with h3 | h3
  ·have : n = 0 := mag_nil_iff.1 (zV.1 h3)
   subst this
   simp [mag_zero]
  ·omega
theorem aDg {a n : Nat} (h1 : Bd 2 a) (h2 : n ≤ 40) : ak4 (mag a, (n : Int), ()) = some (mag (a ^ n), ()) := by
 refine aaE (enc := fun x : Nat × Nat => (mag x.1, (x.2 : Int), ())) (a, n) ⟨h1, h2⟩ (fun b hb => ?_)
 obtain ⟨e1, e2⟩ := Prod.mk.inj hb
 obtain ⟨e2, -⟩ := Prod.mk.inj e2
 exact Prod.ext (aeI e1) (Int.ofNat.inj e2)
theorem aLp {a n : Nat} (h1 : Bd 2 a) (h2 : n ≤ 40) : Bd 7 (a ^ n) := by
 have h3 := aj9 a n
 unfold Bd at *
 have h4 : n * (mag a).length ≤ 40 * (1000000 * 4 ^ 2) := Nat.mul_le_mul h2 h1
 omega
theorem aFm (m : List Int) (n : Int) (y) (h : ak4 (m, n, ()) = some y) : (aBT m n).toO = some y := by
 obtain ⟨⟨a, k⟩, hp, hx, rfl⟩ := aaC h
 obtain ⟨rfl, hx2⟩ := Prod.mk.inj hx; obtain ⟨rfl, -⟩ := Prod.mk.inj hx2; dsimp only
 obtain ⟨l1, l2⟩ := hp
 simp only at l1 l2
 refine uO (0, [1], ()) rfl ?_
 refine aaK (fun i : Int × List Int × Unit => ∃ j : Nat, j ≤ k ∧ i = ((j : Int), mag (a ^ j), ())) (fun i => ((k : Int) - i.1).toNat) (fun _ => (mag (a ^ k), ())) ?_ _ ⟨0, by omega, by rw [Nat.pow_zero, au5]; rfl⟩
 rintro i ⟨j, hj, rfl⟩
 simp only [ax6]
 rcases zr j k with h1 | h1
 ·left
  refine ⟨(((j + 1 : Nat) : Int), mag (a ^ (j + 1)), ()), ?_, ⟨j + 1, by omega, rfl⟩, by simp only; omega, ze⟩
  refine uT sd ?_
  refine uC (mag (a ^ (j + 1)), ()) (by rw [av5 (aaF l1 zc) (aaF (aLp l1 zc) zc), yC, yN]) ?_
  repeat refine za ?_
  simp (disch := omega) only [aaI, aaA, aaP, aa1, abU, aaL, zv, zp, aaB, zt]
  rfl
 ·right
  have : j = k := zc
  subst this
  refine uF sd rfl
theorem aOp (a : List UInt8) (n : Int) (y) (h : aoM (a, n, ()) = some y) : (aIb a n).toO = some y := by
 unfold aoM at h
 dsimp only at h
 unfold aIb
 cases hr : rdW a with
 | none =>
  simp only [hr] at h
  exact uC _ (adP hr) (uT rfl h)
 | some z =>
  simp only [hr] at h
  have b1 := ap8 hr
  refine uC _ (adO hr) (uF rfl ?_)
  by_cases h1 : n < 0
  ·rw [if_pos (Or.inl h1)] at h
   exact uT (zo h1) h
  by_cases h2 : n > 40
  ·rw [if_pos (Or.inr h2)] at h
   exact uF (zn h1) (uT (zo h2) h)
  rw [if_neg zc] at h
  obtain ⟨k, rfl⟩ := zu (show 0 ≤ n by omega)
  rw [zp] at h
  refine uF (zn h1) (uF (zn h2) ?_)
  have hk : k ≤ 40 := zc
  refine uC _ (aDg (aaF b1 zc) hk) ?_
  have bp := aLp (aaF b1 (show 0 ≤ 2 by omega)) hk
  have hw : adF (sg (z ^ k), ()) = some (wrW (z ^ k)) := atU (by rw [vw]; exact aaF bp zc)
  by_cases hz : z < 0
  ·refine uT (zo hz) (uV ?_)
   refine uC (sg (z ^ k), ()) (aDh (by rw [vw]) ?_) (uC _ hw h)
   right
   obtain ⟨w, hw0, rfl⟩ : ∃ w : Int, 0 < w ∧ z = -w := ⟨-z, by omega, by omega⟩
   rw [zF zc]
   have hpos : 0 < w ^ k := yJ hw0
   rcases Nat.mod_two_eq_zero_or_one k with hm | hm
   ·have e : (-w) ^ k = w ^ k := by
     obtain ⟨j, rfl⟩ : ∃ j, k = 2 * j := ⟨k / 2, by omega⟩
     rw [Int.pow_mul, Int.pow_mul]; congr 1; simp only [zX, Int.pow_zero, Int.one_mul, Int.neg_mul_neg]
    rw [e, zn (show ¬ w ^ k < 0 by omega)]
    rw [beq_eq_false_iff_ne]; omega
   ·have e : (-w) ^ k = -(w ^ k) := by
     obtain ⟨j, rfl⟩ : ∃ j, k = 2 * j + 1 := ⟨k / 2, by omega⟩
     rw [zX, zX, Int.pow_mul, Int.pow_mul]
     have : (-w) ^ 2 = w ^ 2 := by simp only [zX, Int.pow_zero, Int.one_mul, Int.neg_mul_neg]
     rw [this, Int.mul_neg]
    rw [e, zo (show -(w ^ k) < 0 by omega)]
    rw [yA]; omega
  ·refine uF (zn hz) ?_
   have : 0 ≤ z ^ k := Int.pow_nonneg zc
   refine uC (sg (z ^ k), ()) (aDh (by rw [vw]) (Or.inr (zn zc).symm)) (uC _ hw h)
theorem aKj {n : Nat} (h : n ≤ 100000000) : amV ((n : Int), ()) = some (mag (10 ^ n), ()) := aaE (enc := fun x : Nat => ((x : Int), ())) n h (fun b hb => Int.ofNat.inj (Prod.mk.inj hb).1)
theorem aDt (n : Int) (y) (h : amV (n, ()) = some y) : (aqH n).toO = some y := by
 obtain ⟨k, hp, hx, rfl⟩ := aaC h
 obtain ⟨rfl, -⟩ := Prod.mk.inj hx
 have e1 : Int.tdiv (k : Int) 9 = ((k / 9 : Nat) : Int) := by rw [zL zc]; omega
 have e2 : Int.tmod (k : Int) 9 = ((k % 9 : Nat) : Int) := by rw [zF zc]; omega
 have e3 : w64 ((k / 9 : Nat) : Int) = ((k / 9 : Nat) : Int) := aaA zc
 have e4 : w64 (((k / 9 : Nat) : Int) + 1) = ((k / 9 + 1 : Nat) : Int) := by rw [aaA zc]; omega
 unfold aqH
 simp only [e1, e3, e4]
 refine uV (uN zc (uV ?_))
 refine uO (0, 1, ()) rfl ?_
 refine aaK (fun i : Int × Int × Unit => ∃ j : Nat, j ≤ k % 9 ∧ i = ((j : Int), ((10 ^ j : Nat) : Int), ())) (fun i => (((k % 9 : Nat) : Int) - i.1).toNat) (fun _ => (mag (10 ^ k), ())) ?_ _ ⟨0, by omega, rfl⟩
 rintro i ⟨j, hj, rfl⟩
 have hj9 : (10 : Nat) ^ j ≤ 10 ^ 8 := zY zc zc
 have hp0 : (0 : Int) ≤ ((10 ^ j : Nat) : Int) := Int.natCast_nonneg _
 have hp8 : ((10 ^ j : Nat) : Int) ≤ 100000000 := wO.2 hj9
 simp only [awB, e1, e2, e3, e4]
 rcases zr j (k % 9) with h1 | h1
 ·left
  refine ⟨(((j + 1 : Nat) : Int), ((10 ^ (j + 1) : Nat) : Int), ()), ?_, ⟨j + 1, by omega, rfl⟩, by simp only; omega, ze⟩
  repeat refine za ?_
  rw [aa1 (x := ((10 ^ j : Nat) : Int) * 10) zc, aaA (x := (j : Int) + 1) zc, yC, yg]
  rfl
 ·right
  have hjk : j = k % 9 := zc
  refine uF sd (uV (uN sd ?_))
  simp only [zp, zv, aaI]
  rw [zy zi]
  have hd : Dg 1000000000 ((List.replicate (k / 9 + 1) 0).set (k / 9) ((10 ^ j : Nat) : Int)) := aj4 (ahF zc _) ⟨by omega, by omega⟩ _
  have hv : V 1000000000 ((List.replicate (k / 9 + 1) 0).set (k / 9) ((10 ^ j : Nat) : Int)) = ((10 ^ k : Nat) : Int) := by
   rw [aA0 _ zi, avV, akB zi]
   simp only [List.getElem_replicate, wP, vu]
   have : (10 : Nat) ^ k = 1000000000 ^ (k / 9) * 10 ^ j := by
    rw [show (1000000000 : Nat) = 10 ^ 9 by decide, ← xG, ← xF, hjk, Nat.div_add_mod]
   rw [this]; simp
  rw [asE hd (aLC zc hd (Or.inr ?_)) hv]
  rw [hv]
  simp only [yY, xY, xB]
  have h6 : (1000000000 : Nat) ^ (k / 9) ≤ 10 ^ k := by
   rw [show (1000000000 : Nat) = 10 ^ 9 by decide, ← xG]
   exact zY zc zc
  have h7 : ((1000000000 ^ (k / 9) : Nat) : Int) ≤ ((10 ^ k : Nat) : Int) := wO.2 h6
  simpa using h7
theorem aEk {k n r : Nat} (hk : 1 ≤ k) (h1 : r ^ k ≤ n) (h2 : n < (r + 1) ^ k) : aeK k n = r := by
 have hex : ∃ r, r ^ k ≤ n ∧ n < (r + 1) ^ k := ⟨r, h1, h2⟩
 unfold aeK
 rw [dif_pos hex]
 obtain ⟨g1, g2⟩ := hex.choose_spec
 generalize hex.choose = q at *
 rcases Nat.lt_trichotomy q r with h | h | h
 ·have := xr (show q + 1 ≤ r by omega) k; omega
 ·exact h
 ·have := xr (show r + 1 ≤ q by omega) k; omega
theorem aS7 (k n : Nat) (hk : 1 ≤ k) : ∃ r, r ^ k ≤ n ∧ n < (r + 1) ^ k := by
 have H : ∀ m, (∃ r, r ^ k ≤ n ∧ n < (r + 1) ^ k) ∨ m ^ k ≤ n := by
  intro m
  induction m with
  | zero => right; rw [Nat.zero_pow hk]; omega
  | succ m ih =>
   rcases ih with h | h
   ·exact Or.inl h
   ·rcases zr n ((m + 1) ^ k) with h2 | h2
    ·exact Or.inl ⟨m, h, h2⟩
    ·exact Or.inr h2
 rcases H (n + 1) with h | h
 ·exact h
 ·have : n + 1 ≤ (n + 1) ^ k := Nat.le_self_pow zc _
  omega
theorem akW {k : Nat} (n : Nat) (hk : 1 ≤ k) : (aeK k n) ^ k ≤ n ∧ n < (aeK k n + 1) ^ k := by
 obtain ⟨r, h1, h2⟩ := aS7 k n hk
 rw [aEk hk h1 h2]; exact ⟨h1, h2⟩
theorem aOy (r x : Int) (hr : 0 ≤ r) (hx : 0 ≤ x) : ∀ k : Nat, x ^ (k + 1) + (k + 1 : Nat) * x ^ k * (r - x) ≤ r ^ (k + 1)
 | 0 => by simp [zX]; omega
 | k + 1 => by
  have ih := aOy r x hr hx k
  have h1 := zD ih hr
  have h2 : 0 ≤ (k + 1 : Nat) * x ^ k * ((r - x) * (r - x)) := yh (yh zc (Int.pow_nonneg hx)) (by
   rcases zQ (r - x) 0 with h | h
   ·exact xu (wu h h)
   ·exact yh h h)
  have e1 : r ^ (k + 1 + 1) = r * r ^ (k + 1) := by rw [zX, yM]
  have e2 : x ^ (k + 1 + 1) = x * (x * x ^ k) := by rw [zX, zX]; grind
  have e3 : x ^ (k + 1) = x * x ^ k := by rw [zX, yM]
  rw [e1, e2, e3]
  rw [e3] at h1
  have e4 : ((k + 1 + 1 : Nat) : Int) = ((k + 1 : Nat) : Int) + 1 := zc
  rw [e4]
  generalize ((k + 1 : Nat) : Int) = K at *
  generalize x ^ k = P at *
  generalize r ^ (k + 1) = R at *
  have e5 : r * (x * P + K * P * (r - x)) = x * (x * P) + (K + 1) * (x * P) * (r - x) + K * P * ((r - x) * (r - x)) := by grind
  omega
theorem aP6 {m r x k : Nat} (hk : 1 ≤ k) (hx : 0 < x) (h : r ^ k ≤ m) : r ≤ (x * (k - 1) + m / x ^ (k - 1)) / k := by
 rw [wg zc]
 obtain ⟨j, rfl⟩ : ∃ j, k = j + 1 := ⟨k - 1, by omega⟩
 simp only [xB]
 rcases zr (x * j) (r * (j + 1)) with h1 | h1
 ·have hp : 0 < x ^ j := xg hx
  have h2 : r * (j + 1) - x * j ≤ m / x ^ j := by
   rw [wg hp]
   have ht := aOy (r : Int) (x : Int) zc zc j
   have h3 : ((r ^ (j + 1) : Nat) : Int) ≤ (m : Int) := wO.2 h
   rw [wh] at h3
   have h4 : (((r * (j + 1) - x * j) * x ^ j : Nat) : Int) ≤ (m : Int) := by
    rw [yg, Int.natCast_sub (vO h1), yg, yg, wh]
    have e1 : (x : Int) ^ (j + 1) = x * (x : Int) ^ j := by rw [zX, yM]
    rw [e1] at ht
    have e2 : ((j + 1 : Nat) : Int) = (j : Int) + 1 := zc
    rw [e2] at ht ⊢
    generalize (x : Int) ^ j = P at *
    generalize (j : Int) = J at *
    have e3 : ((r : Int) * (J + 1) - x * J) * P = x * P + (J + 1) * P * (r - x) := by grind
    rw [e3]
    omega
   exact wO.1 h4
  generalize m / x ^ j = M at *
  generalize x * j = A at *
  generalize r * (j + 1) = C at *
  omega
 ·exact zz h1 (xk _ _)
theorem aP5 {m x k : Nat} (hk : 1 ≤ k) (hx : 0 < x) (h : m < x ^ k) : (x * (k - 1) + m / x ^ (k - 1)) / k < x := by
 obtain ⟨j, rfl⟩ : ∃ j, k = j + 1 := ⟨k - 1, by omega⟩
 simp only [xB]
 have hp : 0 < x ^ j := xg hx
 have h2 : m / x ^ j < x := by
  rw [yE hp, yN]
  rwa [yC] at h
 rw [yE zc, Nat.mul_add]
 omega
theorem aH6 (m : List Int) (k : Int) (y) (h : as8 (m, k, ()) = some y) : (aFl m k).toO = some y := by
 obtain ⟨⟨n, q⟩, hp, hx, rfl⟩ := aaC h
 obtain ⟨rfl, hx2⟩ := Prod.mk.inj hx; obtain ⟨rfl, -⟩ := Prod.mk.inj hx2; dsimp only
 obtain ⟨l1, l2, l3⟩ := hp
 simp only at l1 l2 l3
 have hdl := aLj l1
 refine uC _ (aA6 n) ?_
 by_cases h0 : n = 0
 ·refine uT (zo h0) ?_
  subst h0
  rw [aEk (r := 0) l2 (by rw [Nat.zero_pow l2]; omega) zi, mag_zero]
  rfl
 refine uF (zn h0) ?_
 refine uC _ (aA7 (aaF l1 zc)) (uN zc ?_)
 have hle := yS (aa4 n).length q
 have hL : (aa4 n).length ≤ ((aa4 n).length / q + 1) * q := by
  have h3 := xZ (aa4 n).length q
  have h4 := yW (aa4 n).length (show 0 < q by omega)
  rw [yP, yN ((aa4 n).length / q) q]
  omega
 have e1 : Int.tdiv ((aa4 n).length : Int) (q : Int) = (((aa4 n).length / q : Nat) : Int) := by rw [zL zc]; simp
 simp only [e1]
 generalize (aa4 n).length / q = L at hle hL
 have e2 : w64 (L : Int) = L := aaA zc
 have e3 : w64 ((L : Int) + 1) = ((L + 1 : Nat) : Int) := by rw [aaA zc]; omega
 refine uC (mag (10 ^ (L + 1)), ()) (by simp only [e2, e3]; exact aKj zc) ?_
 refine uO (mag (10 ^ (L + 1)), ()) rfl ?_
 obtain ⟨s1, s2⟩ := akW (k := q) n l2
 have hbx : Bd 2 (10 ^ (L + 1)) := by
  have : (mag (10 ^ (L + 1))).length ≤ 10000000 := by
   refine ahB ?_
   rw [akE (k := L + 1) (zq _) (wx zc zc)]
   omega
  unfold Bd; omega
 have hstart : n < (10 ^ (L + 1)) ^ q := by
  rw [← xG]
  have h1 := agS n
  have h3 : (10 : Nat) ^ (aa4 n).length ≤ 10 ^ ((L + 1) * q) := zY zc hL
  omega
 have hstart2 : aeK q n ≤ 10 ^ (L + 1) := by
  rcases zr (10 ^ (L + 1)) (aeK q n) with h | h
  ·have := xr (vO h) q; omega
  ·exact h
 have hr1 : 1 ≤ aeK q n := by
  rcases zC (aeK q n) with h | h
  ·rw [h] at s2; simp at s2; omega
  ·exact h
 generalize 10 ^ (L + 1) = X at *
 refine aaK (fun i : List Int × Unit => ∃ x : Nat, i = (mag x, ()) ∧ aeK q n ≤ x ∧ x ≤ X) (fun i => (V 1000000000 i.1).toNat) (fun _ => (mag (aeK q n), ())) ?_ _ ⟨X, rfl, hstart2, zq _⟩
 rintro i ⟨x, rfl, g1, g2⟩
 have bx : Bd 2 x := amP hbx g2
 have ek : w64 ((q : Int) - 1) = ((q - 1 : Nat) : Int) := by rw [aaA (x := (q : Int) - 1) zc]; omega
 have ekk : abZ ((q - 1 : Nat) : Int) = ((q - 1 : Nat) : Int) := aaP zc
 have ek32 : aeU (q : Int) = q := aa1 zc
 have hxp : 0 < x ^ (q - 1) := xg zc
 have bp := aLp bx (show q - 1 ≤ 40 by omega)
 have bsm : Bd 2 (q - 1) := aaF (aaH zc) zc
 have bsum : Bd 4 (x * (q - 1) + n / x ^ (q - 1)) := aaZ (aaW bx bsm) (aaF (aaS _ l1) zc)
 simp only [akJ, ek, ekk, ek32]
 have walk : ∀ r, (TT.ite (decide (aw3 (((x * (q - 1) + n / x ^ (q - 1)) / q : Nat)) (x : Nat) ≥ 0)) (TT.ok (Sum.inr (mag x, ())) : TT (uG ⊕ uG)) (TT.ok (.inl (mag ((x * (q - 1) + n / x ^ (q - 1)) / q), ())))).toO = r → (akJ (mag n) (q : Int) (decide (n = 0), ()) (((aa4 n).length : Int), ()) (mag X, ()) (mag x, ())).toO = r := by
  intro r hr
  simp only [akJ, ek, ekk, ek32]
  refine uC _ (aDg bx zc) ?_
  refine uC _ (aA8 (aaF l1 zc) (aaF bp zc) zc) ?_
  refine uC _ (aE9 zc) ?_
  refine uC _ (av5 (aaF bx zc) (aaF bsm zc)) ?_
  refine uC _ (aHL (aaF (aaW bx bsm) zc) (aaF (aaS _ l1) zc)) ?_
  refine uC _ (aN2 (d := q) (aaF bsum zc) zc zc) ?_
  refine uC _ (aHM (aaF (aaS _ bsum) zc) (aaF bx zc)) ?_
  exact hr
 simp only [akJ, ek, ekk, ek32] at walk
 generalize hY : (x * (q - 1) + n / x ^ (q - 1)) / q = Y at walk
 have hge : aeK q n ≤ Y := by rw [← hY]; exact aP6 l2 zc s1
 rcases zr Y x with hc | hc
 ·left
  refine ⟨(mag Y, ()), walk _ (uF ?_ rfl), ⟨Y, rfl, hge, by omega⟩, ?_, ze⟩
  ·unfold aw3; rw [if_pos zc]; rfl
  ·simp only [aoK, zp]; exact hc
 ·right
  have hxm : x ^ q ≤ n := by
   rcases zr n (x ^ q) with h | h
   ·have := aP5 l2 (show 0 < x by omega) h
    omega
   ·exact h
  have hxr : x = aeK q n := by
   rcases zr (aeK q n) x with h | h
   ·have := xr (show aeK q n + 1 ≤ x from h) q; omega
   ·omega
  refine walk _ (uT ?_ ?_)
  ·unfold aw3
   rw [if_neg zc]
   split <;> rfl
  ·rw [← hxr]; rfl
theorem aRJ {n k : Nat} (h1 : Bd 0 n) (h2 : 1 ≤ k) (h3 : k ≤ 12) : as8 (mag n, (k : Int), ()) = some (mag (aeK k n), ()) := by
 refine aaE (enc := fun x : Nat × Nat => (mag x.1, (x.2 : Int), ())) (n, k) ⟨h1, h2, h3⟩ (fun b hb => ?_)
 obtain ⟨e1, e2⟩ := Prod.mk.inj hb
 obtain ⟨e2, -⟩ := Prod.mk.inj e2
 exact Prod.ext (aeI e1) (Int.ofNat.inj e2)
theorem axY {k n : Nat} (hk : 1 ≤ k) : aeK k n ≤ n := zz (Nat.le_self_pow zc _) (akW n hk).1
theorem zl {p : Prop} (h : p := by simp only [Int.natAbs_natCast]; exact axY (by omega)) : p := h
theorem aLP (a : List UInt8) (k : Int) (y) (h : atA (a, k, ()) = some y) : (aDx a k).toO = some y := by
 unfold atA at h
 dsimp only at h
 unfold aDx
 cases hr : rdW a with
 | none =>
  simp only [hr] at h
  exact uC _ (adP hr) (uT rfl h)
 | some z =>
  simp only [hr] at h
  have b1 := ap8 hr
  refine uC _ (adO hr) (uF rfl ?_)
  by_cases h1 : k < 1
  ·rw [if_pos (Or.inl h1)] at h
   exact uT (zo h1) h
  by_cases h2 : k > 12
  ·rw [if_pos (Or.inr (Or.inl h2))] at h
   exact uF (zn h1) (uT (zo h2) h)
  by_cases h3 : z < 0
  ·rw [if_pos (Or.inr (Or.inr h3))] at h
   exact uF (zn h1) (uF (zn h2) (uT (zo h3) h))
  rw [if_neg zc] at h
  obtain ⟨j, rfl⟩ := zu (show 0 ≤ k by omega)
  rw [zp] at h
  refine uF (zn h1) (uF (zn h2) (uF (zn h3) ?_))
  refine uC _ (aRJ b1 zc zc) ?_
  refine uC (sg (aeK j z.natAbs : Int), ()) (aDh rfl (Or.inr (zn zc).symm)) ?_
  exact uC _ (atU (aaF (amP b1 (axY zc)) zc)) h
end Go.Vs
