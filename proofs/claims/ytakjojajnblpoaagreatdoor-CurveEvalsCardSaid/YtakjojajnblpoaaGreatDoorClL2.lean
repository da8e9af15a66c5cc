/-
  Trees of what the functions compute, and their laws. Own work; no condition.
-/
import Derived.Test.YtakjojajnblpoaaGreatDoorClL1
import Derived.Test.YtakjojajnblpoaaGreatDoorProg
set_option linter.unusedVariables false
set_option linter.unusedSimpArgs false
namespace Go.Vs
open Go Go.Vg
theorem aGc {q : Rat} (h : ab6 q) : wrF q = (fx q, 0, ()) := if_pos h
theorem aBX {q : Rat} (h : ¬ ab6 q) : wrF q = (([], [], ()), 6, ()) := if_neg h
theorem ajH {z : Int} (h : Fit z) : wrW z = (dec z, 0, ()) := if_pos h
theorem asF {z : Int} (h : ¬ Fit z) : wrW z = ([], 6, ()) := if_neg h
theorem ar5 {z : Int} (h : Bd 8 z.natAbs) : adC (sg z, ()) = some (wrW z) := aaG (enc := fun x : Int => (sg x, ())) z h (fun b hb => aqA (Prod.mk.inj hb).1)
theorem aGg (s : SgT) (y) (h : adC (s, ()) = some y) : (awF s).toO = some y := by
 obtain ⟨a, hp, hx, rfl⟩ := aaD h
 obtain ⟨rfl, -⟩ := Prod.mk.inj hx
 unfold awF
 dsimp only
 refine uC _ (azT hp) ?_
 by_cases hf : Fit a
 ·have hf' : (aa2 a.natAbs).length ≤ 600 := hf
  rw [ajH hf]
  refine uF zh ?_
  have hb : Bd 0 a.natAbs := aiE hf
  by_cases h0 : a < 0
  ·refine uT zh (uC _ (azV hb) (uN ?_ ?_))
   ·show 1 + (aa2 a.natAbs).length ≤ lim
    unfold lim; omega
   ·rw [aiB h0]; rfl
  ·refine uF zh (uC _ (azV hb) ?_)
   rw [abZ zc]; rfl
 ·have hf' : ¬ (aa2 a.natAbs).length ≤ 600 := hf
  rw [asF hf]
  exact uT zh rfl
theorem akU {q : Rat} (h : BdQ 8 q) : afI (rt q, ()) = some (wrF q) := aaG (enc := fun x : Rat => (rt x, ())) q h (fun b hb => aAM (Prod.mk.inj hb).1)
theorem aFb (x : RtT) (y) (h : afI (x, ()) = some y) : (atK x).toO = some y := by
 obtain ⟨q, hp, hx, rfl⟩ := aaD h
 obtain ⟨rfl, -⟩ := Prod.mk.inj hx
 obtain ⟨h1, h2⟩ := hp
 unfold atK
 dsimp only
 refine uC _ (az0 h1) ?_
 by_cases hf : Fit q.num
 ·have hf' : (aa2 q.num.natAbs).length ≤ 600 := hf
  refine uF zh ?_
  refine uC _ (az0 h2) ?_
  by_cases hg : Fit q.den
  ·have hg' : (aa2 q.den).length ≤ 600 := hg
   rw [aGc ⟨hf, hg⟩]
   refine uF zh ?_
   exact uC _ (az1 (aiE hf)) (uC _ (ap2 (aiE hg)) rfl)
  ·have hg' : ¬ (aa2 q.den).length ≤ 600 := hg
   rw [aBX (fun h => hg h.2)]
   exact uT zh rfl
 ·have hf' : ¬ (aa2 q.num.natAbs).length ≤ 600 := hf
  rw [aBX (fun h => hf h.1)]
  exact uT zh rfl
theorem akV {g : Nat} {t n : Int} (h : n = g * t) (g0 : g ≠ 0) : (n < 0 ↔ t < 0) ∧ (n = 0 ↔ t = 0) := by
 subst h
 rcases xj t 0 with h | h | h
 ·have := xZ (show (0 : Int) < g by omega) h
  omega
 ·subst h; simp
 ·have := vo (show (0 : Int) < g by omega) h
  omega
theorem adA {g : Nat} {t n : Int} (h : n = g * t) (g0 : g ≠ 0) : n.natAbs / g = t.natAbs := by
 rw [h, yD, zQ, yq _ zc]
theorem aIj {n : Int} {d : Nat} (h1 : Bd 7 n.natAbs) (h2 : Bd 7 d) (h3 : d ≠ 0) : alV (sg n, mag d, ()) = some (rt (mkRat n d), ()) := aaG (enc := fun x : Int × Nat => (sg x.1, mag x.2, ())) (n, d) ⟨h1, h2, h3⟩ (fun b hb => aGw hb)
theorem aCV (n : SgT) (d : List Int) (y) (h : alV (n, d, ()) = some y) : (apQ n d).toO = some y := by
 obtain ⟨⟨a, b⟩, hp, hx, rfl⟩ := aaD h
 obtain ⟨rfl, hx2⟩ := Prod.mk.inj hx; obtain ⟨rfl, -⟩ := Prod.mk.inj hx2; dsimp only
 obtain ⟨l1, l2, l3⟩ := hp
 simp only at l1 l2 l3
 obtain ⟨g, t, hg, g0, hn, e1, e2⟩ := ae6 a l3
 have hs := akV hn g0
 have ha := adA hn g0
 unfold apQ
 dsimp only
 have bg : Bd 7 g := by rw [hg]; repeat (first | assumption | exact aaF zg zc | exact aaH zc | refine aaY ?_ ?_ | refine aaS _ ?_ | refine aa1 _ ?_ | refine aaE ?_ ?_ | refine aaB ?_ ?_ | refine aaV ?_ | refine aaW ?_ ?_ | refine aaZ ?_ ?_ | refine aaN ?_)
 refine uC (mag g, ()) (by rw [aoP zd zd, hg]) ?_
 refine uC _ (acG zd zd g0) ?_
 refine uC _ (acG zd zd g0) ?_
 refine uC (sg t, ()) (ab1 ha (Or.inr (decide_eq_decide.2 hs.1))) ?_
 show some (((sg t), mag (b / g), ()), ()) = some (rt (mkRat a b), ())
 unfold rt
 rw [e1, e2]
theorem aF1 {q : Rat} (h : BdQ 7 q) : ajB (rt q, ()) = some (rt (-q), ()) := aaG (enc := fun x : Rat => (rt x, ())) q h (fun b hb => aAM (Prod.mk.inj hb).1)
theorem aAo (x : RtT) (y) (h : ajB (x, ()) = some y) : (auY x).toO = some y := by
 obtain ⟨q, hp, hx, rfl⟩ := aaD h
 obtain ⟨rfl, -⟩ := Prod.mk.inj hx
 exact uC _ (asA (aaF hp.1 zc)) rfl
theorem aF2 {q : Rat} (h : BdQ 7 q) (h0 : q ≠ 0) : ajC (rt q, ()) = some (rt q⁻¹, ()) := aaG (enc := fun x : Rat => (rt x, ())) q ⟨h, h0⟩ (fun b hb => aAM (Prod.mk.inj hb).1)
theorem aI1 {q : Rat} (h : q ≠ 0) : q.num ≠ 0 := fun h2 => h (Rat.num_eq_zero.1 h2)
theorem aE5 {q : Rat} (h : q ≠ 0) : (q⁻¹).num.natAbs = q.den ∧ ((q⁻¹).num < 0 ↔ q.num < 0) ∧ (q⁻¹).den = q.num.natAbs := by
 have h1 := aI1 h
 have h2 := q.den_pos
 rw [Rat.num_inv, Rat.den_inv, if_neg h1]
 rcases zS q.num 0 with h3 | h3
 ·rw [xd h3]; omega
 ·rw [xq zc]; omega
theorem aAp (x : RtT) (y) (h : ajC (x, ()) = some y) : (auZ x).toO = some y := by
 obtain ⟨q, hp, hx, rfl⟩ := aaD h
 obtain ⟨rfl, -⟩ := Prod.mk.inj hx
 obtain ⟨e1, e2, e3⟩ := aE5 hp.2
 refine uC (sg (q⁻¹).num, ()) (ab1 e1.symm (Or.inr (decide_eq_decide.2 e2.symm))) ?_
 show some ((sg (q⁻¹).num, mag q.num.natAbs, ()), ()) = some (rt q⁻¹, ())
 unfold rt
 rw [e3]
theorem aJw {p q : Rat} (h : BdQ 3 p) (h2 : BdQ 3 q) : ar0 (rt p, rt q, ()) = some (rt (p + q), ()) := aaG (enc := fun x : Rat × Rat => (rt x.1, rt x.2, ())) (p, q) ⟨h, h2⟩ (fun b hb => avX hb)
theorem aK4 (x x' : RtT) (y) (h : ar0 (x, x', ()) = some y) : (aCN x x').toO = some y := by
 obtain ⟨⟨p, q⟩, hp, hx, rfl⟩ := aaD h
 obtain ⟨rfl, hx2⟩ := Prod.mk.inj hx; obtain ⟨rfl, -⟩ := Prod.mk.inj hx2; dsimp only
 obtain ⟨⟨p1, p2⟩, q1, q2⟩ := hp
 simp only at p1 p2 q1 q2
 obtain ⟨g, h', top, t, hg, ht, hh, g0, h0, htt, e1, e2⟩ := aFR p q
 have hs := akV htt h0
 have ha := adA htt h0
 have bg : Bd 3 g := by rw [hg]; repeat (first | assumption | exact aaF zg zc | exact aaH zc | refine aaY ?_ ?_ | refine aaS _ ?_ | refine aa1 _ ?_ | refine aaE ?_ ?_ | refine aaB ?_ ?_ | refine aaV ?_ | refine aaW ?_ ?_ | refine aaZ ?_ ?_ | refine aaN ?_)
 have bt : Bd 5 top.natAbs := by
  rw [ht]
  refine aaE (aaB ?_ (aaN ?_)) (aaB ?_ (aaN ?_)) <;> repeat (first | assumption | exact aaF zg zc | exact aaH zc | refine aaY ?_ ?_ | refine aaS _ ?_ | refine aa1 _ ?_ | refine aaE ?_ ?_ | refine aaB ?_ ?_ | refine aaV ?_ | refine aaW ?_ ?_ | refine aaZ ?_ ?_ | refine aaN ?_)
 have bh : Bd 5 h' := by rw [hh]; repeat (first | assumption | exact aaF zg zc | exact aaH zc | refine aaY ?_ ?_ | refine aaS _ ?_ | refine aa1 _ ?_ | refine aaE ?_ ?_ | refine aaB ?_ ?_ | refine aaV ?_ | refine aaW ?_ ?_ | refine aaZ ?_ ?_ | refine aaN ?_)
 unfold aCN
 dsimp only
 refine uC (mag g, ()) (by rw [aoP zd zd, hg]) ?_
 refine uC _ (acG zd zd g0) ?_
 refine uC _ (acG zd zd g0) ?_
 refine uC _ (aiP zd zd) ?_
 refine uC _ (aiP zd zd) ?_
 refine uC (sg top, ()) (by rw [aDz zd zd, ht]) ?_
 refine uC (mag h', ()) (by rw [aoP zd zd, hh]) ?_
 refine uC _ (acG zd zd h0) ?_
 refine uC _ (acG zd zd h0) ?_
 refine uC (sg t, ()) (ab1 ha (Or.inr (decide_eq_decide.2 hs.1))) ?_
 refine uC _ (ahR zd zd) ?_
 show some ((sg t, mag (p.den / g * (q.den / h')), ()), ()) = some (rt (p + q), ())
 unfold rt
 rw [e1, e2]
theorem aRA {p q : Rat} (h : BdQ 3 p) (h2 : BdQ 3 q) : awB (rt p, rt q, ()) = some (rt (p - q), ()) := aaG (enc := fun x : Rat × Rat => (rt x.1, rt x.2, ())) (p, q) ⟨h, h2⟩ (fun b hb => avX hb)
theorem aK1 (x x' : RtT) (y) (h : awB (x, x', ()) = some y) : (aI9 x x').toO = some y := by
 obtain ⟨⟨p, q⟩, hp, hx, rfl⟩ := aaD h
 obtain ⟨rfl, hx2⟩ := Prod.mk.inj hx; obtain ⟨rfl, -⟩ := Prod.mk.inj hx2; dsimp only
 obtain ⟨bp, bq⟩ := hp
 refine uC _ (aF1 ⟨aaF bq.1 zc, aaF bq.2 zc⟩) ?_
 refine uC _ (aJw bp ⟨aaV bq.1, bq.2⟩) ?_
 rw [vj]; rfl
theorem aJv {p q : Rat} (h : BdQ 3 p) (h2 : BdQ 3 q) : arZ (rt p, rt q, ()) = some (rt (p * q), ()) := aaG (enc := fun x : Rat × Rat => (rt x.1, rt x.2, ())) (p, q) ⟨h, h2⟩ (fun b hb => avX hb)
theorem aK3 (x x' : RtT) (y) (h : arZ (x, x', ()) = some y) : (aCM x x').toO = some y := by
 obtain ⟨⟨p, q⟩, hp, hx, rfl⟩ := aaD h
 obtain ⟨rfl, hx2⟩ := Prod.mk.inj hx; obtain ⟨rfl, -⟩ := Prod.mk.inj hx2; dsimp only
 obtain ⟨⟨p1, p2⟩, q1, q2⟩ := hp
 simp only at p1 p2 q1 q2
 obtain ⟨g, h', s, t, hg, hh, g0, h0, hs, ht, e1, e2⟩ := aEX p q
 have as1 := adA hs g0
 have at' := adA ht h0
 have ss := akV hs g0
 have st := akV ht h0
 have bg : Bd 3 g := by rw [hg]; repeat (first | assumption | exact aaF zg zc | exact aaH zc | refine aaY ?_ ?_ | refine aaS _ ?_ | refine aa1 _ ?_ | refine aaE ?_ ?_ | refine aaB ?_ ?_ | refine aaV ?_ | refine aaW ?_ ?_ | refine aaZ ?_ ?_ | refine aaN ?_)
 have bh : Bd 3 h' := by rw [hh]; repeat (first | assumption | exact aaF zg zc | exact aaH zc | refine aaY ?_ ?_ | refine aaS _ ?_ | refine aa1 _ ?_ | refine aaE ?_ ?_ | refine aaB ?_ ?_ | refine aaV ?_ | refine aaW ?_ ?_ | refine aaZ ?_ ?_ | refine aaN ?_)
 unfold aCM
 dsimp only
 refine uC (mag g, ()) (by rw [aoP zd zd, hg]) ?_
 refine uC (mag h', ()) (by rw [aoP zd zd, hh]) ?_
 refine uC _ (acG zd zd g0) ?_
 refine uC _ (acG zd zd h0) ?_
 refine uC _ (acG zd zd h0) ?_
 refine uC _ (acG zd zd g0) ?_
 refine uC _ (ahR zd zd) ?_
 refine uC (sg (s * t), ()) (ab1 (n := p.num.natAbs / g * (q.num.natAbs / h')) (by rw [as1, at', yD]) ?_) ?_
 ·by_cases hz : s * t = 0
  ·exact Or.inl hz
  ·right
   show (!(decide (p.num < 0) == decide (q.num < 0))) = decide (s * t < 0)
   have z1 : s ≠ 0 := fun h => hz (by rw [h]; simp)
   have z2 : t ≠ 0 := fun h => hz (by rw [h]; simp)
   rcases zS s 0 with c1 | c1 <;> rcases zS t 0 with c2 | c2
   ·have := we c1 c2
    rw [zo (ss.1.2 c1), zo (st.1.2 c2), zn zc]; rfl
   ·have := xY c1 (show 0 < t by omega)
    rw [zo (ss.1.2 c1), zn zc, zo zc]; rfl
   ·have := xZ (show 0 < s by omega) c2
    rw [zn zc, zo (st.1.2 c2), zo zc]; rfl
   ·have := vo (show 0 < s by omega) (show 0 < t by omega)
    rw [zn zc, zn zc, zn zc]; rfl
 refine uC _ (ahR zd zd) ?_
 show some ((sg (s * t), mag (p.den / h' * (q.den / g)), ()), ()) = some (rt (p * q), ())
 unfold rt
 rw [e1, e2]
theorem aL2 {p q : Rat} (h : BdQ 3 p) (h2 : BdQ 3 q) : aoJ (rt p, rt q, ()) = some (avL p q, ()) := aaG (enc := fun x : Rat × Rat => (rt x.1, rt x.2, ())) (p, q) ⟨h, h2⟩ (fun b hb => avX hb)
theorem aFc (x x' : RtT) (y) (h : aoJ (x, x', ()) = some y) : (atL x x').toO = some y := by
 obtain ⟨⟨p, q⟩, hp, hx, rfl⟩ := aaD h
 obtain ⟨rfl, hx2⟩ := Prod.mk.inj hx; obtain ⟨rfl, -⟩ := Prod.mk.inj hx2; dsimp only
 obtain ⟨⟨p1, p2⟩, q1, q2⟩ := hp
 simp only at p1 p2 q1 q2
 unfold atL
 dsimp only
 refine uC _ (aiP zd zd) ?_
 refine uC _ (aiP zd zd) ?_
 refine uC _ (asA (aaF (aaB q1 (aaN p2)) zc)) ?_
 refine uC _ (aDz (aaF (aaB p1 (aaN q2)) zc) (aaV (aaF (aaB q1 (aaN p2)) zc))) ?_
 refine uC _ (az2 (aaF (aaE (aaB p1 (aaN q2)) (aaV (aaB q1 (aaN p2)))) zc)) ?_
 rw [aNm]; rfl
theorem aPN {q : Rat} {s : Nat} (h : BdQ 1 q) (h2 : Bd 1 s) : arY (rt q, mag s, ()) = some (sg (aqS q s), ()) := aaG (enc := fun x : Rat × Nat => (rt x.1, mag x.2, ())) (q, s) ⟨h, h2⟩ (fun b hb => aR9 hb)
theorem aHw (x : RtT) (sc : List Int) (y) (h : arY (x, sc, ()) = some y) : (ax2 x sc).toO = some y := by
 obtain ⟨⟨q, s⟩, hp, hx, rfl⟩ := aaD h
 obtain ⟨rfl, hx2⟩ := Prod.mk.inj hx; obtain ⟨rfl, -⟩ := Prod.mk.inj hx2; dsimp only
 obtain ⟨⟨p1, p2⟩, bs⟩ := hp
 simp only at p1 p2 bs
 have b2 : Bd 1 2 := aaF (aaH zc) zc
 unfold ax2
 dsimp only
 have t1 := ahR (a := s) (b := 2) zd zd
 have t2 := ahR (a := q.den) (b := 2) zd zd
 rw [aSx] at t1 t2
 refine uC _ t1 ?_
 refine uC _ (aiP zd zd) ?_
 refine uC (sg (q.den : Int), ()) (ab1 (w := (q.den : Int)) zi (Or.inr (by rw [zn zc]))) ?_
 refine uC _ (aDz (aaF (aaB (aaF p1 (show 1 ≤ 2 by omega)) (aaN (aaW bs b2))) zc) zd) ?_
 refine uC _ t2 ?_
 refine uC _ (aBV zd zd (xl q.den_nz zc)) ?_
 rw [aN2]; rfl
set_option maxRecDepth 100000
open Go Go.Vg Go.Proofs
noncomputable section
def aPU : LTab := [(172, 7, 9217, ⟨0, (Bool) × Unit, .dat (.s 3) tK <| .nil, [5, 4, 2], [0], 0⟩), (172, 122, 12289, ⟨1, (Int) × Unit, .dat (.s 23) ud <| .nil, [22, 5, 4, 2], [0], 0⟩)]
def aDP (a : List UInt8) (y : List UInt8 × Bool × Unit) (j : Bool × Unit) (i : (Int) × Unit) : TT (uG ⊕ (ul × Bool × Unit)) :=
 .ite (decide (i.1 < len y.1))
 (.need (inb i.1 (len y.1)) <| .ite (decide ((↑(UInt8.toNat (gi y.1 i.1 0)) : Int) < 48))
 (.ok (.inr ((([], false, ()), false, ()))))
 (.need (inb i.1 (len y.1)) <| .ite (decide ((↑(UInt8.toNat (gi y.1 i.1 0)) : Int) > 57))
 (.ok (.inr ((([], false, ()), false, ()))))
 (.tt <| .lt (w64 (i.1 + 1) : Int) fun z => .vL (vT z (len y.1) y.2.1 y.1 <| ui ∧ True) <| .vL tE <| .ok (.inl ((z, ()))))))
 (.need (asT Int 0 ≤ 0 ∧ 0 < len y.1) <| .ite ((↑(UInt8.toNat (gi y.1 0 0)) : Int) == 48)
 (.ite (y.2.1)
 (.ok (.inr ((([], false, ()), false, ()))))
 (.ite (decide (len y.1 > 1))
 (.ok (.inr ((([], false, ()), false, ()))))
 (.call (akD (y.1, ())) Dd0 fun y1 =>
 .ok (.inr (((y1.1, y.2.1, ()), true, ()))))))
 (.call (akD (y.1, ())) Dd0 fun y2 =>
 .ok (.inr (((y2.1, y.2.1, ()), true, ())))))
def aMk (a : List UInt8) (y : List UInt8 × Bool × Unit) (j : (Bool) × Unit) : TT (ul × Bool × Unit) :=
 .loop 1 (.tt <| .vL (vT (0 : Int) (len y.1) y.2.1 y.1 <| ui ∧ True) <| .vL tE <| .ok ((0, ()))) (aDP a y j)
def aBZ (a : List UInt8) : TT (ul × Bool × Unit) :=
 .call (ab4 (a, #[45].toList, ())) Dd7 fun y =>
 .join 0 (ι := (Bool) × Unit) (.ite (len y.1 == 0)
 (.ok (.inr ((([], false, ()), false, ()))))
 (.ite (decide (len y.1 > 600))
 (.ok (.inr ((([], false, ()), false, ()))))
 (.tt <| .vL (vW false y.2.1 y.1 <| ui ∧ True) <| .vL tE <| .ok (.inl ((false, ())))))) (aMk a y)
def aPV : LTab := []
def aB0 (a : List UInt8) (b : List UInt8) : TT (ul × ul × Int × Unit) :=
 .call (afV (a, ())) Dd9 fun y =>
 .call (afV (b, ())) Dd9 fun y1 =>
 .ite (!y.2.1)
 (.ok ((([], false, ()), ([], false, ()), 10, ())))
 (.ite (!y1.2.1)
 (.ok ((([], false, ()), ([], false, ()), 10, ())))
 (.ok (((y.1.1, y.1.2.1, ()), (y1.1.1, y1.1.2.1, ()), 0, ()))))
def aMp : LTab := []
def awG (a : List UInt8) : TT uA :=
 .call (afV (a, ())) Dd9 fun y =>
 .ite (!y.2.1)
 (.ok ((10, ())))
 (.ok ((0, ())))
def aS4 : LTab := []
def aRD (n : Int) : TT uM :=
 .call (aBM (n, ())) Dd2 fun y =>
 .ok ((y.1, ()))
def aRY : LTab := []
def aGj (a : List UInt8) (b : List UInt8) : TT tg :=
 .tt <| .tt <| .call (afW (a, b, ())) aUh fun y =>
 .ite (y.2.2.1 != 0)
 (.ok ((#[].toList, y.2.2.1, ())))
 (.triv (asT Int 0 ≤ 2 ∧ 2 < (↑4 : Int)) zf <| .call (ai5 ((y.1.1, y.1.2.1, ()), (y.2.1.1, y.2.1.2.1, ()), ())) Dd5 fun y1 =>
 .call (adC (y1.1, ())) aGa fun y2 =>
 .ok ((y2.1, y2.2.1, ())))
def aR0 : LTab := []
def asG (y2 : (List (Int)) × (List (Int)) × Unit) (y : ((List (Int)) × (Bool) × Unit) × ((List (Int)) × (Bool) × Unit) × (Int) × Unit) : TT (List UInt8 × List UInt8 × Int × Unit) :=
 .call (ai6 (y2.1, !y.1.2.1 == y.2.1.2.1, ())) Dd5 fun y10 =>
 .call (adC (y10.1, ())) aGa fun y11 =>
 .ite (y11.2.1 != 0)
 (.ok ((#[].toList, #[].toList, y11.2.1, ())))
 (.call (ai6 (y2.2.1, false, ())) Dd5 fun y12 =>
 .call (adC (y12.1, ())) aGa fun y13 =>
 .ite (y13.2.1 != 0)
 (.ok ((#[].toList, #[].toList, y13.2.1, ())))
 (.ok ((y11.1, y13.1, 0, ()))))
def aGl (a : List UInt8) (b : List UInt8) : TT (List UInt8 × List UInt8 × Int × Unit) :=
 .call (afW (a, b, ())) aUh fun y =>
 .ite (y.2.2.1 != 0)
 (.ok ((#[].toList, #[].toList, y.2.2.1, ())))
 (.call (aiG (y.2.1.1, ())) Dd1 fun y1 =>
  .ite (y1.1)
  (.ok ((#[].toList, #[].toList, 7, ())))
  (.call (alP (y.1.1, y.2.1.1, ())) Dd4 fun y2 =>
   .ite (y.1.2.1)
   (.call (aiG (y2.2.1, ())) Dd1 fun y3 =>
    .ite (!y3.1)
    (.call (arM (y2.1, [1], ())) Dd0 fun y4 =>
     .call (at9 (y.2.1.1, y2.2.1, ())) Dd0 fun y5 =>
     .call (ai6 (y4.1, !y.1.2.1 == y.2.1.2.1, ())) Dd5 fun y6 =>
     .call (adC (y6.1, ())) aGa fun y7 =>
     .ite (y7.2.1 != 0)
     (.ok ((#[].toList, #[].toList, y7.2.1, ())))
     (.call (ai6 (y5.1, false, ())) Dd5 fun y8 =>
      .call (adC (y8.1, ())) aGa fun y9 =>
      .ite (y9.2.1 != 0)
      (.ok ((#[].toList, #[].toList, y9.2.1, ())))
      (.ok ((y7.1, y9.1, 0, ())))))
    (asG y2 y))
   (asG y2 y)))
def aRX : LTab := []
def aGi (a : List UInt8) (n : Int) : TT tg :=
 .call (afV (a, ())) Dd9 fun y =>
 .ite (!y.2.1)
 (.ok ((#[].toList, 10, ())))
 (.ite (decide (n < 0))
 (.ok ((#[].toList, 2, ())))
 (.ite (decide (n > 40))
 (.ok ((#[].toList, 2, ())))
 (.call (akC (y.1.1, n, ())) Dd0 fun y1 =>
 .ite (y.1.2.1)
 (.triv (asT Int 2 ≠ 0) zf <| .call (ai6 (y1.1, Int.tmod n 2 == 1, ())) Dd5 fun y2 =>
 .call (adC (y2.1, ())) aGa fun y3 =>
 .ok ((y3.1, y3.2.1, ())))
 (.call (ai6 (y1.1, false, ())) Dd5 fun y4 =>
 .call (adC (y4.1, ())) aGa fun y5 =>
 .ok ((y5.1, y5.2.1, ()))))))
def aPX : LTab := []
def aB2 (a : List UInt8) (k : Int) : TT tg :=
 .call (afV (a, ())) Dd9 fun y =>
 .ite (!y.2.1)
 (.ok ((#[].toList, 10, ())))
 (.ite (decide (k < 1))
 (.ok ((#[].toList, 2, ())))
 (.ite (decide (k > 12))
 (.ok ((#[].toList, 2, ())))
 (.ite (y.1.2.1)
 (.ok ((#[].toList, 2, ())))
 (.call (arL (y.1.1, k, ())) Dd0 fun y1 =>
 .call (ai6 (y1.1, false, ())) Dd5 fun y2 =>
 .call (adC (y2.1, ())) aGa fun y3 =>
 .ok ((y3.1, y3.2.1, ()))))))
def aGh : LTab := [(281, 122, 10241, ⟨0, (Int) × (Int) × Unit, .dat (.s 11) ud <| .dat (.s 4) uj <| .nil, [10, 3, 2, 0], [4], 0⟩)]
def auI (n : Int) (i : (Int) × (Int) × Unit) : TT (uz ⊕ uo) :=
 .ite (decide (i.1 < Int.tmod n 9))
 (.tt <| .lt (w64 (i.1 + 1) : Int) fun z => .lt (aeH (i.2.1 * 10) : Int) fun z1 => .vL (vW z1 z (Int.tmod n 9) <| (vQ 4 0 (Int.toNat (w64 (w64 (Int.tdiv n 9) + 1))) true) ∧ True ∧ vU n) <| .vL (vK (vP 189 (List.replicate (Int.toNat (w64 (w64 (Int.tdiv n 9) + 1))) 0 : List Int)) True) <| .ok (.inl ((z, z1, ()))))
 (.triv (asT Int 9 ≠ 0) zf <| .need (inb (w64 (Int.tdiv n 9)) (↑(Int.toNat (w64 (w64 (Int.tdiv n 9) + 1))) : Int)) <| .ok (.inr ((List.take (Int.toNat (w64 (w64 (Int.tdiv n 9) + 1))) (List.set (List.replicate (Int.toNat (w64 (w64 (Int.tdiv n 9) + 1))) 0) (0 + Int.toNat (w64 (Int.tdiv n 9))) i.2.1), ()))))
def ao6 (n : Int) : TT uo :=
 .triv (asT Int 9 ≠ 0) zf <| .need (0 ≤ w64 (w64 (Int.tdiv n 9) + 1) ∧ w64 (w64 (Int.tdiv n 9) + 1) ≤ w64 (w64 (Int.tdiv n 9) + 1) ∧ w64 (w64 (Int.tdiv n 9) + 1) * (↑4 : Int) ≤ 140737488355328) <| .triv (asT Int 9 ≠ 0) zf <| .loop 0 (.tt <| .vL (vW (1 : Int) (0 : Int) (Int.tmod n 9) <| (vQ 4 0 (Int.toNat (w64 (w64 (Int.tdiv n 9) + 1))) true) ∧ True ∧ vU n) <| .vL (vK (vP 189 (List.replicate (Int.toNat (w64 (w64 (Int.tdiv n 9) + 1))) 0 : List Int)) True) <| .ok ((0, 1, ()))) (auI n)
def aJH : LTab := [(242, 122, 8193, ⟨0, (Int) × (List Int) × Unit, .dat (.s 11) ud <| .dat (.s 5) uX <| .nil, [10, 6, 4], [], 0⟩)]
def awE (m : List Int) (n : Int) (i : (Int) × (List Int) × Unit) : TT tf :=
 .ite (decide (i.1 < n))
 (.call (akB (m, i.2.1, ())) Dd0 fun y =>
 .tt <| .lt (w64 (i.1 + 1) : Int) fun z1 => .vL (vW y.1 z1 n <| (vM (257 : FuncId) <| (vU m) ∧ True) ∧ True ∧ True) <| .tr <| .ok (.inl ((z1, y.1, ()))))
 (.ok (.inr ((i.2.1, ()))))
def aAD (m : List Int) (n : Int) : TT uo :=
 .loop 0 (.tt <| .lt ([1] : List Int) fun z => .vL (vW z (0 : Int) n <| (vM (257 : FuncId) <| (vU m) ∧ True) ∧ True ∧ True) <| .tr <| .ok ((0, z, ()))) (awE m n)
def aMg : LTab := [(270, 30, 10241, ⟨0, (List Int) × Unit, .dat (.s 5) uX <| .nil, [0, 1], [], 0⟩)]
def ajV (m : List Int) (k : Int) (y : Bool × Unit) (y1 : Int × Unit) (y2 : List Int × Unit) (i : (List Int) × Unit) : TT (tH ⊕ uo) :=
 .call (akC (i.1, w64 (k - 1), ())) Dd0 fun y3 =>
 .call (alP (m, y3.1, ())) Dd4 fun y4 =>
 .call (ahI (abU (w64 (k - 1)), ())) Dd0 fun y5 =>
 .call (akB (i.1, y5.1, ())) Dd0 fun y6 =>
 .call (arM (y6.1, y4.1, ())) Dd0 fun y7 =>
 .call (at8 (y7.1, aeH k, ())) aT7 fun y8 =>
 .call (am4 (y8.1, i.1, ())) Dd6 fun y9 =>
 .ite (decide (y9.1 ≥ 0))
 (.ok (.inr ((i.1, ()))))
 (.tt <| .vL (vO y8.1 m k) <| .tr <| .ok (.inl ((y8.1, ()))))
def aDM (m : List Int) (k : Int) : TT uo :=
 .call (aiG (m, ())) Dd1 fun y =>
 .ite (y.1)
 (.ok (([], ())))
 (.call (alO (m, ())) Dd6 fun y1 =>
 .need (k ≠ 0) <| .call (alR (w64 (w64 (Int.tdiv y1.1 k) + 1), ())) Dd0 fun y2 =>
 .loop 0 (.tt <| .vL (vO y2.1 m k) <| .tr <| .ok ((y2.1, ()))) (ajV m k y y1 y2))
def aRc : LTab := []
def aCW (a : List UInt8 × List UInt8 × Unit) : TT ((ul × List Int × Unit) × Bool × Unit) :=
 .call (afX (a.1, ())) Dd6 fun y =>
 .ite (y.1 != 0)
 (.ok (((([], false, ()), [], ()), false, ())))
 (.call (afX (a.2.1, ())) Dd6 fun y1 =>
 .ite (y1.1 != 0)
 (.ok (((([], false, ()), [], ()), false, ())))
 (.call (agI (a.1, ())) Dd5 fun y2 =>
 .call (agI (a.2.1, ())) Dd5 fun y3 =>
 .call (akN ((y3.1.1, y3.1.2.1, ()), ())) Dd6 fun y4 =>
 .ite (decide (y4.1 < 1))
 (.ok (((([], false, ()), [], ()), false, ())))
 (.call (ahK (y2.1.1, y3.1.1, ())) Dd0 fun y5 =>
 .call (aeB (y5.1, [1], ())) Dd6 fun y6 =>
 .ite (y6.1 != 0)
 (.ok (((([], false, ()), [], ()), false, ())))
 (.ok ((((y2.1.1, y2.1.2.1, ()), y3.1.1, ()), true, ()))))))
def aOE : LTab := []
def ayJ (a : List UInt8 × List UInt8 × Unit) : TT uA :=
 .call (abR ((a.1, a.2.1, ()), ())) aJz fun y =>
 .ite (!y.2.1)
 (.ok ((20, ())))
 (.ok ((0, ())))
def aRg : LTab := []
def aC0 (n : List UInt8) (d : List UInt8) : TT uq :=
 .call (afX (n, ())) Dd6 fun y =>
 .ite (y.1 != 0)
 (.ok (((#[].toList, #[].toList, ()), 10, ())))
 (.call (afX (d, ())) Dd6 fun y1 =>
 .ite (y1.1 != 0)
 (.ok (((#[].toList, #[].toList, ()), 10, ())))
 (.call (agI (n, ())) Dd5 fun y2 =>
 .call (agI (d, ())) Dd5 fun y3 =>
 .call (adQ (y3.1.1, ())) Dd1 fun y4 =>
 .ite (y4.1)
 (.ok (((#[].toList, #[].toList, ()), 7, ())))
 (.call (abC (y2.1.1, !y2.1.2.1 == y3.1.2.1, ())) Dd5 fun y5 =>
 .call (alV (y5.1, y3.1.1, ())) Dd8 fun y6 =>
 .call (afI (y6.1, ())) adS fun y7 =>
 .ok (((y7.1.1, y7.1.2.1, ()), y7.2.1, ())))))
def aTx : LTab := []
def aRQ (n : Int) (d : Int) : TT uq :=
 .call (avF (n, ())) Dd2 fun y =>
 .call (avF (d, ())) Dd2 fun y1 =>
 .call (ar2 (y.1, y1.1, ())) adS fun y2 =>
 .ok (((y2.1.1, y2.1.2.1, ()), y2.2.1, ()))
def aRd : LTab := []
def aCY (a : List UInt8 × List UInt8 × Unit) : TT uh :=
 .call (abR ((a.1, a.2.1, ()), ())) aJz fun y =>
 .ite (!y.2.1)
 (.ok ((0, 20, ())))
 (.call (akN ((y.1.1.1, y.1.1.2.1, ()), ())) Dd6 fun y1 =>
 .ok ((y1.1, 0, ())))
def aSN : LTab := []
def aHJ (a : List UInt8 × List UInt8 × Unit) (b : List UInt8 × List UInt8 × Unit) : TT uh :=
 .tt <| .tt <| .call (abR ((a.1, a.2.1, ()), ())) aJz fun y =>
 .call (abR ((b.1, b.2.1, ()), ())) aJz fun y1 =>
 .ite (!y.2.1)
 (.ok ((0, 20, ())))
 (.ite (!y1.2.1)
 (.ok ((0, 20, ())))
 (.call (aoJ (((y.1.1.1, y.1.1.2.1, ()), y.1.2.1, ()), ((y1.1.1.1, y1.1.1.2.1, ()), y1.1.2.1, ()), ())) Dd6 fun y2 =>
 .ok ((y2.1, 0, ()))))
def aSO : LTab := []
def aHL (a : List UInt8 × List UInt8 × Unit) (b : List UInt8 × List UInt8 × Unit) : TT uq :=
 .tt <| .tt <| .call (abR ((a.1, a.2.1, ()), ())) aJz fun y =>
 .call (abR ((b.1, b.2.1, ()), ())) aJz fun y1 =>
 .ite (!y.2.1)
 (.tt <| .tt <| .ok (((#[].toList, #[].toList, ()), 20, ())))
 (.ite (!y1.2.1)
 (.tt <| .tt <| .ok (((#[].toList, #[].toList, ()), 20, ())))
 (.call (ar0 (((y.1.1.1, y.1.1.2.1, ()), y.1.2.1, ()), ((y1.1.1.1, y1.1.1.2.1, ()), y1.1.2.1, ()), ())) Dd8 fun y2 =>
 .tt <| .tt <| .call (afI (((y2.1.1.1, y2.1.1.2.1, ()), y2.1.2.1, ()), ())) adS fun y3 =>
 .ok (((y3.1.1, y3.1.2.1, ()), y3.2.1, ()))))
def aSK : LTab := []
def aHF (a : List UInt8 × List UInt8 × Unit) (b : List UInt8 × List UInt8 × Unit) : TT uq :=
 .tt <| .tt <| .call (abR ((a.1, a.2.1, ()), ())) aJz fun y =>
 .call (abR ((b.1, b.2.1, ()), ())) aJz fun y1 =>
 .ite (!y.2.1)
 (.tt <| .tt <| .ok (((#[].toList, #[].toList, ()), 20, ())))
 (.ite (!y1.2.1)
 (.tt <| .tt <| .ok (((#[].toList, #[].toList, ()), 20, ())))
 (.call (awB (((y.1.1.1, y.1.1.2.1, ()), y.1.2.1, ()), ((y1.1.1.1, y1.1.1.2.1, ()), y1.1.2.1, ()), ())) Dd8 fun y2 =>
 .tt <| .tt <| .call (afI (((y2.1.1.1, y2.1.1.2.1, ()), y2.1.2.1, ()), ())) adS fun y3 =>
 .ok (((y3.1.1, y3.1.2.1, ()), y3.2.1, ()))))
def aSL : LTab := []
def aHG (a : List UInt8 × List UInt8 × Unit) (b : List UInt8 × List UInt8 × Unit) : TT uq :=
 .tt <| .tt <| .call (abR ((a.1, a.2.1, ()), ())) aJz fun y =>
 .call (abR ((b.1, b.2.1, ()), ())) aJz fun y1 =>
 .ite (!y.2.1)
 (.tt <| .tt <| .ok (((#[].toList, #[].toList, ()), 20, ())))
 (.ite (!y1.2.1)
 (.tt <| .tt <| .ok (((#[].toList, #[].toList, ()), 20, ())))
 (.call (arZ (((y.1.1.1, y.1.1.2.1, ()), y.1.2.1, ()), ((y1.1.1.1, y1.1.1.2.1, ()), y1.1.2.1, ()), ())) Dd8 fun y2 =>
 .tt <| .tt <| .call (afI (((y2.1.1.1, y2.1.1.2.1, ()), y2.1.2.1, ()), ())) adS fun y3 =>
 .ok (((y3.1.1, y3.1.2.1, ()), y3.2.1, ()))))
def aSM : LTab := []
def aHI (a : List UInt8 × List UInt8 × Unit) (b : List UInt8 × List UInt8 × Unit) : TT uq :=
 .call (abR ((a.1, a.2.1, ()), ())) aJz fun y =>
 .call (abR ((b.1, b.2.1, ()), ())) aJz fun y1 =>
 .ite (!y.2.1)
 (.ok (((#[].toList, #[].toList, ()), 20, ())))
 (.ite (!y1.2.1)
 (.ok (((#[].toList, #[].toList, ()), 20, ())))
 (.call (adQ (y1.1.1.1, ())) Dd1 fun y2 =>
 .ite (y2.1)
 (.ok (((#[].toList, #[].toList, ()), 7, ())))
 (.call (ajC (((y1.1.1.1, y1.1.1.2.1, ()), y1.1.2.1, ()), ())) Dd8 fun y3 =>
 .call (arZ (((y.1.1.1, y.1.1.2.1, ()), y.1.2.1, ()), y3.1, ())) Dd8 fun y4 =>
 .call (afI (y4.1, ())) adS fun y5 =>
 .ok (((y5.1.1, y5.1.2.1, ()), y5.2.1, ())))))
def aOB : LTab := []
def ayI (a : List UInt8 × List UInt8 × Unit) : TT tg :=
 .call (abR ((a.1, a.2.1, ()), ())) aJz fun y =>
 .ite (!y.2.1)
 (.ok ((#[].toList, 20, ())))
 (.call (akO ((y.1.1.1, y.1.1.2.1, ()), y.1.2.1, ())) Dd5 fun y1 =>
 .call (akM (y1.1, ())) Dd2 fun y2 =>
 .ok ((y2.1, 0, ())))
def aRf : LTab := []
def aCZ (a : List UInt8 × List UInt8 × Unit) (scale : Int) : TT uh :=
 .call (abR ((a.1, a.2.1, ()), ())) aJz fun y =>
 .ite (!y.2.1)
 (.ok ((0, 20, ())))
 (.ite (decide (scale < 1))
 (.ok ((0, 2, ())))
 (.ite (decide (scale > 1000000000000))
 (.ok ((0, 2, ())))
 (.call (abT (abU scale, ())) Dd0 fun y1 =>
 .call (arY (((y.1.1.1, y.1.1.2.1, ()), y.1.2.1, ()), y1.1, ())) Dd5 fun y2 =>
 .call (akM (y2.1, ())) Dd2 fun y3 =>
 .call (alS (y3.1, ())) aDK fun y4 =>
 .ite (y4.2.1 != 0)
 (.ok ((0, 6, ())))
 (.ok ((y4.1, 0, ()))))))
end
theorem aMQ {s t : List UInt8} {b : Bool} (hc : ab4 (s, #[45].toList, ()) = some (t, b, ())) (h : ¬ (isD t ∧ t ≠ [] ∧ t.length ≤ 600 ∧ (t.head? = some 48 → b = false ∧ t.length = 1))) : rdW s = none := by
 refine aIy fun z hz he => h ?_
 rw [← he, aF4] at hc
 injection hc with hc
 obtain ⟨rfl, h2⟩ := Prod.mk.inj hc
 obtain ⟨rfl, -⟩ := Prod.mk.inj h2
 refine ⟨alE _, ae9 _, hz, fun h0 => ?_⟩
 by_cases hn : z.natAbs = 0
 ·rw [hn, abL zc]
  exact ⟨zn zc, rfl⟩
 ·exact absurd h0 (aOZ hn)
theorem aMP {s t : List UInt8} {b : Bool} (hc : ab4 (s, #[45].toList, ()) = some (t, b, ())) (h1 : isD t) (h2 : t ≠ []) (h3 : t.length ≤ 600) (h4 : t.head? = some 48 → b = false ∧ t.length = 1) : ∃ z : Int, rdW s = some z ∧ z.natAbs = num t ∧ decide (z < 0) = b := by
 have hu : t = aa2 (num t) := aFw h1 h2 (by
  by_cases h0 : t.head? = some 48
  ·exact Or.inr (h4 h0).2
  ·exact Or.inl h0)
 have hs : s = if b then 45 :: t else t := by
  injection hc with hc
  simp only at hc
  split at hc
  ·rename_i hp
   obtain ⟨e1, e2⟩ := Prod.mk.inj hc
   obtain ⟨rfl, -⟩ := Prod.mk.inj e2
   cases s with
   | nil => cases hp
   | cons c s =>
    have : c = 45 := by
     have h5 : ([45] : List UInt8).isPrefixOf (c :: s) = true := hp
     simp [List.isPrefixOf] at h5
     exact h5.symm
    rw [this, ← e1]; rfl
  ·obtain ⟨e1, e2⟩ := Prod.mk.inj hc
   obtain ⟨rfl, -⟩ := Prod.mk.inj e2
   rw [← e1]; rfl
 cases b
 ·refine ⟨(num t : Int), ?_, by simp, by simp⟩
  have : s = dec (num t : Int) := by rw [aeQ, ← hu, hs]; rfl
  rw [this, amB (show (aa2 (num t : Int).natAbs).length ≤ 600 by simp; rw [← hu]; exact h3)]
 ·have hn : num t ≠ 0 := by
   intro h0
   rw [h0, abL zc] at hu
   have := h4 (by rw [hu]; rfl)
   cases this.1
  refine ⟨-(num t : Int), ?_, by simp, by simp; omega⟩
  have : s = dec (-(num t : Int)) := by rw [aiB zc, xH, zQ, ← hu, hs]; rfl
  rw [this, amB (show (aa2 (-(num t : Int)).natAbs).length ≤ 600 by simp; rw [← hu]; exact h3)]
noncomputable def aS0 (s : List UInt8) : SgT × Bool × Unit := match rdW s with | some z => (sg z, true, ()) | none => (([], false, ()), false, ())
theorem aJJ (a : List UInt8) (y) (h : afV (a, ()) = some y) : (aBZ a).toO = some y := by
 have hy : y = aS0 a := by injection h with h; exact h.symm
 clear h
 subst hy
 obtain ⟨t, b, hc⟩ : ∃ t b, ab4 (a, #[45].toList, ()) = some (t, b, ()) := ⟨_, _, rfl⟩
 have hnot : ¬ (isD t ∧ t ≠ [] ∧ t.length ≤ 600 ∧ (t.head? = some 48 → b = false ∧ t.length = 1)) → aS0 a = (([], false, ()), false, ()) := fun h => by unfold aS0; rw [aMQ hc h]
 have hyes : isD t → t ≠ [] → t.length ≤ 600 → (t.head? = some 48 → b = false ∧ t.length = 1) → akD (t, ()) = some (mag (num t), ()) ∧ aS0 a = ((mag (num t), b, ()), true, ()) := fun h1 h2 h3 h4 => by
  obtain ⟨z, e1, e2, e3⟩ := aMP hc h1 h2 h3 h4
  refine ⟨?_, ?_⟩
  ·unfold akD
   rw [if_pos ⟨h1, h2, by simp only; omega⟩]
  ·unfold aS0
   rw [e1]
   show ((mag z.natAbs, decide (z < 0), ()), true, ()) = _
   rw [e2, e3]
 unfold aBZ
 refine uC (t, b, ()) hc ?_
 by_cases h1 : t = []
 ·rw [hnot (fun h => h.2.1 h1)]
  refine uR _ (uT (by simp [h1, len]) rfl)
 have hlen : 1 ≤ t.length := ya.2 h1
 by_cases h2 : t.length ≤ 600
 case neg =>
  rw [hnot (fun h => h2 h.2.2.1)]
  refine uR _ (uF sd (uT sd rfl))
 refine uL (false, ()) (uF sd (uF sd rfl)) ?_
 refine uO (0, ()) rfl ?_
 refine aaL (fun i : Int × Unit => ∃ k : Nat, i.1 = (k : Int) ∧ k ≤ t.length ∧ isD (t.take k)) (fun i => ((t.length : Int) - i.1).toNat) (fun _ => aS0 a) ?_ _ ⟨0, rfl, by omega, by simp [isD]⟩
 rintro ⟨i, u⟩ ⟨k, h3, h4, h5⟩
 simp only at h3
 subst h3
 simp only [aDP, aaM]
 rcases zr k t.length with hk | hk
 ·have e1 : t.getD k 0 = t[k] := by simp [hk]
  simp only [e1]
  by_cases c1 : t[k].toNat < 48
  ·right
   rw [hnot (fun h => by have := h.1 t[k] (yf hk); omega)]
   repeat refine za ?_
   rfl
  by_cases c2 : t[k].toNat > 57
  ·right
   rw [hnot (fun h => by have := h.1 t[k] (yf hk); omega)]
   repeat refine za ?_
   rfl
  ·left
   refine ⟨(((k + 1 : Nat) : Int), ()), ?_, ⟨k + 1, rfl, by omega, ?_⟩, by simp only; omega, ze⟩
   ·repeat refine za ?_
    simp (disch := omega) only [aaJ, aaA, aaP, aa0, abO, aaM, zu, zp, aaC, zt]
    rfl
   ·rw [zX hk, isD_append]
    refine ⟨h5, fun c hc => ?_⟩
    have := zZ.1 hc
    subst this
    omega
 ·right
  have hd : isD t := by rwa [zx hk] at h5
  refine uF sd (uN ⟨by simp [asT], by exact sn⟩ ?_)
  cases ht : t with
  | nil => exact absurd ht h1
  | cons c r =>
   rw [← ht]
   have hg : gi t 0 0 = c := by rw [ht]; rfl
   simp only [hg]
   have hh : t.head? = some c := by rw [ht]; rfl
   by_cases c0 : c = 48
   ·subst c0
    refine uT (by rfl) ?_
    cases b
    ·refine uF rfl ?_
     by_cases hl : t.length = 1
     ·obtain ⟨g1, g2⟩ := hyes hd h1 h2 (fun _ => ⟨rfl, hl⟩)
      rw [g2]
      exact uF sd (uC _ g1 rfl)
     ·rw [hnot (fun h => hl (h.2.2.2 hh).2)]
      exact uT sd rfl
    ·rw [hnot (fun h => by have := (h.2.2.2 hh).1; cases this)]
     exact uT rfl rfl
   ·obtain ⟨g1, g2⟩ := hyes hd h1 h2 (fun h => by rw [hh] at h; injection h with h; exact absurd h c0)
    rw [g2]
    refine uF ?_ (uC _ g1 rfl)
    rw [beq_eq_false_iff_ne]
    intro h
    exact c0 (UInt8.toNat_inj.1 (Int.ofNat.inj h))
theorem adI {s : List UInt8} {z : Int} (h : rdW s = some z) : afV (s, ()) = some (sg z, true, ()) := by unfold afV; rw [h]
theorem adJ {s : List UInt8} (h : rdW s = none) : afV (s, ()) = some (([], false, ()), false, ()) := by unfold afV; rw [h]
theorem aGm (a : List UInt8) (y) (h : afX (a, ()) = some y) : (awG a).toO = some y := by
 unfold afX at h
 unfold awG
 cases hr : rdW a with
 | none =>
  simp only [hr] at h
  exact uC _ (adJ hr) (uT rfl h)
 | some z =>
  simp only [hr] at h
  exact uC _ (adI hr) (uF rfl h)
theorem aJK (a b : List UInt8) (y) (h : afW (a, b, ()) = some y) : (aB0 a b).toO = some y := by
 unfold afW at h
 unfold aB0
 cases hr : rdW a with
 | none =>
  simp only [hr] at h
  cases hb : rdW b with
  | none => exact uC _ (adJ hr) (uC _ (adJ hb) (uT rfl h))
  | some w => exact uC _ (adJ hr) (uC _ (adI hb) (uT rfl h))
 | some z =>
  cases hb : rdW b with
  | none =>
   simp only [hr, hb] at h
   exact uC _ (adI hr) (uC _ (adJ hb) (uF rfl (uT rfl h)))
  | some w =>
   simp only [hr, hb] at h
   exact uC _ (adI hr) (uC _ (adI hb) (uF rfl (uF rfl h)))
theorem aPY (n : Int) (y) (h : avF (n, ()) = some y) : (aRD n).toO = some y := by
 unfold avF at h
 split at h
 ·rename_i hp
  exact uC (dec n, ()) (by unfold aBM; exact if_pos hp) h
 ·cases h
theorem aPG {n : Int} (h : abA n) : avF (n, ()) = some (dec n, ()) := by unfold avF; rw [if_pos h]
theorem aFU {a b : Int} (h1 : Bd 7 a.natAbs) (h2 : Bd 7 b.natAbs) : ai5 (sg a, sg b, ()) = some (sg (a * b), ()) := aaG (enc := fun x : Int × Int => (sg x.1, sg x.2, ())) (a, b) ⟨h1, h2⟩ (fun b hb => aCe hb)
theorem aoX {s : List UInt8} {z : Int} (h : rdW s = some z) : Bd 0 z.natAbs := aiE (ae2 h).1
theorem aMm (a b : List UInt8) (y) (h : auA (a, b, ()) = some y) : (aGj a b).toO = some y := by
 unfold auA at h
 unfold aGj
 refine uV (uV ?_)
 cases hr : rdW a with
 | none =>
  simp only [hr] at h
  refine uC (([], false, ()), ([], false, ()), 10, ()) (by unfold afW; simp only [hr]) (uT rfl h)
 | some z =>
  cases hb : rdW b with
  | none =>
   simp only [hr, hb] at h
   refine uC (([], false, ()), ([], false, ()), 10, ()) (by unfold afW; simp only [hr, hb]) (uT rfl h)
  | some w =>
   simp only [hr, hb] at h
   have b1 := aoX hr
   have b2 := aoX hb
   refine uC (sg z, sg w, 0, ()) (by unfold afW; simp only [hr, hb]) (uF rfl (uV ?_))
   refine uC _ (aFU (aaF b1 zc) (aaF b2 zc)) ?_
   refine uC _ (ar5 (aaF (aaB b1 b2) zc)) ?_
   exact h
theorem aeG (s : List UInt8) : afX (s, ()) = some (if (rdW s).isSome then 0 else 10, ()) := rfl
theorem aO9 (n : Nat) : avA n 1 = 0 ↔ n = 1 := by
 unfold avA
 split
 ·omega
 ·split <;> omega
theorem aLe (a : FxT) (y) (h : abR (a, ()) = some y) : (aCW a).toO = some y := by
 obtain ⟨s, t, u⟩ := a
 have hs := aRK s t
 unfold abR at h
 dsimp only at h
 unfold aCW
 dsimp only
 cases hn : rdW s with
 | none =>
  rw [hn] at hs
  have hs' : rdF (s, t, u) = none := hs
  rw [hs'] at h
  refine uC _ (aeG s) (uT (by rw [hn]; rfl) h)
 | some n =>
  cases hd : rdW t with
  | none =>
   rw [hn, hd] at hs
   have hs' : rdF (s, t, u) = none := hs
   rw [hs'] at h
   refine uC _ (aeG s) (uF (by rw [hn]; rfl) (uC _ (aeG t) (uT (by rw [hd]; rfl) h)))
  | some d =>
   rw [hn, hd] at hs
   dsimp only at hs
   obtain ⟨f1, e1⟩ := ae2 hn
   obtain ⟨f2, e2⟩ := ae2 hd
   have b1 := aoX hn
   have b2 := aoX hd
   refine uC _ (aeG s) (uF (by rw [hn]; rfl) (uC _ (aeG t) (uF (by rw [hd]; rfl) ?_)))
   refine uC (sg n, ()) (by rw [e1]; exact aoQ (aaF b1 zc)) ?_
   refine uC (sg d, ()) (by rw [e2]; exact aoQ (aaF b2 zc)) ?_
   refine uC _ (az2 (aaF b2 zc)) ?_
   by_cases hp : 0 < d
   ·refine uF ?_ ?_
    ·rw [xq hp]; rfl
    have hg := aoP (a := n.natAbs) (b := d.natAbs) (aaF b1 zc) (aaF b2 zc)
    refine uC _ hg ?_
    have hc := avG (a := Nat.gcd n.natAbs d.natAbs) (b := 1) (aaF (aaY b1 b2) zc) (aaF (aaH zc) zc)
    rw [atC] at hc
    refine uC _ hc ?_
    by_cases hcop : n.natAbs.Coprime d.natAbs
    ·rw [dif_pos ⟨hp, hcop⟩] at hs
     have hs' : rdF (s, t, u) = some ⟨n, d.natAbs, by omega, hcop⟩ := hs
     rw [hs'] at h
     refine uF ?_ h
     have : avA (Nat.gcd n.natAbs d.natAbs) 1 = 0 := (aO9 _).2 hcop
     show (avA (Nat.gcd n.natAbs d.natAbs) 1 != 0) = false
     rw [this]; rfl
    ·rw [dif_neg (fun h => hcop h.2)] at hs
     have hs' : rdF (s, t, u) = none := hs
     rw [hs'] at h
     refine uT ?_ h
     show (avA (Nat.gcd n.natAbs d.natAbs) 1 != 0) = true
     rw [xf]
     exact fun h2 => hcop ((aO9 _).1 h2)
   ·rw [dif_neg (fun h => hp h.1)] at hs
    have hs' : rdF (s, t, u) = none := hs
    rw [hs'] at h
    refine uT ?_ h
    rcases zS d 0 with h0 | h0
    ·rw [xd h0]; rfl
    ·have : d = 0 := zc
     rw [this]; rfl
theorem aaQ {s : FxT} {q : Rat} (h : rdF s = some q) : abR (s, ()) = some (rt q, true, ()) := by unfold abR; dsimp only; rw [h]
theorem aaR {s : FxT} (h : rdF s = none) : abR (s, ()) = some ((([], false, ()), [], ()), false, ()) := by unfold abR; dsimp only; rw [h]
theorem acE {k j : Nat} {q : Rat} (h : BdQ k q) (hk : k ≤ j) : BdQ j q := ⟨aaF h.1 hk, aaF h.2 hk⟩
theorem ad3 {s : FxT} {q : Rat} (h : rdF s = some q) : BdQ 0 q := by
 obtain ⟨h1, h2⟩ := (ac0 h).1
 exact ⟨aiE h1, aiE h2⟩
theorem aH7 {k : Nat} {p q : Rat} (h1 : BdQ k p) (h2 : BdQ k q) : BdQ (k + 2) (p + q) := by
 obtain ⟨g, h', top, t, hg, ht, hh, g0, h0, htt, e1, e2⟩ := aFR p q
 refine ⟨?_, ?_⟩
 ·rw [e1, ← adA htt h0]
  refine aaS _ ?_
  rw [ht]
  exact aaE (aaB h1.1 (aaN (aaS _ h2.2))) (aaB h2.1 (aaN (aaS _ h1.2)))
 ·rw [e2]
  exact aaF (aaW (aaS _ h1.2) (aaS _ h2.2)) zc
theorem aPk {k : Nat} {p : Rat} (h1 : BdQ k p) : BdQ k (-p) := ⟨aaV h1.1, h1.2⟩
theorem aPj {k : Nat} {p q : Rat} (h1 : BdQ k p) (h2 : BdQ k q) : BdQ (k + 2) (p - q) := by
 rw [vj]; exact aH7 h1 (aPk h2)
theorem aDq {k : Nat} {p q : Rat} (h1 : BdQ k p) (h2 : BdQ k q) : BdQ (k + 2) (p * q) := by
 obtain ⟨g, h', s, t, hg, hh, g0, h0, hs, ht, e1, e2⟩ := aEX p q
 refine ⟨?_, ?_⟩
 ·rw [e1]
  refine aaF (aaB (k := k) ?_ ?_) zc
  ·rw [← adA hs g0]; exact aaS _ h1.1
  ·rw [← adA ht h0]; exact aaS _ h2.1
 ·rw [e2]
  exact aaF (aaW (aaS _ h1.2) (aaS _ h2.2)) zc
theorem aH6 {k : Nat} {p : Rat} (h : BdQ k p) (h0 : p ≠ 0) : BdQ k p⁻¹ := by
 obtain ⟨e1, e2, e3⟩ := aE5 h0
 exact ⟨by rw [e1]; exact h.2, by rw [e3]; exact h.1⟩
theorem aOF (a b : FxT) (y) (h : aeD (a, b, ()) = some y) : (aHL a b).toO = some y := by
 unfold aeD aMa at h
 dsimp only at h
 unfold aHL
 refine uV (uV ?_)
 cases ha : rdF a with
 | none =>
  simp only [ha] at h
  cases hb : rdF b with
  | none => exact uC _ (aaR ha) (uC _ (aaR hb) (uT rfl (uV (uV h))))
  | some q => exact uC _ (aaR ha) (uC _ (aaQ hb) (uT rfl (uV (uV h))))
 | some p =>
  cases hb : rdF b with
  | none =>
   simp only [ha, hb] at h
   exact uC _ (aaQ ha) (uC _ (aaR hb) (uF rfl (uT rfl (uV (uV h)))))
  | some q =>
   simp only [ha, hb] at h
   have b1 := ad3 ha
   have b2 := ad3 hb
   refine uC _ (aaQ ha) (uC _ (aaQ hb) (uF rfl (uF rfl ?_)))
   refine uC _ (aJw (acE b1 zc) (acE b2 zc)) (uV (uV ?_))
   exact uC _ (akU (acE (aH7 b1 b2) zc)) h
theorem aOz (a b : FxT) (y) (h : afA (a, b, ()) = some y) : (aHF a b).toO = some y := by
 unfold afA aMa at h
 dsimp only at h
 unfold aHF
 refine uV (uV ?_)
 cases ha : rdF a with
 | none =>
  simp only [ha] at h
  cases hb : rdF b with
  | none => exact uC _ (aaR ha) (uC _ (aaR hb) (uT rfl (uV (uV h))))
  | some q => exact uC _ (aaR ha) (uC _ (aaQ hb) (uT rfl (uV (uV h))))
 | some p =>
  cases hb : rdF b with
  | none =>
   simp only [ha, hb] at h
   exact uC _ (aaQ ha) (uC _ (aaR hb) (uF rfl (uT rfl (uV (uV h)))))
  | some q =>
   simp only [ha, hb] at h
   have b1 := ad3 ha
   have b2 := ad3 hb
   refine uC _ (aaQ ha) (uC _ (aaQ hb) (uF rfl (uF rfl ?_)))
   refine uC _ (aRA (acE b1 zc) (acE b2 zc)) (uV (uV ?_))
   exact uC _ (akU (acE (aPj b1 b2) zc)) h
theorem aOA (a b : FxT) (y) (h : adU (a, b, ()) = some y) : (aHG a b).toO = some y := by
 unfold adU aMa at h
 dsimp only at h
 unfold aHG
 refine uV (uV ?_)
 cases ha : rdF a with
 | none =>
  simp only [ha] at h
  cases hb : rdF b with
  | none => exact uC _ (aaR ha) (uC _ (aaR hb) (uT rfl (uV (uV h))))
  | some q => exact uC _ (aaR ha) (uC _ (aaQ hb) (uT rfl (uV (uV h))))
 | some p =>
  cases hb : rdF b with
  | none =>
   simp only [ha, hb] at h
   exact uC _ (aaQ ha) (uC _ (aaR hb) (uF rfl (uT rfl (uV (uV h)))))
  | some q =>
   simp only [ha, hb] at h
   have b1 := ad3 ha
   have b2 := ad3 hb
   refine uC _ (aaQ ha) (uC _ (aaQ hb) (uF rfl (uF rfl ?_)))
   refine uC _ (aJv (acE b1 zc) (acE b2 zc)) (uV (uV ?_))
   exact uC _ (akU (acE (aDq b1 b2) zc)) h
theorem aOC (a b : FxT) (y) (h : aeT (a, b, ()) = some y) : (aHI a b).toO = some y := by
 unfold aeT at h
 dsimp only at h
 unfold aHI
 cases ha : rdF a with
 | none =>
  simp only [ha] at h
  cases hb : rdF b with
  | none => exact uC _ (aaR ha) (uC _ (aaR hb) (uT rfl h))
  | some q => exact uC _ (aaR ha) (uC _ (aaQ hb) (uT rfl h))
 | some p =>
  cases hb : rdF b with
  | none =>
   simp only [ha, hb] at h
   exact uC _ (aaQ ha) (uC _ (aaR hb) (uF rfl (uT rfl h)))
  | some q =>
   simp only [ha, hb] at h
   have b1 := ad3 ha
   have b2 := ad3 hb
   refine uC _ (aaQ ha) (uC _ (aaQ hb) (uF rfl (uF rfl ?_)))
   refine uC _ (ar9 _) ?_
   by_cases h0 : q = 0
   ·rw [if_pos h0] at h
    exact uT (zo (by rw [h0]; rfl)) h
   ·rw [if_neg h0] at h
    have := aI1 h0
    refine uF sd ?_
    refine uC _ (aF2 (acE b2 zc) h0) ?_
    refine uC _ (aJv (acE b1 zc) (acE (aH6 b2 h0) zc)) ?_
    exact uC _ (akU (acE (aDq b1 (aH6 b2 h0)) zc)) h
theorem aOD (a b : FxT) (y) (h : af1 (a, b, ()) = some y) : (aHJ a b).toO = some y := by
 unfold af1 at h
 dsimp only at h
 unfold aHJ
 refine uV (uV ?_)
 cases ha : rdF a with
 | none =>
  simp only [ha] at h
  cases hb : rdF b with
  | none => exact uC _ (aaR ha) (uC _ (aaR hb) (uT rfl h))
  | some q => exact uC _ (aaR ha) (uC _ (aaQ hb) (uT rfl h))
 | some p =>
  cases hb : rdF b with
  | none =>
   simp only [ha, hb] at h
   exact uC _ (aaQ ha) (uC _ (aaR hb) (uF rfl (uT rfl h)))
  | some q =>
   simp only [ha, hb] at h
   have b1 := ad3 ha
   have b2 := ad3 hb
   exact uC _ (aaQ ha) (uC _ (aaQ hb) (uF rfl (uF rfl (uC _ (aL2 (acE b1 zc) (acE b2 zc)) h))))
theorem aHK (a : FxT) (y) (h : akQ (a, ()) = some y) : (ayJ a).toO = some y := by
 unfold akQ at h
 dsimp only at h
 unfold ayJ
 cases ha : rdF a with
 | none =>
  simp only [ha] at h
  exact uC _ (aaR ha) (uT rfl h)
 | some q =>
  simp only [ha] at h
  exact uC _ (aaQ ha) (uF rfl h)
theorem aLh (a : FxT) (y) (h : ar1 (a, ()) = some y) : (aCY a).toO = some y := by
 unfold ar1 at h
 dsimp only at h
 unfold aCY
 cases ha : rdF a with
 | none =>
  simp only [ha] at h
  exact uC _ (aaR ha) (uT rfl h)
 | some q =>
  simp only [ha] at h
  exact uC _ (aaQ ha) (uF rfl (uC _ (az2 (aaF (ad3 ha).1 zc)) h))
theorem aSH {z : Int} (h : Fit z) : (mag z.natAbs).length ≤ 600 := agR h
theorem aRT {n : Nat} (h : (mag n).length ≤ 1000000) : Bd 0 n := h
theorem aRP {a : Int} {d : Nat} {k : Nat} (h : (mag a.natAbs).length ≤ k) (hk : 1 ≤ k) : (mag (a / (d : Int)).natAbs).length ≤ k + 1 := by
 rcases zD d with h0 | h0
 ·subst h0
  simp only [Int.natCast_zero, Int.ediv_zero, wA, mag_zero]
  simp
 ·have hle : (a / (d : Int)).natAbs ≤ a.natAbs + 1 := by
   rcases zS a 0 with h1 | h1
   ·rw [atN h1 zc, xH, zQ]
    have := xB a.natAbs d
    split <;> omega
   ·obtain ⟨n, rfl⟩ := zv h1
    have : ((n : Int) / (d : Int)) = ((n / d : Nat) : Int) := zi
    rw [this, zQ]
    have := xB n d
    omega
  have h2 := abX hle
  have h3 := ajM a.natAbs 1
  have h4 : (mag 1).length = 1 := by rw [atC]; rfl
  omega
theorem aHH (a : FxT) (y) (h : akP (a, ()) = some y) : (ayI a).toO = some y := by
 unfold akP at h
 dsimp only at h
 unfold ayI
 cases ha : rdF a with
 | none =>
  simp only [ha] at h
  exact uC _ (aaR ha) (uT rfl h)
 | some q =>
  simp only [ha] at h
  have b := ad3 ha
  refine uC _ (aaQ ha) (uF rfl ?_)
  refine uC _ (aBV (aaF b.1 zc) (aaF b.2 zc) q.den_nz) ?_
  refine uC _ (az1 (aRT ?_)) h
  have := aRP (d := q.den) (aSH (ac0 ha).1.1) zc
  omega
theorem aLj (n d : List UInt8) (y) (h : ar2 (n, d, ()) = some y) : (aC0 n d).toO = some y := by
 unfold ar2 at h
 dsimp only at h
 unfold aC0
 cases hn : rdW n with
 | none =>
  simp only [hn] at h
  exact uC _ (aeG n) (uT (by rw [hn]; rfl) h)
 | some a =>
  cases hd : rdW d with
  | none =>
   simp only [hn, hd] at h
   exact uC _ (aeG n) (uF (by rw [hn]; rfl) (uC _ (aeG d) (uT (by rw [hd]; rfl) h)))
  | some b =>
   simp only [hn, hd] at h
   have b1 := aoX hn
   have b2 := aoX hd
   refine uC _ (aeG n) (uF (by rw [hn]; rfl) (uC _ (aeG d) (uF (by rw [hd]; rfl) ?_)))
   refine uC (sg a, ()) (by rw [(ae2 hn).2]; exact aoQ (aaF b1 zc)) ?_
   refine uC (sg b, ()) (by rw [(ae2 hd).2]; exact aoQ (aaF b2 zc)) ?_
   refine uC _ (ar9 _) ?_
   unfold ofQ at h
   by_cases h0 : b = 0
   ·rw [if_pos h0] at h
    exact uT sd h
   ·rw [if_neg h0] at h
    refine uF sd ?_
    obtain ⟨s, hs, hv⟩ : ∃ s : Int, s.natAbs = a.natAbs ∧ (s = 0 ∨ (!(decide (a < 0) == decide (b < 0))) = decide (s < 0)) ∧ Rat.divInt a b = mkRat s b.natAbs := by
     rcases zS b 0 with c | c
     ·refine ⟨-a, by omega, ?_, ?_⟩
      ·by_cases ha : a = 0
       ·left; omega
       ·right
        rw [zo c]
        rcases zS a 0 with c2 | c2
        ·rw [zo c2, zn zc]; rfl
        ·rw [zn zc, zo zc]; rfl
      ·rw [← Rat.neg_divInt_neg, ← xh]
       congr 1; omega
     ·refine ⟨a, rfl, ?_, ?_⟩
      ·right
       rw [zn (show ¬ b < 0 by omega)]
       cases decide (a < 0) <;> rfl
      ·rw [← xh]
       congr 1; omega
    obtain ⟨hv1, hv2⟩ := hv
    rw [hv2] at h
    refine uC (sg s, ()) (ab1 hs.symm hv1) ?_
    refine uC _ (aIj (by rw [hs]; exact aaF b1 zc) (aaF b2 zc) zc) ?_
    refine uC _ (akU ?_) h
    obtain ⟨g, t, hg, g0, e0, e1, e2⟩ := ae6 s (d := b.natAbs) zc
    refine ⟨?_, ?_⟩
    ·rw [e1, ← adA e0 g0, hs]; exact aaF (aaS _ b1) zc
    ·rw [e2]; exact aaF (aaS _ b2) zc
theorem abK {z : Int} (h : abA z) : Fit z := by
 unfold abA at h
 have : (aa2 z.natAbs).length ≤ 20 := (ac8 zc).2 zc
 unfold Fit; omega
theorem aRe (n d : Int) (y) (h : alZ (n, d, ()) = some y) : (aRQ n d).toO = some y := by
 unfold alZ at h
 split at h
 ·rename_i hp
  refine uC _ (aPG hp.1) (uC _ (aPG hp.2) ?_)
  refine uC (ofQ n d) ?_ h
  unfold ar2
  simp only [amB (abK hp.1), amB (abK hp.2)]
 ·cases h
theorem azW {z : Int} (h : Fit z) : alS (dec z, ()) = some (if abA z then (z, 0, ()) else (0, 6, ())) := by
 unfold alS
 simp only [amB h]
theorem aBh {z : Int} (h : Fit z) : (mag z.natAbs).length ≤ 67 := by
 have hl : (aa2 z.natAbs).length ≤ 600 := h
 obtain ⟨L, hL⟩ : ∃ L : Nat, L = 67 := ⟨_, rfl⟩
 rw [← hL, mag_length_le_iff]
 have h1 := af7 z.natAbs
 have h3 : (10 : Nat) ^ (9 * L) = 1000000000 ^ L := by rw [xL]
 have h2 : (10 : Nat) ^ (aa2 z.natAbs).length ≤ 10 ^ (9 * L) := zV zc zc
 omega
theorem aQQ {q : Rat} (h : ab6 q) {s : Nat} (hs : s ≤ 1000000000000) : (mag (aqS q s).natAbs).length ≤ 200 := by
 rw [aN2]
 have h1 := aBh h.1
 have h2 := aBh h.2
 have hs2 : (mag (s * 2)).length ≤ 2 := mag_length_le_iff.2 zc
 have e1 : (mag (q.num * (s * 2 : Nat) + q.den).natAbs).length ≤ 100 := by
  have a1 := Int.natAbs_add_le (q.num * (s * 2 : Nat)) q.den
  have a2 := abX a1
  have a3 := ajM (q.num * (s * 2 : Nat)).natAbs (q.den : Int).natAbs
  rw [yD] at a3 a2
  have a4 := agQ q.num.natAbs ((s * 2 : Nat) : Int).natAbs
  simp only [zQ] at a1 a2 a3 a4 h2 ⊢
  omega
 have := aRP (d := q.den * 2) e1 zc
 omega
theorem aLi (a : FxT) (scale : Int) (y) (h : alW (a, scale, ()) = some y) : (aCZ a scale).toO = some y := by
 unfold alW at h
 dsimp only at h
 unfold aCZ
 cases ha : rdF a with
 | none =>
  simp only [ha] at h
  exact uC _ (aaR ha) (uT rfl h)
 | some q =>
  simp only [ha] at h
  refine uC _ (aaQ ha) (uF rfl ?_)
  have hq := (ac0 ha).1
  have hb := ad3 ha
  by_cases h1 : scale < 1
  ·rw [if_pos (Or.inl h1)] at h
   exact uT (zo h1) h
  by_cases h2 : scale > 1000000000000
  ·rw [if_pos (Or.inr h2)] at h
   exact uF (zn h1) (uT (zo h2) h)
  rw [if_neg zc] at h
  obtain ⟨s, rfl⟩ := zv (show 0 ≤ scale by omega)
  rw [zp] at h
  refine uF (zn h1) (uF (zn h2) ?_)
  have hl := aQQ hq (s := s) zc
  refine uC (mag s, ()) (by rw [aaP zc]; exact aDA zc) ?_
  refine uC _ (aPN (acE hb zc) (aaF (aaH zc) zc)) ?_
  refine uC _ (az1 (aRT zc)) ?_
  by_cases hf : Fit (aqS q s)
  ·refine uC _ (azW hf) ?_
   by_cases hi : abA (aqS q s)
   ·simp only [if_pos hi] at h ⊢
    exact uF rfl h
   ·simp only [if_neg hi] at h ⊢
    exact uT rfl h
  ·have hn : rdW (dec (aqS q s)) = none := aIy fun z hz he => hf (by rw [← ajP he]; exact hz)
   rw [if_neg (fun h => hf (abK h))] at h
   refine uC (0, 10, ()) (by unfold alS; simp only [hn]) (uT rfl h)
theorem ac3 {z : Int} (h : Fit z) : adC (sg z, ()) = some (dec z, 0, ()) := by
 rw [ar5 (aaF (aiE h) zc), ajH h]
theorem ac7 {a b : Int} (h : Fit b) (hab : a.natAbs ≤ b.natAbs) : Fit a := by
 unfold Fit at *
 rw [ac8 zc] at *
 omega
theorem aRk {a b : Int} (hb : b ≠ 0) : (a < 0 → (a / b).natAbs = (if a.natAbs % b.natAbs = 0 then a.natAbs / b.natAbs else a.natAbs / b.natAbs + 1) ∧ (a % b).natAbs = (if a.natAbs % b.natAbs = 0 then 0 else b.natAbs - a.natAbs % b.natAbs)) ∧ (0 ≤ a → (a / b).natAbs = a.natAbs / b.natAbs ∧ (a % b).natAbs = a.natAbs % b.natAbs) := by
 obtain ⟨d, hd, hbd⟩ : ∃ d : Nat, b.natAbs = d ∧ (b = d ∨ b = -(d : Int)) := ⟨b.natAbs, rfl, by omega⟩
 have hd0 : d ≠ 0 := zc
 have e1 : (a / b).natAbs = (a / (d : Int)).natAbs := by
  rcases hbd with h | h
  ·rw [h]
  ·rw [h, Int.ediv_neg, xH]
 have e2 : a % b = a % (d : Int) := by
  rcases hbd with h | h
  ·rw [h]
  ·rw [h, Int.emod_neg]
 rw [e1, e2, hd]
 constructor
 ·intro ha
  have h1 := atN ha hd0
  have h2 := yl a d
  have h3 := xU a.natAbs d
  have h4 := yU a.natAbs (show 0 < d by omega)
  generalize hq : a.natAbs / d = q at *
  generalize hr : a.natAbs % d = r at *
  rw [h1] at h2
  constructor
  ·rw [h1, xH, zQ]
  ·by_cases h0 : r = 0
   ·rw [if_pos h0] at h2 ⊢
    have : (a.natAbs : Int) = ((r + d * q : Nat) : Int) := by rw [h3]
    rw [ve, yd] at this
    have e3 : (d : Int) * -(q : Int) = -((d : Int) * q) := by rw [Int.mul_neg]
    rw [e3] at h2
    generalize (d : Int) * q = w at *
    omega
   ·rw [if_neg h0] at h2 ⊢
    have : (a.natAbs : Int) = ((r + d * q : Nat) : Int) := by rw [h3]
    rw [ve, yd] at this
    have e3 : (d : Int) * -(((q + 1 : Nat)) : Int) = -((d : Int) * q) - d := by rw [Int.mul_neg, ve, wh]; simp; omega
    rw [e3] at h2
    generalize (d : Int) * q = w at *
    omega
 ·intro ha
  obtain ⟨n, rfl⟩ := zv ha
  have h1 : ((n : Int) / (d : Int)) = ((n / d : Nat) : Int) := zi
  have h2 : ((n : Int) % (d : Int)) = ((n % d : Nat) : Int) := zi
  exact ⟨by rw [h1, zQ, zQ], by rw [h2, zQ, zQ]⟩
theorem aOP {a b : Int} (hb : b ≠ 0) : a / b = 0 ∨ (!(decide (a < 0) == decide (b < 0))) = decide (a / b < 0) := by
 by_cases h0 : a / b = 0
 ·exact Or.inl h0
 ·right
  rcases zS a 0 with ha | ha <;> rcases zS b 0 with hb' | hb'
  ·have := Int.ediv_nonneg_of_nonpos_of_nonpos (xo ha) (xo hb')
   rw [zo ha, zo hb', zn zc]; rfl
  ·have := Int.ediv_neg_of_neg_of_pos ha (show 0 < b by omega)
   rw [zo ha, zn zc, zo zc]; rfl
  ·have := Int.ediv_nonpos_of_nonneg_of_nonpos ha (xo hb')
   rw [zn zc, zo hb', zo zc]; rfl
  ·have := xD ha hb'
   rw [zn zc, zn zc, zn zc]; rfl
theorem aMo (a b : List UInt8) (y) (h : auB (a, b, ()) = some y) : (aGl a b).toO = some y := by
 unfold auB at h
 dsimp only at h
 unfold aGl asG
 cases hr : rdW a with
 | none =>
  simp only [hr] at h
  exact uC (([], false, ()), ([], false, ()), 10, ()) (by unfold afW; simp only [hr]) (uT rfl h)
 | some z =>
  cases hb : rdW b with
  | none =>
   simp only [hr, hb] at h
   exact uC (([], false, ()), ([], false, ()), 10, ()) (by unfold afW; simp only [hr, hb]) (uT rfl h)
  | some w =>
   simp only [hr, hb] at h
   have b1 := aoX hr
   have b2 := aoX hb
   have f1 := (ae2 hr).1
   have f2 := (ae2 hb).1
   refine uC (sg z, sg w, 0, ()) (by unfold afW; simp only [hr, hb]) (uF rfl ?_)
   refine uC _ (azS _) ?_
   by_cases h0 : w = 0
   ·rw [if_pos h0] at h
    exact uT sd h
   rw [if_neg h0] at h
   refine uF sd ?_
   have hdv := azU (a := z.natAbs) (b := w.natAbs) (aaF b1 zc) (aaF b2 zc) zc
   obtain ⟨en, ep⟩ := aRk (a := z) h0
   have hsg := aOP (a := z) h0
   have hr0 := yO z h0
   have hrlt : (z % w).natAbs < w.natAbs := by
    rcases zS w 0 with c | c
    ·have := yB z (show 0 < -w by omega)
     rw [Int.emod_neg] at this
     omega
    ·have := yB z (show 0 < w by omega)
     omega
   have fr : Fit (z % w) := ac7 f2 zc
   have hq1 := xB z.natAbs w.natAbs
   have fq : Fit (z / w) := by
    refine ac7 f1 ?_
    rcases zS z 0 with c | c
    ·rw [(en c).1]
     split
     ·exact hq1
     ·rename_i hm
      have : 2 ≤ w.natAbs := by
       rcases zr w.natAbs 2 with c2 | c2
       ·have : w.natAbs = 1 := zc
        rw [this, Nat.mod_one] at hm; exact absurd rfl hm
       ·exact c2
      have h2 := Nat.div_le_div_left this (show 0 < 2 by omega) (a := z.natAbs)
      omega
    ·rw [(ep c).1]; exact hq1
   have tail : ∀ (q r : Nat) (b : Bool), q = (z / w).natAbs → r = (z % w).natAbs → (b = (!(decide (z < 0) == decide (w < 0)))) → ai6 (mag q, b, ()) = some (sg (z / w), ()) ∧ ai6 (mag r, false, ()) = some (sg (z % w), ()) := by
    intro q r b hq hr2 hb2
    refine ⟨aBO hq ?_, aBO hr2 (Or.inr (zn zc).symm)⟩
    rw [hb2]; exact hsg
   refine uC _ hdv ?_
   by_cases c : z < 0
   ·refine uT (zo c) ?_
    refine uC _ (azS _) ?_
    obtain ⟨g1, g2⟩ := en c
    by_cases hm : z.natAbs % w.natAbs = 0
    ·rw [if_pos hm] at g1 g2
     obtain ⟨u1, u2⟩ := tail _ _ (!(decide (z < 0) == decide (w < 0))) g1.symm (hm.trans g2.symm) rfl
     refine uF (by show (!decide _) = false; rw [zo hm]; rfl) ?_
     refine uC _ u1 (uC _ (ac3 fq) (uF rfl ?_))
     exact uC _ u2 (uC _ (ac3 fr) (uF rfl h))
    ·rw [if_neg hm] at g1 g2
     have hlt := yU z.natAbs (show 0 < w.natAbs by omega)
     obtain ⟨u1, u2⟩ := tail _ _ (!(decide (z < 0) == decide (w < 0))) g1.symm g2.symm rfl
     refine uT (by show (!decide _) = true; rw [zn hm]; rfl) ?_
     have hp := aFV (a := z.natAbs / w.natAbs) (b := 1) (aaF (aaS _ b1) zc) (aaF (aaH zc) zc)
     rw [atC] at hp
     refine uC _ hp ?_
     refine uC _ (aLT (aaF b2 zc) zc) ?_
     refine uC _ u1 (uC _ (ac3 fq) (uF rfl ?_))
     exact uC _ u2 (uC _ (ac3 fr) (uF rfl h))
   ·refine uF (zn c) ?_
    obtain ⟨g1, g2⟩ := ep zc
    obtain ⟨u1, u2⟩ := tail _ _ (!(decide (z < 0) == decide (w < 0))) g1.symm g2.symm rfl
    refine uC _ u1 (uC _ (ac3 fq) (uF rfl ?_))
    exact uC _ u2 (uC _ (ac3 fr) (uF rfl h))
theorem aoZ (n : Nat) : ∀ k : Nat, (mag (n ^ k)).length ≤ k * (mag n).length + 1
 | 0 => by simp [atC]
 | k + 1 => by
  have h1 := aoZ n k
  have h2 := agQ (n ^ k) n
  rw [yz, yM]
  rcases zD (mag n).length with h3 | h3
  ·have : n = 0 := mag_nil_iff.1 (zW.1 h3)
   subst this
   simp [mag_zero]
  ·omega
theorem aBN {a n : Nat} (h1 : Bd 2 a) (h2 : n ≤ 40) : akC (mag a, (n : Int), ()) = some (mag (a ^ n), ()) := by
 refine aaG (enc := fun x : Nat × Nat => (mag x.1, (x.2 : Int), ())) (a, n) ⟨h1, h2⟩ (fun b hb => ?_)
 obtain ⟨e1, e2⟩ := Prod.mk.inj hb
 obtain ⟨e2, -⟩ := Prod.mk.inj e2
 exact Prod.ext (ad7 e1) (Int.ofNat.inj e2)
theorem aJn {a n : Nat} (h1 : Bd 2 a) (h2 : n ≤ 40) : Bd 7 (a ^ n) := by
 have h3 := aoZ a n
 unfold Bd at *
 have h4 : n * (mag a).length ≤ 40 * (1000000 * 4 ^ 2) := Nat.mul_le_mul h2 h1
 omega
theorem aDN (m : List Int) (n : Int) (y) (h : akC (m, n, ()) = some y) : (aAD m n).toO = some y := by
 obtain ⟨⟨a, k⟩, hp, hx, rfl⟩ := aaD h
 obtain ⟨rfl, hx2⟩ := Prod.mk.inj hx; obtain ⟨rfl, -⟩ := Prod.mk.inj hx2; dsimp only
 obtain ⟨l1, l2⟩ := hp
 simp only at l1 l2
 refine uO (0, [1], ()) rfl ?_
 refine aaL (fun i : Int × List Int × Unit => ∃ j : Nat, j ≤ k ∧ i = ((j : Int), mag (a ^ j), ())) (fun i => ((k : Int) - i.1).toNat) (fun _ => (mag (a ^ k), ())) ?_ _ ⟨0, by omega, by rw [Nat.pow_zero, atC]; rfl⟩
 rintro i ⟨j, hj, rfl⟩
 simp only [awE]
 rcases zr j k with h1 | h1
 ·left
  refine ⟨(((j + 1 : Nat) : Int), mag (a ^ (j + 1)), ()), ?_, ⟨j + 1, by omega, rfl⟩, by simp only; omega, ze⟩
  refine uT sd ?_
  refine uC (mag (a ^ (j + 1)), ()) (by rw [auE (aaF l1 zc) (aaF (aJn l1 zc) zc), yz, yK]) ?_
  repeat refine za ?_
  simp (disch := omega) only [aaJ, aaA, aaP, aa0, abO, aaM, zu, zp, aaC, zt]
  rfl
 ·right
  have : j = k := zc
  subst this
  refine uF sd rfl
theorem aMl (a : List UInt8) (n : Int) (y) (h : am5 (a, n, ()) = some y) : (aGi a n).toO = some y := by
 unfold am5 at h
 dsimp only at h
 unfold aGi
 cases hr : rdW a with
 | none =>
  simp only [hr] at h
  exact uC _ (adJ hr) (uT rfl h)
 | some z =>
  simp only [hr] at h
  have b1 := aoX hr
  refine uC _ (adI hr) (uF rfl ?_)
  by_cases h1 : n < 0
  ·rw [if_pos (Or.inl h1)] at h
   exact uT (zo h1) h
  by_cases h2 : n > 40
  ·rw [if_pos (Or.inr h2)] at h
   exact uF (zn h1) (uT (zo h2) h)
  rw [if_neg zc] at h
  obtain ⟨k, rfl⟩ := zv (show 0 ≤ n by omega)
  rw [zp] at h
  refine uF (zn h1) (uF (zn h2) ?_)
  have hk : k ≤ 40 := zc
  refine uC _ (aBN (aaF b1 zc) hk) ?_
  have bp := aJn (aaF b1 (show 0 ≤ 2 by omega)) hk
  have hw : adC (sg (z ^ k), ()) = some (wrW (z ^ k)) := ar5 (by rw [vk]; exact aaF bp zc)
  by_cases hz : z < 0
  ·refine uT (zo hz) (uV ?_)
   refine uC (sg (z ^ k), ()) (aBO (by rw [vk]) ?_) (uC _ hw h)
   right
   obtain ⟨w, hw0, rfl⟩ : ∃ w : Int, 0 < w ∧ z = -w := ⟨-z, by omega, by omega⟩
   rw [zz zc]
   have hpos : 0 < w ^ k := yG hw0
   rcases Nat.mod_two_eq_zero_or_one k with hm | hm
   ·have e : (-w) ^ k = w ^ k := by
     obtain ⟨j, rfl⟩ : ∃ j, k = 2 * j := ⟨k / 2, by omega⟩
     rw [Int.pow_mul, Int.pow_mul]; congr 1; simp only [zY, Int.pow_zero, Int.one_mul, Int.neg_mul_neg]
    rw [e, zn (show ¬ w ^ k < 0 by omega)]
    rw [beq_eq_false_iff_ne]; omega
   ·have e : (-w) ^ k = -(w ^ k) := by
     obtain ⟨j, rfl⟩ : ∃ j, k = 2 * j + 1 := ⟨k / 2, by omega⟩
     rw [zY, zY, Int.pow_mul, Int.pow_mul]
     have : (-w) ^ 2 = w ^ 2 := by simp only [zY, Int.pow_zero, Int.one_mul, Int.neg_mul_neg]
     rw [this, Int.mul_neg]
    rw [e, zo (show -(w ^ k) < 0 by omega)]
    rw [yF]; omega
  ·refine uF (zn hz) ?_
   have : 0 ≤ z ^ k := Int.pow_nonneg zc
   refine uC (sg (z ^ k), ()) (aBO (by rw [vk]) (Or.inr (zn zc).symm)) (uC _ hw h)
theorem aIh {n : Nat} (h : n ≤ 100000000) : alR ((n : Int), ()) = some (mag (10 ^ n), ()) := aaG (enc := fun x : Nat => ((x : Int), ())) n h (fun b hb => Int.ofNat.inj (Prod.mk.inj hb).1)
theorem aBY (n : Int) (y) (h : alR (n, ()) = some y) : (ao6 n).toO = some y := by
 obtain ⟨k, hp, hx, rfl⟩ := aaD h
 obtain ⟨rfl, -⟩ := Prod.mk.inj hx
 have e1 : Int.tdiv (k : Int) 9 = ((k / 9 : Nat) : Int) := by rw [zL zc]; omega
 have e2 : Int.tmod (k : Int) 9 = ((k % 9 : Nat) : Int) := by rw [zz zc]; omega
 have e3 : w64 ((k / 9 : Nat) : Int) = ((k / 9 : Nat) : Int) := aaA zc
 have e4 : w64 (((k / 9 : Nat) : Int) + 1) = ((k / 9 + 1 : Nat) : Int) := by rw [aaA zc]; omega
 unfold ao6
 simp only [e1, e3, e4]
 refine uV (uN zc (uV ?_))
 refine uO (0, 1, ()) rfl ?_
 refine aaL (fun i : Int × Int × Unit => ∃ j : Nat, j ≤ k % 9 ∧ i = ((j : Int), ((10 ^ j : Nat) : Int), ())) (fun i => (((k % 9 : Nat) : Int) - i.1).toNat) (fun _ => (mag (10 ^ k), ())) ?_ _ ⟨0, by omega, rfl⟩
 rintro i ⟨j, hj, rfl⟩
 have hj9 : (10 : Nat) ^ j ≤ 10 ^ 8 := zV zc zc
 have hp0 : (0 : Int) ≤ ((10 ^ j : Nat) : Int) := Int.natCast_nonneg _
 have hp8 : ((10 ^ j : Nat) : Int) ≤ 100000000 := wI.2 hj9
 simp only [auI, e1, e2, e3, e4]
 rcases zr j (k % 9) with h1 | h1
 ·left
  refine ⟨(((j + 1 : Nat) : Int), ((10 ^ (j + 1) : Nat) : Int), ()), ?_, ⟨j + 1, by omega, rfl⟩, by simp only; omega, ze⟩
  repeat refine za ?_
  rw [aa0 (x := ((10 ^ j : Nat) : Int) * 10) zc, aaA (x := (j : Int) + 1) zc, yz, yd]
  rfl
 ·right
  have hjk : j = k % 9 := zc
  refine uF sd (uV (uN sd ?_))
  simp only [zp, zu, aaJ]
  rw [zx zi]
  have hd : Dg 1000000000 ((List.replicate (k / 9 + 1) 0).set (k / 9) ((10 ^ j : Nat) : Int)) := ajG (agV zc _) ⟨by omega, by omega⟩ _
  have hv : V 1000000000 ((List.replicate (k / 9 + 1) 0).set (k / 9) ((10 ^ j : Nat) : Int)) = ((10 ^ k : Nat) : Int) := by
   rw [azL _ zi, at7, ajN zi]
   simp only [List.getElem_replicate, wJ, vh]
   have : (10 : Nat) ^ k = 1000000000 ^ (k / 9) * 10 ^ j := by
    rw [show (1000000000 : Nat) = 10 ^ 9 by decide, ← xL, ← xA, hjk, Nat.div_add_mod]
   rw [this]; simp
  rw [aqU hd (aJA zc hd (Or.inr ?_)) hv]
  rw [hv]
  simp only [yW, xS, xx]
  have h6 : (1000000000 : Nat) ^ (k / 9) ≤ 10 ^ k := by
   rw [show (1000000000 : Nat) = 10 ^ 9 by decide, ← xL]
   exact zV zc zc
  have h7 : ((1000000000 ^ (k / 9) : Nat) : Int) ≤ ((10 ^ k : Nat) : Int) := wI.2 h6
  simpa using h7
theorem aCH {k n r : Nat} (hk : 1 ≤ k) (h1 : r ^ k ≤ n) (h2 : n < (r + 1) ^ k) : ad9 k n = r := by
 have hex : ∃ r, r ^ k ≤ n ∧ n < (r + 1) ^ k := ⟨r, h1, h2⟩
 unfold ad9
 rw [dif_pos hex]
 obtain ⟨g1, g2⟩ := hex.choose_spec
 generalize hex.choose = q at *
 rcases Nat.lt_trichotomy q r with h | h | h
 ·have := xn (show q + 1 ≤ r by omega) k; omega
 ·exact h
 ·have := xn (show r + 1 ≤ q by omega) k; omega
theorem aQ1 (k n : Nat) (hk : 1 ≤ k) : ∃ r, r ^ k ≤ n ∧ n < (r + 1) ^ k := by
 have H : ∀ m, (∃ r, r ^ k ≤ n ∧ n < (r + 1) ^ k) ∨ m ^ k ≤ n := by
  intro m
  induction m with
  | zero => right; rw [Nat.zero_pow hk]; omega
  | succ m ih =>
   rcases ih with h | h
   ·exact Or.inl h
   ·rcases zr n ((m + 1) ^ k) with h2 | h2
    ·exact Or.inl ⟨m, h, h2⟩
    ·exact Or.inr h2
 rcases H (n + 1) with h | h
 ·exact h
 ·have : n + 1 ≤ (n + 1) ^ k := Nat.le_self_pow zc _
  omega
theorem an1 {k : Nat} (n : Nat) (hk : 1 ≤ k) : (ad9 k n) ^ k ≤ n ∧ n < (ad9 k n + 1) ^ k := by
 obtain ⟨r, h1, h2⟩ := aQ1 k n hk
 rw [aCH hk h1 h2]; exact ⟨h1, h2⟩
theorem aMv (r x : Int) (hr : 0 ≤ r) (hx : 0 ≤ x) : ∀ k : Nat, x ^ (k + 1) + (k + 1 : Nat) * x ^ k * (r - x) ≤ r ^ (k + 1)
 | 0 => by simp [zY]; omega
 | k + 1 => by
  have ih := aMv r x hr hx k
  have h1 := zE ih hr
  have h2 : 0 ≤ (k + 1 : Nat) * x ^ k * ((r - x) * (r - x)) := yi (yi zc (Int.pow_nonneg hx)) (by
   rcases zS (r - x) 0 with h | h
   ·exact xo (we h h)
   ·exact yi h h)
  have e1 : r ^ (k + 1 + 1) = r * r ^ (k + 1) := by rw [zY, yJ]
  have e2 : x ^ (k + 1 + 1) = x * (x * x ^ k) := by rw [zY, zY]; grind
  have e3 : x ^ (k + 1) = x * x ^ k := by rw [zY, yJ]
  rw [e1, e2, e3]
  rw [e3] at h1
  have e4 : ((k + 1 + 1 : Nat) : Int) = ((k + 1 : Nat) : Int) + 1 := zc
  rw [e4]
  generalize ((k + 1 : Nat) : Int) = K at *
  generalize x ^ k = P at *
  generalize r ^ (k + 1) = R at *
  have e5 : r * (x * P + K * P * (r - x)) = x * (x * P) + (K + 1) * (x * P) * (r - x) + K * P * ((r - x) * (r - x)) := by grind
  omega
theorem aN1 {m r x k : Nat} (hk : 1 ≤ k) (hx : 0 < x) (h : r ^ k ≤ m) : r ≤ (x * (k - 1) + m / x ^ (k - 1)) / k := by
 rw [wM zc]
 obtain ⟨j, rfl⟩ : ∃ j, k = j + 1 := ⟨k - 1, by omega⟩
 simp only [xx]
 rcases zr (x * j) (r * (j + 1)) with h1 | h1
 ·have hp : 0 < x ^ j := xp hx
  have h2 : r * (j + 1) - x * j ≤ m / x ^ j := by
   rw [wM hp]
   have ht := aMv (r : Int) (x : Int) zc zc j
   have h3 : ((r ^ (j + 1) : Nat) : Int) ≤ (m : Int) := wI.2 h
   rw [xV] at h3
   have h4 : (((r * (j + 1) - x * j) * x ^ j : Nat) : Int) ≤ (m : Int) := by
    rw [yd, Int.natCast_sub (vG h1), yd, yd, xV]
    have e1 : (x : Int) ^ (j + 1) = x * (x : Int) ^ j := by rw [zY, yJ]
    rw [e1] at ht
    have e2 : ((j + 1 : Nat) : Int) = (j : Int) + 1 := zc
    rw [e2] at ht ⊢
    generalize (x : Int) ^ j = P at *
    generalize (j : Int) = J at *
    have e3 : ((r : Int) * (J + 1) - x * J) * P = x * P + (J + 1) * P * (r - x) := by grind
    rw [e3]
    omega
   exact wI.1 h4
  generalize m / x ^ j = M at *
  generalize x * j = A at *
  generalize r * (j + 1) = C at *
  omega
 ·exact zC h1 (xg _ _)
theorem aN0 {m x k : Nat} (hk : 1 ≤ k) (hx : 0 < x) (h : m < x ^ k) : (x * (k - 1) + m / x ^ (k - 1)) / k < x := by
 obtain ⟨j, rfl⟩ : ∃ j, k = j + 1 := ⟨k - 1, by omega⟩
 simp only [xx]
 have hp : 0 < x ^ j := xp hx
 have h2 : m / x ^ j < x := by
  rw [yL hp, yK]
  rwa [yz] at h
 rw [yL zc, Nat.mul_add]
 omega
theorem aGd (m : List Int) (k : Int) (y) (h : arL (m, k, ()) = some y) : (aDM m k).toO = some y := by
 obtain ⟨⟨n, q⟩, hp, hx, rfl⟩ := aaD h
 obtain ⟨rfl, hx2⟩ := Prod.mk.inj hx; obtain ⟨rfl, -⟩ := Prod.mk.inj hx2; dsimp only
 obtain ⟨l1, l2, l3⟩ := hp
 simp only at l1 l2 l3
 have hdl := aJh l1
 refine uC _ (azS n) ?_
 by_cases h0 : n = 0
 ·refine uT (zo h0) ?_
  subst h0
  rw [aCH (r := 0) l2 (by rw [Nat.zero_pow l2]; omega) zi, mag_zero]
  rfl
 refine uF (zn h0) ?_
 refine uC _ (azT (aaF l1 zc)) (uN zc ?_)
 have hle := xB (aa2 n).length q
 have hL : (aa2 n).length ≤ ((aa2 n).length / q + 1) * q := by
  have h3 := xU (aa2 n).length q
  have h4 := yU (aa2 n).length (show 0 < q by omega)
  rw [yM, yK ((aa2 n).length / q) q]
  omega
 have e1 : Int.tdiv ((aa2 n).length : Int) (q : Int) = (((aa2 n).length / q : Nat) : Int) := by rw [zL zc]; simp
 simp only [e1]
 generalize (aa2 n).length / q = L at hle hL
 have e2 : w64 (L : Int) = L := aaA zc
 have e3 : w64 ((L : Int) + 1) = ((L + 1 : Nat) : Int) := by rw [aaA zc]; omega
 refine uC (mag (10 ^ (L + 1)), ()) (by simp only [e2, e3]; exact aIh zc) ?_
 refine uO (mag (10 ^ (L + 1)), ()) rfl ?_
 obtain ⟨s1, s2⟩ := an1 (k := q) n l2
 have hbx : Bd 2 (10 ^ (L + 1)) := by
  have : (mag (10 ^ (L + 1))).length ≤ 10000000 := by
   refine agR ?_
   rw [ajQ (k := L + 1) (zq _) (wg zc zc)]
   omega
  unfold Bd; omega
 have hstart : n < (10 ^ (L + 1)) ^ q := by
  rw [← xL]
  have h1 := af7 n
  have h3 : (10 : Nat) ^ (aa2 n).length ≤ 10 ^ ((L + 1) * q) := zV zc hL
  omega
 have hstart2 : ad9 q n ≤ 10 ^ (L + 1) := by
  rcases zr (10 ^ (L + 1)) (ad9 q n) with h | h
  ·have := xn (vG h) q; omega
  ·exact h
 have hr1 : 1 ≤ ad9 q n := by
  rcases zD (ad9 q n) with h | h
  ·rw [h] at s2; simp at s2; omega
  ·exact h
 generalize 10 ^ (L + 1) = X at *
 refine aaL (fun i : List Int × Unit => ∃ x : Nat, i = (mag x, ()) ∧ ad9 q n ≤ x ∧ x ≤ X) (fun i => (V 1000000000 i.1).toNat) (fun _ => (mag (ad9 q n), ())) ?_ _ ⟨X, rfl, hstart2, zq _⟩
 rintro i ⟨x, rfl, g1, g2⟩
 have bx : Bd 2 x := an9 hbx g2
 have ek : w64 ((q : Int) - 1) = ((q - 1 : Nat) : Int) := by rw [aaA (x := (q : Int) - 1) zc]; omega
 have ekk : abU ((q - 1 : Nat) : Int) = ((q - 1 : Nat) : Int) := aaP zc
 have ek32 : aeH (q : Int) = q := aa0 zc
 have hxp : 0 < x ^ (q - 1) := xp zc
 have bp := aJn bx (show q - 1 ≤ 40 by omega)
 have bsm : Bd 2 (q - 1) := aaF (aaH zc) zc
 have bsum : Bd 4 (x * (q - 1) + n / x ^ (q - 1)) := aaZ (aaW bx bsm) (aaF (aaS _ l1) zc)
 simp only [ajV, ek, ekk, ek32]
 have walk : ∀ r, (TT.ite (decide (avA (((x * (q - 1) + n / x ^ (q - 1)) / q : Nat)) (x : Nat) ≥ 0)) (TT.ok (Sum.inr (mag x, ())) : TT (uo ⊕ uo)) (TT.ok (.inl (mag ((x * (q - 1) + n / x ^ (q - 1)) / q), ())))).toO = r → (ajV (mag n) (q : Int) (decide (n = 0), ()) (((aa2 n).length : Int), ()) (mag X, ()) (mag x, ())).toO = r := by
  intro r hr
  simp only [ajV, ek, ekk, ek32]
  refine uC _ (aBN bx zc) ?_
  refine uC _ (azU (aaF l1 zc) (aaF bp zc) zc) ?_
  refine uC _ (aDx zc) ?_
  refine uC _ (auE (aaF bx zc) (aaF bsm zc)) ?_
  refine uC _ (aFV (aaF (aaW bx bsm) zc) (aaF (aaS _ l1) zc)) ?_
  refine uC _ (aLS (d := q) (aaF bsum zc) zc zc) ?_
  refine uC _ (aFW (aaF (aaS _ bsum) zc) (aaF bx zc)) ?_
  exact hr
 simp only [ajV, ek, ekk, ek32] at walk
 generalize hY : (x * (q - 1) + n / x ^ (q - 1)) / q = Y at walk
 have hge : ad9 q n ≤ Y := by rw [← hY]; exact aN1 l2 zc s1
 rcases zr Y x with hc | hc
 ·left
  refine ⟨(mag Y, ()), walk _ (uF ?_ rfl), ⟨Y, rfl, hge, by omega⟩, ?_, ze⟩
  ·unfold avA; rw [if_pos zc]; rfl
  ·simp only [am3, zp]; exact hc
 ·right
  have hxm : x ^ q ≤ n := by
   rcases zr n (x ^ q) with h | h
   ·have := aN0 l2 (show 0 < x by omega) h
    omega
   ·exact h
  have hxr : x = ad9 q n := by
   rcases zr (ad9 q n) x with h | h
   ·have := xn (show ad9 q n + 1 ≤ x from h) q; omega
   ·omega
  refine walk _ (uT ?_ ?_)
  ·unfold avA
   rw [if_neg zc]
   split <;> rfl
  ·rw [← hxr]; rfl
theorem aPF {n k : Nat} (h1 : Bd 0 n) (h2 : 1 ≤ k) (h3 : k ≤ 12) : arL (mag n, (k : Int), ()) = some (mag (ad9 k n), ()) := by
 refine aaG (enc := fun x : Nat × Nat => (mag x.1, (x.2 : Int), ())) (n, k) ⟨h1, h2, h3⟩ (fun b hb => ?_)
 obtain ⟨e1, e2⟩ := Prod.mk.inj hb
 obtain ⟨e2, -⟩ := Prod.mk.inj e2
 exact Prod.ext (ad7 e1) (Int.ofNat.inj e2)
theorem av5 {k n : Nat} (hk : 1 ≤ k) : ad9 k n ≤ n := zC (Nat.le_self_pow zc _) (an1 n hk).1
theorem zl {p : Prop} (h : p := by simp only [Int.natAbs_natCast]; exact av5 (by omega)) : p := h
theorem aJM (a : List UInt8) (k : Int) (y) (h : arN (a, k, ()) = some y) : (aB2 a k).toO = some y := by
 unfold arN at h
 dsimp only at h
 unfold aB2
 cases hr : rdW a with
 | none =>
  simp only [hr] at h
  exact uC _ (adJ hr) (uT rfl h)
 | some z =>
  simp only [hr] at h
  have b1 := aoX hr
  refine uC _ (adI hr) (uF rfl ?_)
  by_cases h1 : k < 1
  ·rw [if_pos (Or.inl h1)] at h
   exact uT (zo h1) h
  by_cases h2 : k > 12
  ·rw [if_pos (Or.inr (Or.inl h2))] at h
   exact uF (zn h1) (uT (zo h2) h)
  by_cases h3 : z < 0
  ·rw [if_pos (Or.inr (Or.inr h3))] at h
   exact uF (zn h1) (uF (zn h2) (uT (zo h3) h))
  rw [if_neg zc] at h
  obtain ⟨j, rfl⟩ := zv (show 0 ≤ k by omega)
  rw [zp] at h
  refine uF (zn h1) (uF (zn h2) (uF (zn h3) ?_))
  refine uC _ (aPF b1 zc zc) ?_
  refine uC (sg (ad9 j z.natAbs : Int), ()) (aBO rfl (Or.inr (zn zc).symm)) ?_
  exact uC _ (ar5 (aaF (an9 b1 (av5 zc)) zc)) h
end Go.Vs
