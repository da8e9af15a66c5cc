/-
  Trees of what the functions compute, and their laws. Own work; no condition.
-/
import Derived.Test.YtakjojajnblpoaaGreatDoorClL1
import Derived.Test.YtakjojajnblpoaaGreatDoorProg
set_option linter.unusedVariables false
set_option linter.unusedSimpArgs false
namespace Go.Vs
open Go Go.Vg
theorem aEq {q : Rat} (h : ac1 q) : wrF q = (fx q, 0, ()) := if_pos h
theorem aAu {q : Rat} (h : ¬ ac1 q) : wrF q = (([], [], ()), 6, ()) := if_neg h
theorem aiI {z : Int} (h : Fit z) : wrW z = (dec z, 0, ()) := if_pos h
theorem aqP {z : Int} (h : ¬ Fit z) : wrW z = ([], 6, ()) := if_neg h
theorem aqL {z : Int} (h : Bd 8 z.natAbs) : acU (sg z, ()) = some (wrW z) := aaI (enc := fun x : Int => (sg x, ())) z h (fun b hb => aoU (Prod.mk.inj hb).1)
theorem aEu (s : SgT) (y) (h : acU (s, ()) = some y) : (auI s).toO = some y := by
 obtain ⟨a, hp, hx, rfl⟩ := aaE h
 obtain ⟨rfl, -⟩ := Prod.mk.inj hx
 unfold auI
 dsimp only
 refine uC _ (axL hp) ?_
 by_cases hf : Fit a
 ·have hf' : (aa2 a.natAbs).length ≤ 600 := hf
  rw [aiI hf]
  refine uF zh ?_
  have hb : Bd 0 a.natAbs := apY hf
  by_cases h0 : a < 0
  ·refine uT zh (uC _ (axN hb) (uN ?_ ?_))
   ·show 1 + (aa2 a.natAbs).length ≤ lim
    unfold lim; omega
   ·rw [ahJ h0]; rfl
  ·refine uF zh (uC _ (axN hb) ?_)
   rw [acA zc]; rfl
 ·have hf' : ¬ (aa2 a.natAbs).length ≤ 600 := hf
  rw [aqP hf]
  exact uT zh rfl
theorem ajP {q : Rat} (h : BdQ 8 q) : aeW (rt q, ()) = some (wrF q) := aaI (enc := fun x : Rat => (rt x, ())) q h (fun b hb => ay3 (Prod.mk.inj hb).1)
theorem aDr (x : RtT) (y) (h : aeW (x, ()) = some y) : (arN x).toO = some y := by
 obtain ⟨q, hp, hx, rfl⟩ := aaE h
 obtain ⟨rfl, -⟩ := Prod.mk.inj hx
 obtain ⟨h1, h2⟩ := hp
 unfold arN
 dsimp only
 refine uC _ (axS h1) ?_
 by_cases hf : Fit q.num
 ·have hf' : (aa2 q.num.natAbs).length ≤ 600 := hf
  refine uF zh ?_
  refine uC _ (axS h2) ?_
  by_cases hg : Fit q.den
  ·have hg' : (aa2 q.den).length ≤ 600 := hg
   rw [aEq ⟨hf, hg⟩]
   refine uF zh ?_
   exact uC _ (axT (apY hf)) (uC _ (aoM (apY hg)) rfl)
  ·have hg' : ¬ (aa2 q.den).length ≤ 600 := hg
   rw [aAu (fun h => hg h.2)]
   exact uT zh rfl
 ·have hf' : ¬ (aa2 q.num.natAbs).length ≤ 600 := hf
  rw [aAu (fun h => hf h.1)]
  exact uT zh rfl
theorem ajQ {g : Nat} {t n : Int} (h : n = g * t) (g0 : g ≠ 0) : (n < 0 ↔ t < 0) ∧ (n = 0 ↔ t = 0) := by
 subst h
 rcases xF t 0 with h | h | h
 ·have := xZ (show (0 : Int) < g by omega) h
  omega
 ·subst h; simp
 ·have := vq (show (0 : Int) < g by omega) h
  omega
theorem acS {g : Nat} {t n : Int} (h : n = g * t) (g0 : g ≠ 0) : n.natAbs / g = t.natAbs := by
 rw [h, yF, zN, yq _ zc]
theorem aGl {n : Int} {d : Nat} (h1 : Bd 7 n.natAbs) (h2 : Bd 7 d) (h3 : d ≠ 0) : akM (sg n, mag d, ()) = some (rt (mkRat n d), ()) := aaI (enc := fun x : Int × Nat => (sg x.1, mag x.2, ())) (n, d) ⟨h1, h2, h3⟩ (fun b hb => aEK hb)
theorem aBp (n : SgT) (d : List Int) (y) (h : akM (n, d, ()) = some y) : (an8 n d).toO = some y := by
 obtain ⟨⟨a, b⟩, hp, hx, rfl⟩ := aaE h
 obtain ⟨rfl, hx2⟩ := Prod.mk.inj hx; obtain ⟨rfl, -⟩ := Prod.mk.inj hx2; dsimp only
 obtain ⟨l1, l2, l3⟩ := hp
 simp only at l1 l2 l3
 obtain ⟨g, t, hg, g0, hn, e1, e2⟩ := aeK a l3
 have hs := ajQ hn g0
 have ha := acS hn g0
 unfold an8
 dsimp only
 have bg : Bd 7 g := by rw [hg]; repeat (first | assumption | exact aaH zg zc | exact aaG zc | refine aaY ?_ ?_ | refine aaS _ ?_ | refine aa1 _ ?_ | refine aaD ?_ ?_ | refine aaB ?_ ?_ | refine aaV ?_ | refine aaW ?_ ?_ | refine aaZ ?_ ?_ | refine aaP ?_)
 refine uC (mag g, ()) (by rw [am5 zd zd, hg]) ?_
 refine uC _ (ab3 zd zd g0) ?_
 refine uC _ (ab3 zd zd g0) ?_
 refine uC (sg t, ()) (abU ha (Or.inr (decide_eq_decide.2 hs.1))) ?_
 show some (((sg t), mag (b / g), ()), ()) = some (rt (mkRat a b), ())
 unfold rt
 rw [e1, e2]
theorem aEf {q : Rat} (h : BdQ 7 q) : aiB (rt q, ()) = some (rt (-q), ()) := aaI (enc := fun x : Rat => (rt x, ())) q h (fun b hb => ay3 (Prod.mk.inj hb).1)
theorem ayE (x : RtT) (y) (h : aiB (x, ()) = some y) : (as2 x).toO = some y := by
 obtain ⟨q, hp, hx, rfl⟩ := aaE h
 obtain ⟨rfl, -⟩ := Prod.mk.inj hx
 exact uC _ (aqO (aaH hp.1 zc)) rfl
theorem aEg {q : Rat} (h : BdQ 7 q) (h0 : q ≠ 0) : aiC (rt q, ()) = some (rt q⁻¹, ()) := aaI (enc := fun x : Rat => (rt x, ())) q ⟨h, h0⟩ (fun b hb => ay3 (Prod.mk.inj hb).1)
theorem aO7 {q : Rat} (h : q ≠ 0) : q.num ≠ 0 := fun h2 => h (Rat.num_eq_zero.1 h2)
theorem aDl {q : Rat} (h : q ≠ 0) : (q⁻¹).num.natAbs = q.den ∧ ((q⁻¹).num < 0 ↔ q.num < 0) ∧ (q⁻¹).den = q.num.natAbs := by
 have h1 := aO7 h
 have h2 := q.den_pos
 rw [Rat.num_inv, Rat.den_inv, if_neg h1]
 rcases zQ q.num 0 with h3 | h3
 ·rw [xq h3]; omega
 ·rw [xN zc]; omega
theorem ayF (x : RtT) (y) (h : aiC (x, ()) = some y) : (as3 x).toO = some y := by
 obtain ⟨q, hp, hx, rfl⟩ := aaE h
 obtain ⟨rfl, -⟩ := Prod.mk.inj hx
 obtain ⟨e1, e2, e3⟩ := aDl hp.2
 refine uC (sg (q⁻¹).num, ()) (abU e1.symm (Or.inr (decide_eq_decide.2 e2.symm))) ?_
 show some ((sg (q⁻¹).num, mag q.num.natAbs, ()), ()) = some (rt q⁻¹, ())
 unfold rt
 rw [e3]
theorem aHo {p q : Rat} (h : BdQ 3 p) (h2 : BdQ 3 q) : aqF (rt p, rt q, ()) = some (rt (p + q), ()) := aaI (enc := fun x : Rat × Rat => (rt x.1, rt x.2, ())) (p, q) ⟨h, h2⟩ (fun b hb => atZ hb)
theorem aIC (x x' : RtT) (y) (h : aqF (x, x', ()) = some y) : (aBj x x').toO = some y := by
 obtain ⟨⟨p, q⟩, hp, hx, rfl⟩ := aaE h
 obtain ⟨rfl, hx2⟩ := Prod.mk.inj hx; obtain ⟨rfl, -⟩ := Prod.mk.inj hx2; dsimp only
 obtain ⟨⟨p1, p2⟩, q1, q2⟩ := hp
 simp only at p1 p2 q1 q2
 obtain ⟨g, h', top, t, hg, ht, hh, g0, h0, htt, e1, e2⟩ := aD8 p q
 have hs := ajQ htt h0
 have ha := acS htt h0
 have bg : Bd 3 g := by rw [hg]; repeat (first | assumption | exact aaH zg zc | exact aaG zc | refine aaY ?_ ?_ | refine aaS _ ?_ | refine aa1 _ ?_ | refine aaD ?_ ?_ | refine aaB ?_ ?_ | refine aaV ?_ | refine aaW ?_ ?_ | refine aaZ ?_ ?_ | refine aaP ?_)
 have bt : Bd 5 top.natAbs := by
  rw [ht]
  refine aaD (aaB ?_ (aaP ?_)) (aaB ?_ (aaP ?_)) <;> repeat (first | assumption | exact aaH zg zc | exact aaG zc | refine aaY ?_ ?_ | refine aaS _ ?_ | refine aa1 _ ?_ | refine aaD ?_ ?_ | refine aaB ?_ ?_ | refine aaV ?_ | refine aaW ?_ ?_ | refine aaZ ?_ ?_ | refine aaP ?_)
 have bh : Bd 5 h' := by rw [hh]; repeat (first | assumption | exact aaH zg zc | exact aaG zc | refine aaY ?_ ?_ | refine aaS _ ?_ | refine aa1 _ ?_ | refine aaD ?_ ?_ | refine aaB ?_ ?_ | refine aaV ?_ | refine aaW ?_ ?_ | refine aaZ ?_ ?_ | refine aaP ?_)
 unfold aBj
 dsimp only
 refine uC (mag g, ()) (by rw [am5 zd zd, hg]) ?_
 refine uC _ (ab3 zd zd g0) ?_
 refine uC _ (ab3 zd zd g0) ?_
 refine uC _ (ahT zd zd) ?_
 refine uC _ (ahT zd zd) ?_
 refine uC (sg top, ()) (by rw [aB5 zd zd, ht]) ?_
 refine uC (mag h', ()) (by rw [am5 zd zd, hh]) ?_
 refine uC _ (ab3 zd zd h0) ?_
 refine uC _ (ab3 zd zd h0) ?_
 refine uC (sg t, ()) (abU ha (Or.inr (decide_eq_decide.2 hs.1))) ?_
 refine uC _ (ag3 zd zd) ?_
 show some ((sg t, mag (p.den / g * (q.den / h')), ()), ()) = some (rt (p + q), ())
 unfold rt
 rw [e1, e2]
theorem aOR {p q : Rat} (h : BdQ 3 p) (h2 : BdQ 3 q) : auE (rt p, rt q, ()) = some (rt (p - q), ()) := aaI (enc := fun x : Rat × Rat => (rt x.1, rt x.2, ())) (p, q) ⟨h, h2⟩ (fun b hb => atZ hb)
theorem aIz (x x' : RtT) (y) (h : auE (x, x', ()) = some y) : (aG2 x x').toO = some y := by
 obtain ⟨⟨p, q⟩, hp, hx, rfl⟩ := aaE h
 obtain ⟨rfl, hx2⟩ := Prod.mk.inj hx; obtain ⟨rfl, -⟩ := Prod.mk.inj hx2; dsimp only
 obtain ⟨bp, bq⟩ := hp
 refine uC _ (aEf ⟨aaH bq.1 zc, aaH bq.2 zc⟩) ?_
 refine uC _ (aHo bp ⟨aaV bq.1, bq.2⟩) ?_
 rw [vl]; rfl
theorem aHn {p q : Rat} (h : BdQ 3 p) (h2 : BdQ 3 q) : aqE (rt p, rt q, ()) = some (rt (p * q), ()) := aaI (enc := fun x : Rat × Rat => (rt x.1, rt x.2, ())) (p, q) ⟨h, h2⟩ (fun b hb => atZ hb)
theorem aIB (x x' : RtT) (y) (h : aqE (x, x', ()) = some y) : (aBi x x').toO = some y := by
 obtain ⟨⟨p, q⟩, hp, hx, rfl⟩ := aaE h
 obtain ⟨rfl, hx2⟩ := Prod.mk.inj hx; obtain ⟨rfl, -⟩ := Prod.mk.inj hx2; dsimp only
 obtain ⟨⟨p1, p2⟩, q1, q2⟩ := hp
 simp only at p1 p2 q1 q2
 obtain ⟨g, h', s, t, hg, hh, g0, h0, hs, ht, e1, e2⟩ := aDa p q
 have as1 := acS hs g0
 have at' := acS ht h0
 have ss := ajQ hs g0
 have st := ajQ ht h0
 have bg : Bd 3 g := by rw [hg]; repeat (first | assumption | exact aaH zg zc | exact aaG zc | refine aaY ?_ ?_ | refine aaS _ ?_ | refine aa1 _ ?_ | refine aaD ?_ ?_ | refine aaB ?_ ?_ | refine aaV ?_ | refine aaW ?_ ?_ | refine aaZ ?_ ?_ | refine aaP ?_)
 have bh : Bd 3 h' := by rw [hh]; repeat (first | assumption | exact aaH zg zc | exact aaG zc | refine aaY ?_ ?_ | refine aaS _ ?_ | refine aa1 _ ?_ | refine aaD ?_ ?_ | refine aaB ?_ ?_ | refine aaV ?_ | refine aaW ?_ ?_ | refine aaZ ?_ ?_ | refine aaP ?_)
 unfold aBi
 dsimp only
 refine uC (mag g, ()) (by rw [am5 zd zd, hg]) ?_
 refine uC (mag h', ()) (by rw [am5 zd zd, hh]) ?_
 refine uC _ (ab3 zd zd g0) ?_
 refine uC _ (ab3 zd zd h0) ?_
 refine uC _ (ab3 zd zd h0) ?_
 refine uC _ (ab3 zd zd g0) ?_
 refine uC _ (ag3 zd zd) ?_
 refine uC (sg (s * t), ()) (abU (n := p.num.natAbs / g * (q.num.natAbs / h')) (by rw [as1, at', yF]) ?_) ?_
 ·by_cases hz : s * t = 0
  ·exact Or.inl hz
  ·right
   show (!(decide (p.num < 0) == decide (q.num < 0))) = decide (s * t < 0)
   have z1 : s ≠ 0 := fun h => hz (by rw [h]; simp)
   have z2 : t ≠ 0 := fun h => hz (by rw [h]; simp)
   rcases zQ s 0 with c1 | c1 <;> rcases zQ t 0 with c2 | c2
   ·have := wg c1 c2
    rw [zo (ss.1.2 c1), zo (st.1.2 c2), zn zc]; rfl
   ·have := xY c1 (show 0 < t by omega)
    rw [zo (ss.1.2 c1), zn zc, zo zc]; rfl
   ·have := xZ (show 0 < s by omega) c2
    rw [zn zc, zo (st.1.2 c2), zo zc]; rfl
   ·have := vq (show 0 < s by omega) (show 0 < t by omega)
    rw [zn zc, zn zc, zn zc]; rfl
 refine uC _ (ag3 zd zd) ?_
 show some ((sg (s * t), mag (p.den / h' * (q.den / g)), ()), ()) = some (rt (p * q), ())
 unfold rt
 rw [e1, e2]
theorem aJx {p q : Rat} (h : BdQ 3 p) (h2 : BdQ 3 q) : am0 (rt p, rt q, ()) = some (axZ p q, ()) := aaI (enc := fun x : Rat × Rat => (rt x.1, rt x.2, ())) (p, q) ⟨h, h2⟩ (fun b hb => atZ hb)
theorem aDs (x x' : RtT) (y) (h : am0 (x, x', ()) = some y) : (arO x x').toO = some y := by
 obtain ⟨⟨p, q⟩, hp, hx, rfl⟩ := aaE h
 obtain ⟨rfl, hx2⟩ := Prod.mk.inj hx; obtain ⟨rfl, -⟩ := Prod.mk.inj hx2; dsimp only
 obtain ⟨⟨p1, p2⟩, q1, q2⟩ := hp
 simp only at p1 p2 q1 q2
 unfold arO
 dsimp only
 refine uC _ (ahT zd zd) ?_
 refine uC _ (ahT zd zd) ?_
 refine uC _ (aqO (aaH (aaB q1 (aaP p2)) zc)) ?_
 refine uC _ (aB5 (aaH (aaB p1 (aaP q2)) zc) (aaV (aaH (aaB q1 (aaP p2)) zc))) ?_
 refine uC _ (axU (aaH (aaD (aaB p1 (aaP q2)) (aaV (aaB q1 (aaP p2)))) zc)) ?_
 rw [aPx]; rfl
theorem aMY {q : Rat} {s : Nat} (h : BdQ 1 q) (h2 : Bd 1 s) : aqD (rt q, mag s, ()) = some (sg (ao8 q s), ()) := aaI (enc := fun x : Rat × Nat => (rt x.1, mag x.2, ())) (q, s) ⟨h, h2⟩ (fun b hb => aPq hb)
theorem aFy (x : RtT) (sc : List Int) (y) (h : aqD (x, sc, ()) = some y) : (avV x sc).toO = some y := by
 obtain ⟨⟨q, s⟩, hp, hx, rfl⟩ := aaE h
 obtain ⟨rfl, hx2⟩ := Prod.mk.inj hx; obtain ⟨rfl, -⟩ := Prod.mk.inj hx2; dsimp only
 obtain ⟨⟨p1, p2⟩, bs⟩ := hp
 simp only at p1 p2 bs
 have b2 : Bd 1 2 := aaH (aaG zc) zc
 unfold avV
 dsimp only
 have t1 := ag3 (a := s) (b := 2) zd zd
 have t2 := ag3 (a := q.den) (b := 2) zd zd
 rw [aPP] at t1 t2
 refine uC _ t1 ?_
 refine uC _ (ahT zd zd) ?_
 refine uC (sg (q.den : Int), ()) (abU (w := (q.den : Int)) zi (Or.inr (by rw [zn zc]))) ?_
 refine uC _ (aB5 (aaH (aaB (aaH p1 (show 1 ≤ 2 by omega)) (aaP (aaW bs b2))) zc) zd) ?_
 refine uC _ t2 ?_
 refine uC _ (aAs zd zd (xj q.den_nz zc)) ?_
 rw [aLe]; rfl
set_option maxRecDepth 100000
open Go Go.Vg Go.Proofs
noncomputable section
def aM5 : LTab := [(172, 7, 9217, ⟨0, (Bool) × Unit, .dat (.s 3) tQ <| .nil, [5, 4, 2], [0], 0⟩), (172, 122, 12289, ⟨1, (Int) × Unit, .dat (.s 23) ui <| .nil, [22, 5, 4, 2], [0], 0⟩)]
def aCi (a : List UInt8) (y : List UInt8 × Bool × Unit) (j : Bool × Unit) (i : (Int) × Unit) : TT (uS ⊕ (ur × Bool × Unit)) :=
 .ite (decide (i.1 < len y.1))
 (.need (inb i.1 (len y.1)) <| .ite (decide ((↑(UInt8.toNat (gi y.1 i.1 0)) : Int) < 48))
 (.ok (.inr ((([], false, ()), false, ()))))
 (.need (inb i.1 (len y.1)) <| .ite (decide ((↑(UInt8.toNat (gi y.1 i.1 0)) : Int) > 57))
 (.ok (.inr ((([], false, ()), false, ()))))
 (.tt <| .lt (w64 (i.1 + 1) : Int) fun z => .vQ (vY z (len y.1) y.2.1 y.1 <| un ∧ True) <| .vQ tJ <| .ok (.inl ((z, ()))))))
 (.need (asT Int 0 ≤ 0 ∧ 0 < len y.1) <| .ite ((↑(UInt8.toNat (gi y.1 0 0)) : Int) == 48)
 (.ite (y.2.1)
 (.ok (.inr ((([], false, ()), false, ()))))
 (.ite (decide (len y.1 > 1))
 (.ok (.inr ((([], false, ()), false, ()))))
 (.call (ajB (y.1, ())) Dd0 fun y1 =>
 .ok (.inr (((y1.1, y.2.1, ()), true, ()))))))
 (.call (ajB (y.1, ())) Dd0 fun y2 =>
 .ok (.inr (((y2.1, y.2.1, ()), true, ())))))
def aJN (a : List UInt8) (y : List UInt8 × Bool × Unit) (j : (Bool) × Unit) : TT (ur × Bool × Unit) :=
 .loop 1 (.tt <| .vQ (vY (0 : Int) (len y.1) y.2.1 y.1 <| un ∧ True) <| .vQ tJ <| .ok ((0, ()))) (aCi a y j)
def aAw (a : List UInt8) : TT (ur × Bool × Unit) :=
 .call (abX (a, #[45].toList, ())) Dd7 fun y =>
 .join 0 (ι := (Bool) × Unit) (.ite (len y.1 == 0)
 (.ok (.inr ((([], false, ()), false, ()))))
 (.ite (decide (len y.1 > 600))
 (.ok (.inr ((([], false, ()), false, ()))))
 (.tt <| .vQ (ub false y.2.1 y.1 <| un ∧ True) <| .vQ tJ <| .ok (.inl ((false, ())))))) (aJN a y)
def aM6 : LTab := []
def aAx (a : List UInt8) (b : List UInt8) : TT (ur × ur × Int × Unit) :=
 .call (afB (a, ())) Dd9 fun y =>
 .call (afB (b, ())) Dd9 fun y1 =>
 .ite (!y.2.1)
 (.ok ((([], false, ()), ([], false, ()), 10, ())))
 (.ite (!y1.2.1)
 (.ok ((([], false, ()), ([], false, ()), 10, ())))
 (.ok (((y.1.1, y.1.2.1, ()), (y1.1.1, y1.1.2.1, ()), 0, ()))))
def aJS : LTab := []
def auJ (a : List UInt8) : TT uK :=
 .call (afB (a, ())) Dd9 fun y =>
 .ite (!y.2.1)
 (.ok ((10, ())))
 (.ok ((0, ())))
def aQp : LTab := []
def aOW (n : Int) : TT tb :=
 .call (aAl (n, ())) Dd2 fun y =>
 .ok ((y.1, ()))
def aPf : LTab := []
def aEx (a : List UInt8) (b : List UInt8) : TT tj :=
 .tt <| .tt <| .call (afC (a, b, ())) aRy fun y =>
 .ite (y.2.2.1 != 0)
 (.ok ((#[].toList, y.2.2.1, ())))
 (.triv (asT Int 0 ≤ 2 ∧ 2 < (↑4 : Int)) zf <| .call (ah8 ((y.1.1, y.1.2.1, ()), (y.2.1.1, y.2.1.2.1, ()), ())) Dd5 fun y1 =>
 .call (acU (y1.1, ())) aGn fun y2 =>
 .ok ((y2.1, y2.2.1, ())))
def aPh : LTab := []
def aqQ (y2 : (List (Int)) × (List (Int)) × Unit) (y : ((List (Int)) × (Bool) × Unit) × ((List (Int)) × (Bool) × Unit) × (Int) × Unit) : TT (List UInt8 × List UInt8 × Int × Unit) :=
 .call (ah9 (y2.1, !y.1.2.1 == y.2.1.2.1, ())) Dd5 fun y10 =>
 .call (acU (y10.1, ())) aGn fun y11 =>
 .ite (y11.2.1 != 0)
 (.ok ((#[].toList, #[].toList, y11.2.1, ())))
 (.call (ah9 (y2.2.1, false, ())) Dd5 fun y12 =>
 .call (acU (y12.1, ())) aGn fun y13 =>
 .ite (y13.2.1 != 0)
 (.ok ((#[].toList, #[].toList, y13.2.1, ())))
 (.ok ((y11.1, y13.1, 0, ()))))
def aEz (a : List UInt8) (b : List UInt8) : TT (List UInt8 × List UInt8 × Int × Unit) :=
 .call (afC (a, b, ())) aRy fun y =>
 .ite (y.2.2.1 != 0)
 (.ok ((#[].toList, #[].toList, y.2.2.1, ())))
 (.call (ahN (y.2.1.1, ())) Dd1 fun y1 =>
  .ite (y1.1)
  (.ok ((#[].toList, #[].toList, 7, ())))
  (.call (akH (y.1.1, y.2.1.1, ())) Dd4 fun y2 =>
   .ite (y.1.2.1)
   (.call (ahN (y2.2.1, ())) Dd1 fun y3 =>
    .ite (!y3.1)
    (.call (ap4 (y2.1, [1], ())) Dd0 fun y4 =>
     .call (asB (y.2.1.1, y2.2.1, ())) Dd0 fun y5 =>
     .call (ah9 (y4.1, !y.1.2.1 == y.2.1.2.1, ())) Dd5 fun y6 =>
     .call (acU (y6.1, ())) aGn fun y7 =>
     .ite (y7.2.1 != 0)
     (.ok ((#[].toList, #[].toList, y7.2.1, ())))
     (.call (ah9 (y5.1, false, ())) Dd5 fun y8 =>
      .call (acU (y8.1, ())) aGn fun y9 =>
      .ite (y9.2.1 != 0)
      (.ok ((#[].toList, #[].toList, y9.2.1, ())))
      (.ok ((y7.1, y9.1, 0, ())))))
    (aqQ y2 y))
   (aqQ y2 y)))
def aPe : LTab := []
def aEw (a : List UInt8) (n : Int) : TT tj :=
 .call (afB (a, ())) Dd9 fun y =>
 .ite (!y.2.1)
 (.ok ((#[].toList, 10, ())))
 (.ite (decide (n < 0))
 (.ok ((#[].toList, 2, ())))
 (.ite (decide (n > 40))
 (.ok ((#[].toList, 2, ())))
 (.call (ajA (y.1.1, n, ())) Dd0 fun y1 =>
 .ite (y.1.2.1)
 (.triv (asT Int 2 ≠ 0) zf <| .call (ah9 (y1.1, Int.tmod n 2 == 1, ())) Dd5 fun y2 =>
 .call (acU (y2.1, ())) aGn fun y3 =>
 .ok ((y3.1, y3.2.1, ())))
 (.call (ah9 (y1.1, false, ())) Dd5 fun y4 =>
 .call (acU (y4.1, ())) aGn fun y5 =>
 .ok ((y5.1, y5.2.1, ()))))))
def aM8 : LTab := []
def aAz (a : List UInt8) (k : Int) : TT tj :=
 .call (afB (a, ())) Dd9 fun y =>
 .ite (!y.2.1)
 (.ok ((#[].toList, 10, ())))
 (.ite (decide (k < 1))
 (.ok ((#[].toList, 2, ())))
 (.ite (decide (k > 12))
 (.ok ((#[].toList, 2, ())))
 (.ite (y.1.2.1)
 (.ok ((#[].toList, 2, ())))
 (.call (ap3 (y.1.1, k, ())) Dd0 fun y1 =>
 .call (ah9 (y1.1, false, ())) Dd5 fun y2 =>
 .call (acU (y2.1, ())) aGn fun y3 =>
 .ok ((y3.1, y3.2.1, ()))))))
def aEv : LTab := [(281, 122, 10241, ⟨0, (Int) × (Int) × Unit, .dat (.s 11) ui <| .dat (.s 4) ul <| .nil, [10, 3, 2, 0], [4], 0⟩)]
def asK (n : Int) (i : (Int) × (Int) × Unit) : TT (uE ⊕ uv) :=
 .ite (decide (i.1 < Int.tmod n 9))
 (.tt <| .lt (w64 (i.1 + 1) : Int) fun z => .lt (adV (i.2.1 * 10) : Int) fun z1 => .vQ (ub z1 z (Int.tmod n 9) <| (vV 4 0 (Int.toNat (w64 (w64 (Int.tdiv n 9) + 1))) true) ∧ True ∧ vZ n) <| .vQ (vP (vU 189 (List.replicate (Int.toNat (w64 (w64 (Int.tdiv n 9) + 1))) 0 : List Int)) True) <| .ok (.inl ((z, z1, ()))))
 (.triv (asT Int 9 ≠ 0) zf <| .need (inb (w64 (Int.tdiv n 9)) (↑(Int.toNat (w64 (w64 (Int.tdiv n 9) + 1))) : Int)) <| .ok (.inr ((List.take (Int.toNat (w64 (w64 (Int.tdiv n 9) + 1))) (List.set (List.replicate (Int.toNat (w64 (w64 (Int.tdiv n 9) + 1))) 0) (0 + Int.toNat (w64 (Int.tdiv n 9))) i.2.1), ()))))
def anN (n : Int) : TT uv :=
 .triv (asT Int 9 ≠ 0) zf <| .need (0 ≤ w64 (w64 (Int.tdiv n 9) + 1) ∧ w64 (w64 (Int.tdiv n 9) + 1) ≤ w64 (w64 (Int.tdiv n 9) + 1) ∧ w64 (w64 (Int.tdiv n 9) + 1) * (↑4 : Int) ≤ 140737488355328) <| .triv (asT Int 9 ≠ 0) zf <| .loop 0 (.tt <| .vQ (ub (1 : Int) (0 : Int) (Int.tmod n 9) <| (vV 4 0 (Int.toNat (w64 (w64 (Int.tdiv n 9) + 1))) true) ∧ True ∧ vZ n) <| .vQ (vP (vU 189 (List.replicate (Int.toNat (w64 (w64 (Int.tdiv n 9) + 1))) 0 : List Int)) True) <| .ok ((0, 1, ()))) (asK n)
def aHz : LTab := [(242, 122, 8193, ⟨0, (Int) × (List Int) × Unit, .dat (.s 11) ui <| .dat (.s 5) uX <| .nil, [10, 6, 4], [], 0⟩)]
def auH (m : List Int) (n : Int) (i : (Int) × (List Int) × Unit) : TT tg :=
 .ite (decide (i.1 < n))
 (.call (ai9 (m, i.2.1, ())) Dd0 fun y =>
 .tt <| .lt (w64 (i.1 + 1) : Int) fun z1 => .vQ (ub y.1 z1 n <| (vR (257 : FuncId) <| (vZ m) ∧ True) ∧ True ∧ True) <| .tr <| .ok (.inl ((z1, y.1, ()))))
 (.ok (.inr ((i.2.1, ()))))
def ayU (m : List Int) (n : Int) : TT uv :=
 .loop 0 (.tt <| .lt ([1] : List Int) fun z => .vQ (ub z (0 : Int) n <| (vR (257 : FuncId) <| (vZ m) ∧ True) ∧ True ∧ True) <| .tr <| .ok ((0, z, ()))) (auH m n)
def aJK : LTab := [(270, 30, 10241, ⟨0, (List Int) × Unit, .dat (.s 5) uX <| .nil, [0, 1], [], 0⟩)]
def aiT (m : List Int) (k : Int) (y : Bool × Unit) (y1 : Int × Unit) (y2 : List Int × Unit) (i : (List Int) × Unit) : TT (tT ⊕ uv) :=
 .call (ajA (i.1, w64 (k - 1), ())) Dd0 fun y3 =>
 .call (akH (m, y3.1, ())) Dd4 fun y4 =>
 .call (agW (abP (w64 (k - 1)), ())) Dd0 fun y5 =>
 .call (ai9 (i.1, y5.1, ())) Dd0 fun y6 =>
 .call (ap4 (y6.1, y4.1, ())) Dd0 fun y7 =>
 .call (asA (y7.1, adV k, ())) aRp fun y8 =>
 .call (alR (y8.1, i.1, ())) Dd6 fun y9 =>
 .ite (decide (y9.1 ≥ 0))
 (.ok (.inr ((i.1, ()))))
 (.tt <| .vQ (vT y8.1 m k) <| .tr <| .ok (.inl ((y8.1, ()))))
def aCf (m : List Int) (k : Int) : TT uv :=
 .call (ahN (m, ())) Dd1 fun y =>
 .ite (y.1)
 (.ok (([], ())))
 (.call (akG (m, ())) Dd6 fun y1 =>
 .need (k ≠ 0) <| .call (akJ (w64 (w64 (Int.tdiv y1.1 k) + 1), ())) Dd0 fun y2 =>
 .loop 0 (.tt <| .vQ (vT y2.1 m k) <| .tr <| .ok ((y2.1, ()))) (aiT m k y y1 y2))
def aOt : LTab := []
def aBq (a : List UInt8 × List UInt8 × Unit) : TT ((ur × List Int × Unit) × Bool × Unit) :=
 .call (afD (a.1, ())) Dd6 fun y =>
 .ite (y.1 != 0)
 (.ok (((([], false, ()), [], ()), false, ())))
 (.call (afD (a.2.1, ())) Dd6 fun y1 =>
 .ite (y1.1 != 0)
 (.ok (((([], false, ()), [], ()), false, ())))
 (.call (afX (a.1, ())) Dd5 fun y2 =>
 .call (afX (a.2.1, ())) Dd5 fun y3 =>
 .call (ajJ ((y3.1.1, y3.1.2.1, ()), ())) Dd6 fun y4 =>
 .ite (decide (y4.1 < 1))
 (.ok (((([], false, ()), [], ()), false, ())))
 (.call (agX (y2.1.1, y3.1.1, ())) Dd0 fun y5 =>
 .call (adO (y5.1, [1], ())) Dd6 fun y6 =>
 .ite (y6.1 != 0)
 (.ok (((([], false, ()), [], ()), false, ())))
 (.ok ((((y2.1.1, y2.1.2.1, ()), y3.1.1, ()), true, ()))))))
def aLR : LTab := []
def awB (a : List UInt8 × List UInt8 × Unit) : TT uK :=
 .call (abM ((a.1, a.2.1, ()), ())) aHr fun y =>
 .ite (!y.2.1)
 (.ok ((20, ())))
 (.ok ((0, ())))
def aOx : LTab := []
def aBv (n : List UInt8) (d : List UInt8) : TT uD :=
 .call (afD (n, ())) Dd6 fun y =>
 .ite (y.1 != 0)
 (.ok (((#[].toList, #[].toList, ()), 10, ())))
 (.call (afD (d, ())) Dd6 fun y1 =>
 .ite (y1.1 != 0)
 (.ok (((#[].toList, #[].toList, ()), 10, ())))
 (.call (afX (n, ())) Dd5 fun y2 =>
 .call (afX (d, ())) Dd5 fun y3 =>
 .call (ac6 (y3.1.1, ())) Dd1 fun y4 =>
 .ite (y4.1)
 (.ok (((#[].toList, #[].toList, ()), 7, ())))
 (.call (aa9 (y2.1.1, !y2.1.2.1 == y3.1.2.1, ())) Dd5 fun y5 =>
 .call (akM (y5.1, y3.1.1, ())) Dd8 fun y6 =>
 .call (aeW (y6.1, ())) aeQ fun y7 =>
 .ok (((y7.1.1, y7.1.2.1, ()), y7.2.1, ())))))
def aQQ : LTab := []
def aO9 (n : Int) (d : Int) : TT uD :=
 .call (atJ (n, ())) Dd2 fun y =>
 .call (atJ (d, ())) Dd2 fun y1 =>
 .call (aqH (y.1, y1.1, ())) aeQ fun y2 =>
 .ok (((y2.1.1, y2.1.2.1, ()), y2.2.1, ()))
def aOu : LTab := []
def aBt (a : List UInt8 × List UInt8 × Unit) : TT um :=
 .call (abM ((a.1, a.2.1, ()), ())) aHr fun y =>
 .ite (!y.2.1)
 (.ok ((0, 20, ())))
 (.call (ajJ ((y.1.1.1, y.1.1.2.1, ()), ())) Dd6 fun y1 =>
 .ok ((y1.1, 0, ())))
def aP4 : LTab := []
def aFL (a : List UInt8 × List UInt8 × Unit) (b : List UInt8 × List UInt8 × Unit) : TT um :=
 .tt <| .tt <| .call (abM ((a.1, a.2.1, ()), ())) aHr fun y =>
 .call (abM ((b.1, b.2.1, ()), ())) aHr fun y1 =>
 .ite (!y.2.1)
 (.ok ((0, 20, ())))
 (.ite (!y1.2.1)
 (.ok ((0, 20, ())))
 (.call (am0 (((y.1.1.1, y.1.1.2.1, ()), y.1.2.1, ()), ((y1.1.1.1, y1.1.1.2.1, ()), y1.1.2.1, ()), ())) Dd6 fun y2 =>
 .ok ((y2.1, 0, ()))))
def aP5 : LTab := []
def aFN (a : List UInt8 × List UInt8 × Unit) (b : List UInt8 × List UInt8 × Unit) : TT uD :=
 .tt <| .tt <| .call (abM ((a.1, a.2.1, ()), ())) aHr fun y =>
 .call (abM ((b.1, b.2.1, ()), ())) aHr fun y1 =>
 .ite (!y.2.1)
 (.tt <| .tt <| .ok (((#[].toList, #[].toList, ()), 20, ())))
 (.ite (!y1.2.1)
 (.tt <| .tt <| .ok (((#[].toList, #[].toList, ()), 20, ())))
 (.call (aqF (((y.1.1.1, y.1.1.2.1, ()), y.1.2.1, ()), ((y1.1.1.1, y1.1.1.2.1, ()), y1.1.2.1, ()), ())) Dd8 fun y2 =>
 .tt <| .tt <| .call (aeW (((y2.1.1.1, y2.1.1.2.1, ()), y2.1.2.1, ()), ())) aeQ fun y3 =>
 .ok (((y3.1.1, y3.1.2.1, ()), y3.2.1, ()))))
def aP1 : LTab := []
def aFH (a : List UInt8 × List UInt8 × Unit) (b : List UInt8 × List UInt8 × Unit) : TT uD :=
 .tt <| .tt <| .call (abM ((a.1, a.2.1, ()), ())) aHr fun y =>
 .call (abM ((b.1, b.2.1, ()), ())) aHr fun y1 =>
 .ite (!y.2.1)
 (.tt <| .tt <| .ok (((#[].toList, #[].toList, ()), 20, ())))
 (.ite (!y1.2.1)
 (.tt <| .tt <| .ok (((#[].toList, #[].toList, ()), 20, ())))
 (.call (auE (((y.1.1.1, y.1.1.2.1, ()), y.1.2.1, ()), ((y1.1.1.1, y1.1.1.2.1, ()), y1.1.2.1, ()), ())) Dd8 fun y2 =>
 .tt <| .tt <| .call (aeW (((y2.1.1.1, y2.1.1.2.1, ()), y2.1.2.1, ()), ())) aeQ fun y3 =>
 .ok (((y3.1.1, y3.1.2.1, ()), y3.2.1, ()))))
def aP2 : LTab := []
def aFI (a : List UInt8 × List UInt8 × Unit) (b : List UInt8 × List UInt8 × Unit) : TT uD :=
 .tt <| .tt <| .call (abM ((a.1, a.2.1, ()), ())) aHr fun y =>
 .call (abM ((b.1, b.2.1, ()), ())) aHr fun y1 =>
 .ite (!y.2.1)
 (.tt <| .tt <| .ok (((#[].toList, #[].toList, ()), 20, ())))
 (.ite (!y1.2.1)
 (.tt <| .tt <| .ok (((#[].toList, #[].toList, ()), 20, ())))
 (.call (aqE (((y.1.1.1, y.1.1.2.1, ()), y.1.2.1, ()), ((y1.1.1.1, y1.1.1.2.1, ()), y1.1.2.1, ()), ())) Dd8 fun y2 =>
 .tt <| .tt <| .call (aeW (((y2.1.1.1, y2.1.1.2.1, ()), y2.1.2.1, ()), ())) aeQ fun y3 =>
 .ok (((y3.1.1, y3.1.2.1, ()), y3.2.1, ()))))
def aP3 : LTab := []
def aFK (a : List UInt8 × List UInt8 × Unit) (b : List UInt8 × List UInt8 × Unit) : TT uD :=
 .call (abM ((a.1, a.2.1, ()), ())) aHr fun y =>
 .call (abM ((b.1, b.2.1, ()), ())) aHr fun y1 =>
 .ite (!y.2.1)
 (.ok (((#[].toList, #[].toList, ()), 20, ())))
 (.ite (!y1.2.1)
 (.ok (((#[].toList, #[].toList, ()), 20, ())))
 (.call (ac6 (y1.1.1.1, ())) Dd1 fun y2 =>
 .ite (y2.1)
 (.ok (((#[].toList, #[].toList, ()), 7, ())))
 (.call (aiC (((y1.1.1.1, y1.1.1.2.1, ()), y1.1.2.1, ()), ())) Dd8 fun y3 =>
 .call (aqE (((y.1.1.1, y.1.1.2.1, ()), y.1.2.1, ()), y3.1, ())) Dd8 fun y4 =>
 .call (aeW (y4.1, ())) aeQ fun y5 =>
 .ok (((y5.1.1, y5.1.2.1, ()), y5.2.1, ())))))
def aLO : LTab := []
def awA (a : List UInt8 × List UInt8 × Unit) : TT tj :=
 .call (abM ((a.1, a.2.1, ()), ())) aHr fun y =>
 .ite (!y.2.1)
 (.ok ((#[].toList, 20, ())))
 (.call (ajK ((y.1.1.1, y.1.1.2.1, ()), y.1.2.1, ())) Dd5 fun y1 =>
 .call (ajI (y1.1, ())) Dd2 fun y2 =>
 .ok ((y2.1, 0, ())))
def aOw : LTab := []
def aBu (a : List UInt8 × List UInt8 × Unit) (scale : Int) : TT um :=
 .call (abM ((a.1, a.2.1, ()), ())) aHr fun y =>
 .ite (!y.2.1)
 (.ok ((0, 20, ())))
 (.ite (decide (scale < 1))
 (.ok ((0, 2, ())))
 (.ite (decide (scale > 1000000000000))
 (.ok ((0, 2, ())))
 (.call (abN (abP scale, ())) Dd0 fun y1 =>
 .call (aqD (((y.1.1.1, y.1.1.2.1, ()), y.1.2.1, ()), y1.1, ())) Dd5 fun y2 =>
 .call (ajI (y2.1, ())) Dd2 fun y3 =>
 .call (akK (y3.1, ())) aEl fun y4 =>
 .ite (y4.2.1 != 0)
 (.ok ((0, 6, ())))
 (.ok ((y4.1, 0, ()))))))
end
theorem aKk {s t : List UInt8} {b : Bool} (hc : abX (s, #[45].toList, ()) = some (t, b, ())) (h : ¬ (isD t ∧ t ≠ [] ∧ t.length ≤ 600 ∧ (t.head? = some 48 → b = false ∧ t.length = 1))) : rdW s = none := by
 refine aGB fun z hz he => h ?_
 rw [← he, aEi] at hc
 injection hc with hc
 obtain ⟨rfl, h2⟩ := Prod.mk.inj hc
 obtain ⟨rfl, -⟩ := Prod.mk.inj h2
 refine ⟨aj7 _, aeP _, hz, fun h0 => ?_⟩
 by_cases hn : z.natAbs = 0
 ·rw [hn, abH zc]
  exact ⟨zn zc, rfl⟩
 ·exact absurd h0 (aMc hn)
theorem aKj {s t : List UInt8} {b : Bool} (hc : abX (s, #[45].toList, ()) = some (t, b, ())) (h1 : isD t) (h2 : t ≠ []) (h3 : t.length ≤ 600) (h4 : t.head? = some 48 → b = false ∧ t.length = 1) : ∃ z : Int, rdW s = some z ∧ z.natAbs = num t ∧ decide (z < 0) = b := by
 have hu : t = aa2 (num t) := aDN h1 h2 (by
  by_cases h0 : t.head? = some 48
  ·exact Or.inr (h4 h0).2
  ·exact Or.inl h0)
 have hs : s = if b then 45 :: t else t := by
  injection hc with hc
  simp only at hc
  split at hc
  ·rename_i hp
   obtain ⟨e1, e2⟩ := Prod.mk.inj hc
   obtain ⟨rfl, -⟩ := Prod.mk.inj e2
   cases s with
   | nil => cases hp
   | cons c s =>
    have : c = 45 := by
     have h5 : ([45] : List UInt8).isPrefixOf (c :: s) = true := hp
     simp [List.isPrefixOf] at h5
     exact h5.symm
    rw [this, ← e1]; rfl
  ·obtain ⟨e1, e2⟩ := Prod.mk.inj hc
   obtain ⟨rfl, -⟩ := Prod.mk.inj e2
   rw [← e1]; rfl
 cases b
 ·refine ⟨(num t : Int), ?_, by simp, by simp⟩
  have : s = dec (num t : Int) := by rw [ad7, ← hu, hs]; rfl
  rw [this, ak1 (show (aa2 (num t : Int).natAbs).length ≤ 600 by simp; rw [← hu]; exact h3)]
 ·have hn : num t ≠ 0 := by
   intro h0
   rw [h0, abH zc] at hu
   have := h4 (by rw [hu]; rfl)
   cases this.1
  refine ⟨-(num t : Int), ?_, by simp, by simp; omega⟩
  have : s = dec (-(num t : Int)) := by rw [ahJ zc, xH, zN, ← hu, hs]; rfl
  rw [this, ak1 (show (aa2 (-(num t : Int)).natAbs).length ≤ 600 by simp; rw [← hu]; exact h3)]
noncomputable def aQl (s : List UInt8) : SgT × Bool × Unit := match rdW s with | some z => (sg z, true, ()) | none => (([], false, ()), false, ())
theorem aHB (a : List UInt8) (y) (h : afB (a, ()) = some y) : (aAw a).toO = some y := by
 have hy : y = aQl a := by injection h with h; exact h.symm
 clear h
 subst hy
 obtain ⟨t, b, hc⟩ : ∃ t b, abX (a, #[45].toList, ()) = some (t, b, ()) := ⟨_, _, rfl⟩
 have hnot : ¬ (isD t ∧ t ≠ [] ∧ t.length ≤ 600 ∧ (t.head? = some 48 → b = false ∧ t.length = 1)) → aQl a = (([], false, ()), false, ()) := fun h => by unfold aQl; rw [aKk hc h]
 have hyes : isD t → t ≠ [] → t.length ≤ 600 → (t.head? = some 48 → b = false ∧ t.length = 1) → ajB (t, ()) = some (mag (num t), ()) ∧ aQl a = ((mag (num t), b, ()), true, ()) := fun h1 h2 h3 h4 => by
  obtain ⟨z, e1, e2, e3⟩ := aKj hc h1 h2 h3 h4
  refine ⟨?_, ?_⟩
  ·unfold ajB
   rw [if_pos ⟨h1, h2, by simp only; omega⟩]
  ·unfold aQl
   rw [e1]
   show ((mag z.natAbs, decide (z < 0), ()), true, ()) = _
   rw [e2, e3]
 unfold aAw
 refine uC (t, b, ()) hc ?_
 by_cases h1 : t = []
 ·rw [hnot (fun h => h.2.1 h1)]
  refine uR _ (uT (by simp [h1, len]) rfl)
 have hlen : 1 ≤ t.length := ya.2 h1
 by_cases h2 : t.length ≤ 600
 case neg =>
  rw [hnot (fun h => h2 h.2.2.1)]
  refine uR _ (uF sd (uT sd rfl))
 refine uL (false, ()) (uF sd (uF sd rfl)) ?_
 refine uO (0, ()) rfl ?_
 refine aaN (fun i : Int × Unit => ∃ k : Nat, i.1 = (k : Int) ∧ k ≤ t.length ∧ isD (t.take k)) (fun i => ((t.length : Int) - i.1).toNat) (fun _ => aQl a) ?_ _ ⟨0, rfl, by omega, by simp [isD]⟩
 rintro ⟨i, u⟩ ⟨k, h3, h4, h5⟩
 simp only at h3
 subst h3
 simp only [aCi, aaM]
 rcases zr k t.length with hk | hk
 ·have e1 : t.getD k 0 = t[k] := by simp [hk]
  simp only [e1]
  by_cases c1 : t[k].toNat < 48
  ·right
   rw [hnot (fun h => by have := h.1 t[k] (yp hk); omega)]
   repeat refine za ?_
   rfl
  by_cases c2 : t[k].toNat > 57
  ·right
   rw [hnot (fun h => by have := h.1 t[k] (yp hk); omega)]
   repeat refine za ?_
   rfl
  ·left
   refine ⟨(((k + 1 : Nat) : Int), ()), ?_, ⟨k + 1, rfl, by omega, ?_⟩, by simp only; omega, ze⟩
   ·repeat refine za ?_
    simp (disch := omega) only [aaK, aaA, aaO, aa0, abO, aaM, zu, zp, aaC, zt]
    rfl
   ·rw [zW hk, isD_append]
    refine ⟨h5, fun c hc => ?_⟩
    have := yd.1 hc
    subst this
    omega
 ·right
  have hd : isD t := by rwa [zz hk] at h5
  refine uF sd (uN ⟨by simp [asT], by exact sn⟩ ?_)
  cases ht : t with
  | nil => exact absurd ht h1
  | cons c r =>
   rw [← ht]
   have hg : gi t 0 0 = c := by rw [ht]; rfl
   simp only [hg]
   have hh : t.head? = some c := by rw [ht]; rfl
   by_cases c0 : c = 48
   ·subst c0
    refine uT (by rfl) ?_
    cases b
    ·refine uF rfl ?_
     by_cases hl : t.length = 1
     ·obtain ⟨g1, g2⟩ := hyes hd h1 h2 (fun _ => ⟨rfl, hl⟩)
      rw [g2]
      exact uF sd (uC _ g1 rfl)
     ·rw [hnot (fun h => hl (h.2.2.2 hh).2)]
      exact uT sd rfl
    ·rw [hnot (fun h => by have := (h.2.2.2 hh).1; cases this)]
     exact uT rfl rfl
   ·obtain ⟨g1, g2⟩ := hyes hd h1 h2 (fun h => by rw [hh] at h; injection h with h; exact absurd h c0)
    rw [g2]
    refine uF ?_ (uC _ g1 rfl)
    rw [beq_eq_false_iff_ne]
    intro h
    exact c0 (UInt8.toNat_inj.1 (Int.ofNat.inj h))
theorem acZ {s : List UInt8} {z : Int} (h : rdW s = some z) : afB (s, ()) = some (sg z, true, ()) := by unfold afB; rw [h]
theorem ac0 {s : List UInt8} (h : rdW s = none) : afB (s, ()) = some (([], false, ()), false, ()) := by unfold afB; rw [h]
theorem aEA (a : List UInt8) (y) (h : afD (a, ()) = some y) : (auJ a).toO = some y := by
 unfold afD at h
 unfold auJ
 cases hr : rdW a with
 | none =>
  simp only [hr] at h
  exact uC _ (ac0 hr) (uT rfl h)
 | some z =>
  simp only [hr] at h
  exact uC _ (acZ hr) (uF rfl h)
theorem aHC (a b : List UInt8) (y) (h : afC (a, b, ()) = some y) : (aAx a b).toO = some y := by
 unfold afC at h
 unfold aAx
 cases hr : rdW a with
 | none =>
  simp only [hr] at h
  cases hb : rdW b with
  | none => exact uC _ (ac0 hr) (uC _ (ac0 hb) (uT rfl h))
  | some w => exact uC _ (ac0 hr) (uC _ (acZ hb) (uT rfl h))
 | some z =>
  cases hb : rdW b with
  | none =>
   simp only [hr, hb] at h
   exact uC _ (acZ hr) (uC _ (ac0 hb) (uF rfl (uT rfl h)))
  | some w =>
   simp only [hr, hb] at h
   exact uC _ (acZ hr) (uC _ (acZ hb) (uF rfl (uF rfl h)))
theorem aM9 (n : Int) (y) (h : atJ (n, ()) = some y) : (aOW n).toO = some y := by
 unfold atJ at h
 split at h
 ·rename_i hp
  exact uC (dec n, ()) (by unfold aAl; exact if_pos hp) h
 ·cases h
theorem aMS {n : Int} (h : abD n) : atJ (n, ()) = some (dec n, ()) := by unfold atJ; rw [if_pos h]
theorem aEb {a b : Int} (h1 : Bd 7 a.natAbs) (h2 : Bd 7 b.natAbs) : ah8 (sg a, sg b, ()) = some (sg (a * b), ()) := aaI (enc := fun x : Int × Int => (sg x.1, sg x.2, ())) (a, b) ⟨h1, h2⟩ (fun b hb => aAL hb)
theorem anE {s : List UInt8} {z : Int} (h : rdW s = some z) : Bd 0 z.natAbs := apY (aeH h).1
theorem aJP (a b : List UInt8) (y) (h : asC (a, b, ()) = some y) : (aEx a b).toO = some y := by
 unfold asC at h
 unfold aEx
 refine uV (uV ?_)
 cases hr : rdW a with
 | none =>
  simp only [hr] at h
  refine uC (([], false, ()), ([], false, ()), 10, ()) (by unfold afC; simp only [hr]) (uT rfl h)
 | some z =>
  cases hb : rdW b with
  | none =>
   simp only [hr, hb] at h
   refine uC (([], false, ()), ([], false, ()), 10, ()) (by unfold afC; simp only [hr, hb]) (uT rfl h)
  | some w =>
   simp only [hr, hb] at h
   have b1 := anE hr
   have b2 := anE hb
   refine uC (sg z, sg w, 0, ()) (by unfold afC; simp only [hr, hb]) (uF rfl (uV ?_))
   refine uC _ (aEb (aaH b1 zc) (aaH b2 zc)) ?_
   refine uC _ (aqL (aaH (aaB b1 b2) zc)) ?_
   exact h
theorem adT (s : List UInt8) : afD (s, ()) = some (if (rdW s).isSome then 0 else 10, ()) := rfl
theorem aMm (n : Nat) : atE n 1 = 0 ↔ n = 1 := by
 unfold atE
 split
 ·omega
 ·split <;> omega
theorem aIN (a : FxT) (y) (h : abM (a, ()) = some y) : (aBq a).toO = some y := by
 obtain ⟨s, t, u⟩ := a
 have hs := aO2 s t
 unfold abM at h
 dsimp only at h
 unfold aBq
 dsimp only
 cases hn : rdW s with
 | none =>
  rw [hn] at hs
  have hs' : rdF (s, t, u) = none := hs
  rw [hs'] at h
  refine uC _ (adT s) (uT (by rw [hn]; rfl) h)
 | some n =>
  cases hd : rdW t with
  | none =>
   rw [hn, hd] at hs
   have hs' : rdF (s, t, u) = none := hs
   rw [hs'] at h
   refine uC _ (adT s) (uF (by rw [hn]; rfl) (uC _ (adT t) (uT (by rw [hd]; rfl) h)))
  | some d =>
   rw [hn, hd] at hs
   dsimp only at hs
   obtain ⟨f1, e1⟩ := aeH hn
   obtain ⟨f2, e2⟩ := aeH hd
   have b1 := anE hn
   have b2 := anE hd
   refine uC _ (adT s) (uF (by rw [hn]; rfl) (uC _ (adT t) (uF (by rw [hd]; rfl) ?_)))
   refine uC (sg n, ()) (by rw [e1]; exact am6 (aaH b1 zc)) ?_
   refine uC (sg d, ()) (by rw [e2]; exact am6 (aaH b2 zc)) ?_
   refine uC _ (axU (aaH b2 zc)) ?_
   by_cases hp : 0 < d
   ·refine uF ?_ ?_
    ·rw [xN hp]; rfl
    have hg := am5 (a := n.natAbs) (b := d.natAbs) (aaH b1 zc) (aaH b2 zc)
    refine uC _ hg ?_
    have hc := atK (a := Nat.gcd n.natAbs d.natAbs) (b := 1) (aaH (aaY b1 b2) zc) (aaH (aaG zc) zc)
    rw [arG] at hc
    refine uC _ hc ?_
    by_cases hcop : n.natAbs.Coprime d.natAbs
    ·rw [dif_pos ⟨hp, hcop⟩] at hs
     have hs' : rdF (s, t, u) = some ⟨n, d.natAbs, by omega, hcop⟩ := hs
     rw [hs'] at h
     refine uF ?_ h
     have : atE (Nat.gcd n.natAbs d.natAbs) 1 = 0 := (aMm _).2 hcop
     show (atE (Nat.gcd n.natAbs d.natAbs) 1 != 0) = false
     rw [this]; rfl
    ·rw [dif_neg (fun h => hcop h.2)] at hs
     have hs' : rdF (s, t, u) = none := hs
     rw [hs'] at h
     refine uT ?_ h
     show (atE (Nat.gcd n.natAbs d.natAbs) 1 != 0) = true
     rw [xe]
     exact fun h2 => hcop ((aMm _).1 h2)
   ·rw [dif_neg (fun h => hp h.1)] at hs
    have hs' : rdF (s, t, u) = none := hs
    rw [hs'] at h
    refine uT ?_ h
    rcases zQ d 0 with h0 | h0
    ·rw [xq h0]; rfl
    ·have : d = 0 := zc
     rw [this]; rfl
theorem aaQ {s : FxT} {q : Rat} (h : rdF s = some q) : abM (s, ()) = some (rt q, true, ()) := by unfold abM; dsimp only; rw [h]
theorem aaR {s : FxT} (h : rdF s = none) : abM (s, ()) = some ((([], false, ()), [], ()), false, ()) := by unfold abM; dsimp only; rw [h]
theorem ad3 {k j : Nat} {q : Rat} (h : BdQ k q) (hk : k ≤ j) : BdQ j q := ⟨aaH h.1 hk, aaH h.2 hk⟩
theorem agE {s : FxT} {q : Rat} (h : rdF s = some q) : BdQ 0 q := by
 obtain ⟨h1, h2⟩ := (agR h).1
 exact ⟨apY h1, apY h2⟩
theorem aGa {k : Nat} {p q : Rat} (h1 : BdQ k p) (h2 : BdQ k q) : BdQ (k + 2) (p + q) := by
 obtain ⟨g, h', top, t, hg, ht, hh, g0, h0, htt, e1, e2⟩ := aD8 p q
 refine ⟨?_, ?_⟩
 ·rw [e1, ← acS htt h0]
  refine aaS _ ?_
  rw [ht]
  exact aaD (aaB h1.1 (aaP (aaS _ h2.2))) (aaB h2.1 (aaP (aaS _ h1.2)))
 ·rw [e2]
  exact aaH (aaW (aaS _ h1.2) (aaS _ h2.2)) zc
theorem aQf {k : Nat} {p : Rat} (h1 : BdQ k p) : BdQ k (-p) := ⟨aaV h1.1, h1.2⟩
theorem aQe {k : Nat} {p q : Rat} (h1 : BdQ k p) (h2 : BdQ k q) : BdQ (k + 2) (p - q) := by
 rw [vl]; exact aGa h1 (aQf h2)
theorem aF9 {k : Nat} {p q : Rat} (h1 : BdQ k p) (h2 : BdQ k q) : BdQ (k + 2) (p * q) := by
 obtain ⟨g, h', s, t, hg, hh, g0, h0, hs, ht, e1, e2⟩ := aDa p q
 refine ⟨?_, ?_⟩
 ·rw [e1]
  refine aaH (aaB (k := k) ?_ ?_) zc
  ·rw [← acS hs g0]; exact aaS _ h1.1
  ·rw [← acS ht h0]; exact aaS _ h2.1
 ·rw [e2]
  exact aaH (aaW (aaS _ h1.2) (aaS _ h2.2)) zc
theorem aMx {k : Nat} {p : Rat} (h : BdQ k p) (h0 : p ≠ 0) : BdQ k p⁻¹ := by
 obtain ⟨e1, e2, e3⟩ := aDl h0
 exact ⟨by rw [e1]; exact h.2, by rw [e3]; exact h.1⟩
theorem aLS (a b : FxT) (y) (h : adQ (a, b, ()) = some y) : (aFN a b).toO = some y := by
 unfold adQ aKK at h
 dsimp only at h
 unfold aFN
 refine uV (uV ?_)
 cases ha : rdF a with
 | none =>
  simp only [ha] at h
  cases hb : rdF b with
  | none => exact uC _ (aaR ha) (uC _ (aaR hb) (uT rfl (uV (uV h))))
  | some q => exact uC _ (aaR ha) (uC _ (aaQ hb) (uT rfl (uV (uV h))))
 | some p =>
  cases hb : rdF b with
  | none =>
   simp only [ha, hb] at h
   exact uC _ (aaQ ha) (uC _ (aaR hb) (uF rfl (uT rfl (uV (uV h)))))
  | some q =>
   simp only [ha, hb] at h
   have b1 := agE ha
   have b2 := agE hb
   refine uC _ (aaQ ha) (uC _ (aaQ hb) (uF rfl (uF rfl ?_)))
   refine uC _ (aHo (ad3 b1 zc) (ad3 b2 zc)) (uV (uV ?_))
   exact uC _ (ajP (ad3 (aGa b1 b2) zc)) h
theorem aLM (a b : FxT) (y) (h : afY (a, b, ()) = some y) : (aFH a b).toO = some y := by
 unfold afY aKK at h
 dsimp only at h
 unfold aFH
 refine uV (uV ?_)
 cases ha : rdF a with
 | none =>
  simp only [ha] at h
  cases hb : rdF b with
  | none => exact uC _ (aaR ha) (uC _ (aaR hb) (uT rfl (uV (uV h))))
  | some q => exact uC _ (aaR ha) (uC _ (aaQ hb) (uT rfl (uV (uV h))))
 | some p =>
  cases hb : rdF b with
  | none =>
   simp only [ha, hb] at h
   exact uC _ (aaQ ha) (uC _ (aaR hb) (uF rfl (uT rfl (uV (uV h)))))
  | some q =>
   simp only [ha, hb] at h
   have b1 := agE ha
   have b2 := agE hb
   refine uC _ (aaQ ha) (uC _ (aaQ hb) (uF rfl (uF rfl ?_)))
   refine uC _ (aOR (ad3 b1 zc) (ad3 b2 zc)) (uV (uV ?_))
   exact uC _ (ajP (ad3 (aQe b1 b2) zc)) h
theorem aLN (a b : FxT) (y) (h : ac9 (a, b, ()) = some y) : (aFI a b).toO = some y := by
 unfold ac9 aKK at h
 dsimp only at h
 unfold aFI
 refine uV (uV ?_)
 cases ha : rdF a with
 | none =>
  simp only [ha] at h
  cases hb : rdF b with
  | none => exact uC _ (aaR ha) (uC _ (aaR hb) (uT rfl (uV (uV h))))
  | some q => exact uC _ (aaR ha) (uC _ (aaQ hb) (uT rfl (uV (uV h))))
 | some p =>
  cases hb : rdF b with
  | none =>
   simp only [ha, hb] at h
   exact uC _ (aaQ ha) (uC _ (aaR hb) (uF rfl (uT rfl (uV (uV h)))))
  | some q =>
   simp only [ha, hb] at h
   have b1 := agE ha
   have b2 := agE hb
   refine uC _ (aaQ ha) (uC _ (aaQ hb) (uF rfl (uF rfl ?_)))
   refine uC _ (aHn (ad3 b1 zc) (ad3 b2 zc)) (uV (uV ?_))
   exact uC _ (ajP (ad3 (aF9 b1 b2) zc)) h
theorem aLP (a b : FxT) (y) (h : afG (a, b, ()) = some y) : (aFK a b).toO = some y := by
 unfold afG at h
 dsimp only at h
 unfold aFK
 cases ha : rdF a with
 | none =>
  simp only [ha] at h
  cases hb : rdF b with
  | none => exact uC _ (aaR ha) (uC _ (aaR hb) (uT rfl h))
  | some q => exact uC _ (aaR ha) (uC _ (aaQ hb) (uT rfl h))
 | some p =>
  cases hb : rdF b with
  | none =>
   simp only [ha, hb] at h
   exact uC _ (aaQ ha) (uC _ (aaR hb) (uF rfl (uT rfl h)))
  | some q =>
   simp only [ha, hb] at h
   have b1 := agE ha
   have b2 := agE hb
   refine uC _ (aaQ ha) (uC _ (aaQ hb) (uF rfl (uF rfl ?_)))
   refine uC _ (aqN _) ?_
   by_cases h0 : q = 0
   ·rw [if_pos h0] at h
    exact uT (zo (by rw [h0]; rfl)) h
   ·rw [if_neg h0] at h
    have := aO7 h0
    refine uF sd ?_
    refine uC _ (aEg (ad3 b2 zc) h0) ?_
    refine uC _ (aHn (ad3 b1 zc) (ad3 (aMx b2 h0) zc)) ?_
    exact uC _ (ajP (ad3 (aF9 b1 (aMx b2 h0)) zc)) h
theorem aLQ (a b : FxT) (y) (h : ahS (a, b, ()) = some y) : (aFL a b).toO = some y := by
 unfold ahS at h
 dsimp only at h
 unfold aFL
 refine uV (uV ?_)
 cases ha : rdF a with
 | none =>
  simp only [ha] at h
  cases hb : rdF b with
  | none => exact uC _ (aaR ha) (uC _ (aaR hb) (uT rfl h))
  | some q => exact uC _ (aaR ha) (uC _ (aaQ hb) (uT rfl h))
 | some p =>
  cases hb : rdF b with
  | none =>
   simp only [ha, hb] at h
   exact uC _ (aaQ ha) (uC _ (aaR hb) (uF rfl (uT rfl h)))
  | some q =>
   simp only [ha, hb] at h
   have b1 := agE ha
   have b2 := agE hb
   exact uC _ (aaQ ha) (uC _ (aaQ hb) (uF rfl (uF rfl (uC _ (aJx (ad3 b1 zc) (ad3 b2 zc)) h))))
theorem aFM (a : FxT) (y) (h : aqI (a, ()) = some y) : (awB a).toO = some y := by
 unfold aqI at h
 dsimp only at h
 unfold awB
 cases ha : rdF a with
 | none =>
  simp only [ha] at h
  exact uC _ (aaR ha) (uT rfl h)
 | some q =>
  simp only [ha] at h
  exact uC _ (aaQ ha) (uF rfl h)
theorem aIQ (a : FxT) (y) (h : aqG (a, ()) = some y) : (aBt a).toO = some y := by
 unfold aqG at h
 dsimp only at h
 unfold aBt
 cases ha : rdF a with
 | none =>
  simp only [ha] at h
  exact uC _ (aaR ha) (uT rfl h)
 | some q =>
  simp only [ha] at h
  exact uC _ (aaQ ha) (uF rfl (uC _ (axU (aaH (agE ha).1 zc)) h))
theorem aPY {z : Int} (h : Fit z) : (mag z.natAbs).length ≤ 600 := aiM h
theorem aPb {n : Nat} (h : (mag n).length ≤ 1000000) : Bd 0 n := h
theorem aO8 {a : Int} {d : Nat} {k : Nat} (h : (mag a.natAbs).length ≤ k) (hk : 1 ≤ k) : (mag (a / (d : Int)).natAbs).length ≤ k + 1 := by
 rcases zF d with h0 | h0
 ·subst h0
  simp only [Int.natCast_zero, Int.ediv_zero, Int.natAbs_zero, mag_zero]
  simp
 ·have hle : (a / (d : Int)).natAbs ≤ a.natAbs + 1 := by
   rcases zQ a 0 with h1 | h1
   ·rw [arQ h1 zc, xH, zN]
    have := xB a.natAbs d
    split <;> omega
   ·obtain ⟨n, rfl⟩ := zv h1
    have : ((n : Int) / (d : Int)) = ((n / d : Nat) : Int) := zi
    rw [this, zN]
    have := xB n d
    omega
  have h2 := abR hle
  have h3 := aiL a.natAbs 1
  have h4 : (mag 1).length = 1 := by rw [arG]; rfl
  omega
theorem aFJ (a : FxT) (y) (h : ajL (a, ()) = some y) : (awA a).toO = some y := by
 unfold ajL at h
 dsimp only at h
 unfold awA
 cases ha : rdF a with
 | none =>
  simp only [ha] at h
  exact uC _ (aaR ha) (uT rfl h)
 | some q =>
  simp only [ha] at h
  have b := agE ha
  refine uC _ (aaQ ha) (uF rfl ?_)
  refine uC _ (aAs (aaH b.1 zc) (aaH b.2 zc) q.den_nz) ?_
  refine uC _ (axT (aPb ?_)) h
  have := aO8 (d := q.den) (aPY (agR ha).1.1) zc
  omega
theorem aIS (n d : List UInt8) (y) (h : aqH (n, d, ()) = some y) : (aBv n d).toO = some y := by
 unfold aqH at h
 dsimp only at h
 unfold aBv
 cases hn : rdW n with
 | none =>
  simp only [hn] at h
  exact uC _ (adT n) (uT (by rw [hn]; rfl) h)
 | some a =>
  cases hd : rdW d with
  | none =>
   simp only [hn, hd] at h
   exact uC _ (adT n) (uF (by rw [hn]; rfl) (uC _ (adT d) (uT (by rw [hd]; rfl) h)))
  | some b =>
   simp only [hn, hd] at h
   have b1 := anE hn
   have b2 := anE hd
   refine uC _ (adT n) (uF (by rw [hn]; rfl) (uC _ (adT d) (uF (by rw [hd]; rfl) ?_)))
   refine uC (sg a, ()) (by rw [(aeH hn).2]; exact am6 (aaH b1 zc)) ?_
   refine uC (sg b, ()) (by rw [(aeH hd).2]; exact am6 (aaH b2 zc)) ?_
   refine uC _ (aqN _) ?_
   unfold ofQ at h
   by_cases h0 : b = 0
   ·rw [if_pos h0] at h
    exact uT sd h
   ·rw [if_neg h0] at h
    refine uF sd ?_
    obtain ⟨s, hs, hv⟩ : ∃ s : Int, s.natAbs = a.natAbs ∧ (s = 0 ∨ (!(decide (a < 0) == decide (b < 0))) = decide (s < 0)) ∧ Rat.divInt a b = mkRat s b.natAbs := by
     rcases zQ b 0 with c | c
     ·refine ⟨-a, by omega, ?_, ?_⟩
      ·by_cases ha : a = 0
       ·left; omega
       ·right
        rw [zo c]
        rcases zQ a 0 with c2 | c2
        ·rw [zo c2, zn zc]; rfl
        ·rw [zn zc, zo zc]; rfl
      ·rw [← Rat.neg_divInt_neg, ← xJ]
       congr 1; omega
     ·refine ⟨a, rfl, ?_, ?_⟩
      ·right
       rw [zn (show ¬ b < 0 by omega)]
       cases decide (a < 0) <;> rfl
      ·rw [← xJ]
       congr 1; omega
    obtain ⟨hv1, hv2⟩ := hv
    rw [hv2] at h
    refine uC (sg s, ()) (abU hs.symm hv1) ?_
    refine uC _ (aGl (by rw [hs]; exact aaH b1 zc) (aaH b2 zc) zc) ?_
    refine uC _ (ajP ?_) h
    obtain ⟨g, t, hg, g0, e0, e1, e2⟩ := aeK s (d := b.natAbs) zc
    refine ⟨?_, ?_⟩
    ·rw [e1, ← acS e0 g0, hs]; exact aaH (aaS _ b1) zc
    ·rw [e2]; exact aaH (aaS _ b2) zc
theorem abI {z : Int} (h : abD z) : Fit z := by
 unfold abD at h
 have : (aa2 z.natAbs).length ≤ 20 := (acQ zc).2 zc
 unfold Fit; omega
theorem aOv (n d : Int) (y) (h : alV (n, d, ()) = some y) : (aO9 n d).toO = some y := by
 unfold alV at h
 split at h
 ·rename_i hp
  refine uC _ (aMS hp.1) (uC _ (aMS hp.2) ?_)
  refine uC (ofQ n d) ?_ h
  unfold aqH
  simp only [ak1 (abI hp.1), ak1 (abI hp.2)]
 ·cases h
theorem axO {z : Int} (h : Fit z) : akK (dec z, ()) = some (if abD z then (z, 0, ()) else (0, 6, ())) := by
 unfold akK
 simp only [ak1 h]
theorem azU {z : Int} (h : Fit z) : (mag z.natAbs).length ≤ 67 := by
 have hl : (aa2 z.natAbs).length ≤ 600 := h
 obtain ⟨L, hL⟩ : ∃ L : Nat, L = 67 := ⟨_, rfl⟩
 rw [← hL, mag_length_le_iff]
 have h1 := afM z.natAbs
 have h3 : (10 : Nat) ^ (9 * L) = 1000000000 ^ L := by rw [xM]
 have h2 : (10 : Nat) ^ (aa2 z.natAbs).length ≤ 10 ^ (9 * L) := zV zc zc
 omega
theorem aN6 {q : Rat} (h : ac1 q) {s : Nat} (hs : s ≤ 1000000000000) : (mag (ao8 q s).natAbs).length ≤ 200 := by
 rw [aLe]
 have h1 := azU h.1
 have h2 := azU h.2
 have hs2 : (mag (s * 2)).length ≤ 2 := mag_length_le_iff.2 zc
 have e1 : (mag (q.num * (s * 2 : Nat) + q.den).natAbs).length ≤ 100 := by
  have a1 := Int.natAbs_add_le (q.num * (s * 2 : Nat)) q.den
  have a2 := abR a1
  have a3 := aiL (q.num * (s * 2 : Nat)).natAbs (q.den : Int).natAbs
  rw [yF] at a3 a2
  have a4 := af6 q.num.natAbs ((s * 2 : Nat) : Int).natAbs
  simp only [zN] at a1 a2 a3 a4 h2 ⊢
  omega
 have := aO8 (d := q.den * 2) e1 zc
 omega
theorem aIR (a : FxT) (scale : Int) (y) (h : akN (a, scale, ()) = some y) : (aBu a scale).toO = some y := by
 unfold akN at h
 dsimp only at h
 unfold aBu
 cases ha : rdF a with
 | none =>
  simp only [ha] at h
  exact uC _ (aaR ha) (uT rfl h)
 | some q =>
  simp only [ha] at h
  refine uC _ (aaQ ha) (uF rfl ?_)
  have hq := (agR ha).1
  have hb := agE ha
  by_cases h1 : scale < 1
  ·rw [if_pos (Or.inl h1)] at h
   exact uT (zo h1) h
  by_cases h2 : scale > 1000000000000
  ·rw [if_pos (Or.inr h2)] at h
   exact uF (zn h1) (uT (zo h2) h)
  rw [if_neg zc] at h
  obtain ⟨s, rfl⟩ := zv (show 0 ≤ scale by omega)
  rw [zp] at h
  refine uF (zn h1) (uF (zn h2) ?_)
  have hl := aN6 hq (s := s) zc
  refine uC (mag s, ()) (by rw [aaO zc]; exact aB6 zc) ?_
  refine uC _ (aMY (ad3 hb zc) (aaH (aaG zc) zc)) ?_
  refine uC _ (axT (aPb zc)) ?_
  by_cases hf : Fit (ao8 q s)
  ·refine uC _ (axO hf) ?_
   by_cases hi : abD (ao8 q s)
   ·simp only [if_pos hi] at h ⊢
    exact uF rfl h
   ·simp only [if_neg hi] at h ⊢
    exact uT rfl h
  ·have hn : rdW (dec (ao8 q s)) = none := aGB fun z hz he => hf (by rw [← aj6 he]; exact hz)
   rw [if_neg (fun h => hf (abI h))] at h
   refine uC (0, 10, ()) (by unfold akK; simp only [hn]) (uT rfl h)
theorem acM {z : Int} (h : Fit z) : acU (sg z, ()) = some (dec z, 0, ()) := by
 rw [aqL (aaH (apY h) zc), aiI h]
theorem ae5 {a b : Int} (h : Fit b) (hab : a.natAbs ≤ b.natAbs) : Fit a := by
 unfold Fit at *
 rw [acQ zc] at *
 omega
theorem aOB {a b : Int} (hb : b ≠ 0) : (a < 0 → (a / b).natAbs = (if a.natAbs % b.natAbs = 0 then a.natAbs / b.natAbs else a.natAbs / b.natAbs + 1) ∧ (a % b).natAbs = (if a.natAbs % b.natAbs = 0 then 0 else b.natAbs - a.natAbs % b.natAbs)) ∧ (0 ≤ a → (a / b).natAbs = a.natAbs / b.natAbs ∧ (a % b).natAbs = a.natAbs % b.natAbs) := by
 obtain ⟨d, hd, hbd⟩ : ∃ d : Nat, b.natAbs = d ∧ (b = d ∨ b = -(d : Int)) := ⟨b.natAbs, rfl, by omega⟩
 have hd0 : d ≠ 0 := zc
 have e1 : (a / b).natAbs = (a / (d : Int)).natAbs := by
  rcases hbd with h | h
  ·rw [h]
  ·rw [h, Int.ediv_neg, xH]
 have e2 : a % b = a % (d : Int) := by
  rcases hbd with h | h
  ·rw [h]
  ·rw [h, Int.emod_neg]
 rw [e1, e2, hd]
 constructor
 ·intro ha
  have h1 := arQ ha hd0
  have h2 := yl a d
  have h3 := xU a.natAbs d
  have h4 := yU a.natAbs (show 0 < d by omega)
  generalize hq : a.natAbs / d = q at *
  generalize hr : a.natAbs % d = r at *
  rw [h1] at h2
  constructor
  ·rw [h1, xH, zN]
  ·by_cases h0 : r = 0
   ·rw [if_pos h0] at h2 ⊢
    have : (a.natAbs : Int) = ((r + d * q : Nat) : Int) := by rw [h3]
    rw [wC, yi] at this
    have e3 : (d : Int) * -(q : Int) = -((d : Int) * q) := by rw [Int.mul_neg]
    rw [e3] at h2
    generalize (d : Int) * q = w at *
    omega
   ·rw [if_neg h0] at h2 ⊢
    have : (a.natAbs : Int) = ((r + d * q : Nat) : Int) := by rw [h3]
    rw [wC, yi] at this
    have e3 : (d : Int) * -(((q + 1 : Nat)) : Int) = -((d : Int) * q) - d := by rw [Int.mul_neg, wC, xK]; simp; omega
    rw [e3] at h2
    generalize (d : Int) * q = w at *
    omega
 ·intro ha
  obtain ⟨n, rfl⟩ := zv ha
  have h1 : ((n : Int) / (d : Int)) = ((n / d : Nat) : Int) := zi
  have h2 : ((n : Int) % (d : Int)) = ((n % d : Nat) : Int) := zi
  exact ⟨by rw [h1, zN, zN], by rw [h2, zN, zN]⟩
theorem aL2 {a b : Int} (hb : b ≠ 0) : a / b = 0 ∨ (!(decide (a < 0) == decide (b < 0))) = decide (a / b < 0) := by
 by_cases h0 : a / b = 0
 ·exact Or.inl h0
 ·right
  rcases zQ a 0 with ha | ha <;> rcases zQ b 0 with hb' | hb'
  ·have := Int.ediv_nonneg_of_nonpos_of_nonpos (xm ha) (xm hb')
   rw [zo ha, zo hb', zn zc]; rfl
  ·have := Int.ediv_neg_of_neg_of_pos ha (show 0 < b by omega)
   rw [zo ha, zn zc, zo zc]; rfl
  ·have := Int.ediv_nonpos_of_nonneg_of_nonpos ha (xm hb')
   rw [zn zc, zo hb', zo zc]; rfl
  ·have := xD ha hb'
   rw [zn zc, zn zc, zn zc]; rfl
theorem aJR (a b : List UInt8) (y) (h : asD (a, b, ()) = some y) : (aEz a b).toO = some y := by
 unfold asD at h
 dsimp only at h
 unfold aEz aqQ
 cases hr : rdW a with
 | none =>
  simp only [hr] at h
  exact uC (([], false, ()), ([], false, ()), 10, ()) (by unfold afC; simp only [hr]) (uT rfl h)
 | some z =>
  cases hb : rdW b with
  | none =>
   simp only [hr, hb] at h
   exact uC (([], false, ()), ([], false, ()), 10, ()) (by unfold afC; simp only [hr, hb]) (uT rfl h)
  | some w =>
   simp only [hr, hb] at h
   have b1 := anE hr
   have b2 := anE hb
   have f1 := (aeH hr).1
   have f2 := (aeH hb).1
   refine uC (sg z, sg w, 0, ()) (by unfold afC; simp only [hr, hb]) (uF rfl ?_)
   refine uC _ (axK _) ?_
   by_cases h0 : w = 0
   ·rw [if_pos h0] at h
    exact uT sd h
   rw [if_neg h0] at h
   refine uF sd ?_
   have hdv := axM (a := z.natAbs) (b := w.natAbs) (aaH b1 zc) (aaH b2 zc) zc
   obtain ⟨en, ep⟩ := aOB (a := z) h0
   have hsg := aL2 (a := z) h0
   have hr0 := yE z h0
   have hrlt : (z % w).natAbs < w.natAbs := by
    rcases zQ w 0 with c | c
    ·have := yr z (show 0 < -w by omega)
     rw [Int.emod_neg] at this
     omega
    ·have := yr z (show 0 < w by omega)
     omega
   have fr : Fit (z % w) := ae5 f2 zc
   have hq1 := xB z.natAbs w.natAbs
   have fq : Fit (z / w) := by
    refine ae5 f1 ?_
    rcases zQ z 0 with c | c
    ·rw [(en c).1]
     split
     ·exact hq1
     ·rename_i hm
      have : 2 ≤ w.natAbs := by
       rcases zr w.natAbs 2 with c2 | c2
       ·have : w.natAbs = 1 := zc
        rw [this, Nat.mod_one] at hm; exact absurd rfl hm
       ·exact c2
      have h2 := Nat.div_le_div_left this (show 0 < 2 by omega) (a := z.natAbs)
      omega
    ·rw [(ep c).1]; exact hq1
   have tail : ∀ (q r : Nat) (b : Bool), q = (z / w).natAbs → r = (z % w).natAbs → (b = (!(decide (z < 0) == decide (w < 0)))) → ah9 (mag q, b, ()) = some (sg (z / w), ()) ∧ ah9 (mag r, false, ()) = some (sg (z % w), ()) := by
    intro q r b hq hr2 hb2
    refine ⟨aAn hq ?_, aAn hr2 (Or.inr (zn zc).symm)⟩
    rw [hb2]; exact hsg
   refine uC _ hdv ?_
   by_cases c : z < 0
   ·refine uT (zo c) ?_
    refine uC _ (axK _) ?_
    obtain ⟨g1, g2⟩ := en c
    by_cases hm : z.natAbs % w.natAbs = 0
    ·rw [if_pos hm] at g1 g2
     obtain ⟨u1, u2⟩ := tail _ _ (!(decide (z < 0) == decide (w < 0))) g1.symm (hm.trans g2.symm) rfl
     refine uF (by show (!decide _) = false; rw [zo hm]; rfl) ?_
     refine uC _ u1 (uC _ (acM fq) (uF rfl ?_))
     exact uC _ u2 (uC _ (acM fr) (uF rfl h))
    ·rw [if_neg hm] at g1 g2
     have hlt := yU z.natAbs (show 0 < w.natAbs by omega)
     obtain ⟨u1, u2⟩ := tail _ _ (!(decide (z < 0) == decide (w < 0))) g1.symm g2.symm rfl
     refine uT (by show (!decide _) = true; rw [zn hm]; rfl) ?_
     have hp := aEc (a := z.natAbs / w.natAbs) (b := 1) (aaH (aaS _ b1) zc) (aaH (aaG zc) zc)
     rw [arG] at hp
     refine uC _ hp ?_
     refine uC _ (aJs (aaH b2 zc) zc) ?_
     refine uC _ u1 (uC _ (acM fq) (uF rfl ?_))
     exact uC _ u2 (uC _ (acM fr) (uF rfl h))
   ·refine uF (zn c) ?_
    obtain ⟨g1, g2⟩ := ep zc
    obtain ⟨u1, u2⟩ := tail _ _ (!(decide (z < 0) == decide (w < 0))) g1.symm g2.symm rfl
    refine uC _ u1 (uC _ (acM fq) (uF rfl ?_))
    exact uC _ u2 (uC _ (acM fr) (uF rfl h))
theorem anF (n : Nat) : ∀ k : Nat, (mag (n ^ k)).length ≤ k * (mag n).length + 1
 | 0 => by simp [arG]
 | k + 1 => by
  have h1 := anF n k
  have h2 := af6 (n ^ k) n
  rw [yC, yO]
  rcases zF (mag n).length with h3 | h3
  ·have : n = 0 := mag_nil_iff.1 (zU.1 h3)
   subst this
   simp [mag_zero]
  ·omega
theorem aAm {a n : Nat} (h1 : Bd 2 a) (h2 : n ≤ 40) : ajA (mag a, (n : Int), ()) = some (mag (a ^ n), ()) := by
 refine aaI (enc := fun x : Nat × Nat => (mag x.1, (x.2 : Int), ())) (a, n) ⟨h1, h2⟩ (fun b hb => ?_)
 obtain ⟨e1, e2⟩ := Prod.mk.inj hb
 obtain ⟨e2, -⟩ := Prod.mk.inj e2
 exact Prod.ext (adK e1) (Int.ofNat.inj e2)
theorem aMy {a n : Nat} (h1 : Bd 2 a) (h2 : n ≤ 40) : Bd 7 (a ^ n) := by
 have h3 := anF a n
 unfold Bd at *
 have h4 : n * (mag a).length ≤ 40 * (1000000 * 4 ^ 2) := Nat.mul_le_mul h2 h1
 omega
theorem aCg (m : List Int) (n : Int) (y) (h : ajA (m, n, ()) = some y) : (ayU m n).toO = some y := by
 obtain ⟨⟨a, k⟩, hp, hx, rfl⟩ := aaE h
 obtain ⟨rfl, hx2⟩ := Prod.mk.inj hx; obtain ⟨rfl, -⟩ := Prod.mk.inj hx2; dsimp only
 obtain ⟨l1, l2⟩ := hp
 simp only at l1 l2
 refine uO (0, [1], ()) rfl ?_
 refine aaN (fun i : Int × List Int × Unit => ∃ j : Nat, j ≤ k ∧ i = ((j : Int), mag (a ^ j), ())) (fun i => ((k : Int) - i.1).toNat) (fun _ => (mag (a ^ k), ())) ?_ _ ⟨0, by omega, by rw [Nat.pow_zero, arG]; rfl⟩
 rintro i ⟨j, hj, rfl⟩
 simp only [auH]
 rcases zr j k with h1 | h1
 ·left
  refine ⟨(((j + 1 : Nat) : Int), mag (a ^ (j + 1)), ()), ?_, ⟨j + 1, by omega, rfl⟩, by simp only; omega, ze⟩
  refine uT sd ?_
  refine uC (mag (a ^ (j + 1)), ()) (by rw [asG (aaH l1 zc) (aaH (aMy l1 zc) zc), yC, yL]) ?_
  repeat refine za ?_
  simp (disch := omega) only [aaK, aaA, aaO, aa0, abO, aaM, zu, zp, aaC, zt]
  rfl
 ·right
  have : j = k := zc
  subst this
  refine uF sd rfl
theorem aJO (a : List UInt8) (n : Int) (y) (h : alS (a, n, ()) = some y) : (aEw a n).toO = some y := by
 unfold alS at h
 dsimp only at h
 unfold aEw
 cases hr : rdW a with
 | none =>
  simp only [hr] at h
  exact uC _ (ac0 hr) (uT rfl h)
 | some z =>
  simp only [hr] at h
  have b1 := anE hr
  refine uC _ (acZ hr) (uF rfl ?_)
  by_cases h1 : n < 0
  ·rw [if_pos (Or.inl h1)] at h
   exact uT (zo h1) h
  by_cases h2 : n > 40
  ·rw [if_pos (Or.inr h2)] at h
   exact uF (zn h1) (uT (zo h2) h)
  rw [if_neg zc] at h
  obtain ⟨k, rfl⟩ := zv (show 0 ≤ n by omega)
  rw [zp] at h
  refine uF (zn h1) (uF (zn h2) ?_)
  have hk : k ≤ 40 := zc
  refine uC _ (aAm (aaH b1 zc) hk) ?_
  have bp := aMy (aaH b1 (show 0 ≤ 2 by omega)) hk
  have hw : acU (sg (z ^ k), ()) = some (wrW (z ^ k)) := aqL (by rw [Int.natAbs_pow]; exact aaH bp zc)
  by_cases hz : z < 0
  ·refine uT (zo hz) (uV ?_)
   refine uC (sg (z ^ k), ()) (aAn (by rw [Int.natAbs_pow]) ?_) (uC _ hw h)
   right
   obtain ⟨w, hw0, rfl⟩ : ∃ w : Int, 0 < w ∧ z = -w := ⟨-z, by omega, by omega⟩
   rw [zE zc]
   have hpos : 0 < w ^ k := yI hw0
   rcases Nat.mod_two_eq_zero_or_one k with hm | hm
   ·have e : (-w) ^ k = w ^ k := by
     obtain ⟨j, rfl⟩ : ∃ j, k = 2 * j := ⟨k / 2, by omega⟩
     rw [Int.pow_mul, Int.pow_mul]; congr 1; simp only [zY, Int.pow_zero, vm, Int.neg_mul_neg]
    rw [e, zn (show ¬ w ^ k < 0 by omega)]
    rw [beq_eq_false_iff_ne]; omega
   ·have e : (-w) ^ k = -(w ^ k) := by
     obtain ⟨j, rfl⟩ : ∃ j, k = 2 * j + 1 := ⟨k / 2, by omega⟩
     rw [zY, zY, Int.pow_mul, Int.pow_mul]
     have : (-w) ^ 2 = w ^ 2 := by simp only [zY, Int.pow_zero, vm, Int.neg_mul_neg]
     rw [this, Int.mul_neg]
    rw [e, zo (show -(w ^ k) < 0 by omega)]
    rw [yM]; omega
  ·refine uF (zn hz) ?_
   have : 0 ≤ z ^ k := Int.pow_nonneg zc
   refine uC (sg (z ^ k), ()) (aAn (by rw [Int.natAbs_pow]) (Or.inr (zn zc).symm)) (uC _ hw h)
theorem aGk {n : Nat} (h : n ≤ 100000000) : akJ ((n : Int), ()) = some (mag (10 ^ n), ()) := aaI (enc := fun x : Nat => ((x : Int), ())) n h (fun b hb => Int.ofNat.inj (Prod.mk.inj hb).1)
theorem aAv (n : Int) (y) (h : akJ (n, ()) = some y) : (anN n).toO = some y := by
 obtain ⟨k, hp, hx, rfl⟩ := aaE h
 obtain ⟨rfl, -⟩ := Prod.mk.inj hx
 have e1 : Int.tdiv (k : Int) 9 = ((k / 9 : Nat) : Int) := by rw [zH zc]; omega
 have e2 : Int.tmod (k : Int) 9 = ((k % 9 : Nat) : Int) := by rw [zE zc]; omega
 have e3 : w64 ((k / 9 : Nat) : Int) = ((k / 9 : Nat) : Int) := aaA zc
 have e4 : w64 (((k / 9 : Nat) : Int) + 1) = ((k / 9 + 1 : Nat) : Int) := by rw [aaA zc]; omega
 unfold anN
 simp only [e1, e3, e4]
 refine uV (uN zc (uV ?_))
 refine uO (0, 1, ()) rfl ?_
 refine aaN (fun i : Int × Int × Unit => ∃ j : Nat, j ≤ k % 9 ∧ i = ((j : Int), ((10 ^ j : Nat) : Int), ())) (fun i => (((k % 9 : Nat) : Int) - i.1).toNat) (fun _ => (mag (10 ^ k), ())) ?_ _ ⟨0, by omega, rfl⟩
 rintro i ⟨j, hj, rfl⟩
 have hj9 : (10 : Nat) ^ j ≤ 10 ^ 8 := zV zc zc
 have hp0 : (0 : Int) ≤ ((10 ^ j : Nat) : Int) := Int.natCast_nonneg _
 have hp8 : ((10 ^ j : Nat) : Int) ≤ 100000000 := wK.2 hj9
 simp only [asK, e1, e2, e3, e4]
 rcases zr j (k % 9) with h1 | h1
 ·left
  refine ⟨(((j + 1 : Nat) : Int), ((10 ^ (j + 1) : Nat) : Int), ()), ?_, ⟨j + 1, by omega, rfl⟩, by simp only; omega, ze⟩
  repeat refine za ?_
  rw [aa0 (x := ((10 ^ j : Nat) : Int) * 10) zc, aaA (x := (j : Int) + 1) zc, yC, yi]
  rfl
 ·right
  have hjk : j = k % 9 := zc
  refine uF sd (uV (uN sd ?_))
  simp only [zp, zu, aaK]
  rw [zz zi]
  have hd : Dg 1000000000 ((List.replicate (k / 9 + 1) 0).set (k / 9) ((10 ^ j : Nat) : Int)) := aiH (agA zc _) ⟨by omega, by omega⟩ _
  have hv : V 1000000000 ((List.replicate (k / 9 + 1) 0).set (k / 9) ((10 ^ j : Nat) : Int)) = ((10 ^ k : Nat) : Int) := by
   rw [axD _ zi, ar9, aiN zi]
   simp only [List.getElem_replicate, wM, vk]
   have : (10 : Nat) ^ k = 1000000000 ^ (k / 9) * 10 ^ j := by
    rw [show (1000000000 : Nat) = 10 ^ 9 by decide, ← xM, ← xz, hjk, Nat.div_add_mod]
   rw [this]; simp
  rw [apA hd (aHs zc hd (Or.inr ?_)) hv]
  rw [hv]
  simp only [xi, xS, xv]
  have h6 : (1000000000 : Nat) ^ (k / 9) ≤ 10 ^ k := by
   rw [show (1000000000 : Nat) = 10 ^ 9 by decide, ← xM]
   exact zV zc zc
  have h7 : ((1000000000 ^ (k / 9) : Nat) : Int) ≤ ((10 ^ k : Nat) : Int) := wK.2 h6
  simpa using h7
theorem aBd {k n r : Nat} (hk : 1 ≤ k) (h1 : r ^ k ≤ n) (h2 : n < (r + 1) ^ k) : adN k n = r := by
 have hex : ∃ r, r ^ k ≤ n ∧ n < (r + 1) ^ k := ⟨r, h1, h2⟩
 unfold adN
 rw [dif_pos hex]
 obtain ⟨g1, g2⟩ := hex.choose_spec
 generalize hex.choose = q at *
 rcases Nat.lt_trichotomy q r with h | h | h
 ·have := xl (show q + 1 ≤ r by omega) k; omega
 ·exact h
 ·have := xl (show r + 1 ≤ q by omega) k; omega
theorem aOj (k n : Nat) (hk : 1 ≤ k) : ∃ r, r ^ k ≤ n ∧ n < (r + 1) ^ k := by
 have H : ∀ m, (∃ r, r ^ k ≤ n ∧ n < (r + 1) ^ k) ∨ m ^ k ≤ n := by
  intro m
  induction m with
  | zero => right; rw [Nat.zero_pow hk]; omega
  | succ m ih =>
   rcases ih with h | h
   ·exact Or.inl h
   ·rcases zr n ((m + 1) ^ k) with h2 | h2
    ·exact Or.inl ⟨m, h, h2⟩
    ·exact Or.inr h2
 rcases H (n + 1) with h | h
 ·exact h
 ·have : n + 1 ≤ (n + 1) ^ k := Nat.le_self_pow zc _
  omega
theorem amJ {k : Nat} (n : Nat) (hk : 1 ≤ k) : (adN k n) ^ k ≤ n ∧ n < (adN k n + 1) ^ k := by
 obtain ⟨r, h1, h2⟩ := aOj k n hk
 rw [aBd hk h1 h2]; exact ⟨h1, h2⟩
theorem aJY (r x : Int) (hr : 0 ≤ r) (hx : 0 ≤ x) : ∀ k : Nat, x ^ (k + 1) + (k + 1 : Nat) * x ^ k * (r - x) ≤ r ^ (k + 1)
 | 0 => by simp [zY]; omega
 | k + 1 => by
  have ih := aJY r x hr hx k
  have h1 := zy ih hr
  have h2 : 0 ≤ (k + 1 : Nat) * x ^ k * ((r - x) * (r - x)) := zZ (zZ zc (Int.pow_nonneg hx)) (by
   rcases zQ (r - x) 0 with h | h
   ·exact xm (wg h h)
   ·exact zZ h h)
  have e1 : r ^ (k + 1 + 1) = r * r ^ (k + 1) := by rw [zY, yB]
  have e2 : x ^ (k + 1 + 1) = x * (x * x ^ k) := by rw [zY, zY]; grind
  have e3 : x ^ (k + 1) = x * x ^ k := by rw [zY, yB]
  rw [e1, e2, e3]
  rw [e3] at h1
  have e4 : ((k + 1 + 1 : Nat) : Int) = ((k + 1 : Nat) : Int) + 1 := zc
  rw [e4]
  generalize ((k + 1 : Nat) : Int) = K at *
  generalize x ^ k = P at *
  generalize r ^ (k + 1) = R at *
  have e5 : r * (x * P + K * P * (r - x)) = x * (x * P) + (K + 1) * (x * P) * (r - x) + K * P * ((r - x) * (r - x)) := by grind
  omega
theorem aLd {m r x k : Nat} (hk : 1 ≤ k) (hx : 0 < x) (h : r ^ k ≤ m) : r ≤ (x * (k - 1) + m / x ^ (k - 1)) / k := by
 rw [wO zc]
 obtain ⟨j, rfl⟩ : ∃ j, k = j + 1 := ⟨k - 1, by omega⟩
 simp only [xv]
 rcases zr (x * j) (r * (j + 1)) with h1 | h1
 ·have hp : 0 < x ^ j := xn hx
  have h2 : r * (j + 1) - x * j ≤ m / x ^ j := by
   rw [wO hp]
   have ht := aJY (r : Int) (x : Int) zc zc j
   have h3 : ((r ^ (j + 1) : Nat) : Int) ≤ (m : Int) := wK.2 h
   rw [wD] at h3
   have h4 : (((r * (j + 1) - x * j) * x ^ j : Nat) : Int) ≤ (m : Int) := by
    rw [yi, Int.natCast_sub (vJ h1), yi, yi, wD]
    have e1 : (x : Int) ^ (j + 1) = x * (x : Int) ^ j := by rw [zY, yB]
    rw [e1] at ht
    have e2 : ((j + 1 : Nat) : Int) = (j : Int) + 1 := zc
    rw [e2] at ht ⊢
    generalize (x : Int) ^ j = P at *
    generalize (j : Int) = J at *
    have e3 : ((r : Int) * (J + 1) - x * J) * P = x * P + (J + 1) * P * (r - x) := by grind
    rw [e3]
    omega
   exact wK.1 h4
  generalize m / x ^ j = M at *
  generalize x * j = A at *
  generalize r * (j + 1) = C at *
  omega
 ·exact zD h1 (xf _ _)
theorem aLc {m x k : Nat} (hk : 1 ≤ k) (hx : 0 < x) (h : m < x ^ k) : (x * (k - 1) + m / x ^ (k - 1)) / k < x := by
 obtain ⟨j, rfl⟩ : ∃ j, k = j + 1 := ⟨k - 1, by omega⟩
 simp only [xv]
 have hp : 0 < x ^ j := xn hx
 have h2 : m / x ^ j < x := by
  rw [yN hp, yL]
  rwa [yC] at h
 rw [yN zc, Nat.mul_add]
 omega
theorem aEr (m : List Int) (k : Int) (y) (h : ap3 (m, k, ()) = some y) : (aCf m k).toO = some y := by
 obtain ⟨⟨n, q⟩, hp, hx, rfl⟩ := aaE h
 obtain ⟨rfl, hx2⟩ := Prod.mk.inj hx; obtain ⟨rfl, -⟩ := Prod.mk.inj hx2; dsimp only
 obtain ⟨l1, l2, l3⟩ := hp
 simp only at l1 l2 l3
 have hdl := aHa l1
 refine uC _ (axK n) ?_
 by_cases h0 : n = 0
 ·refine uT (zo h0) ?_
  subst h0
  rw [aBd (r := 0) l2 (by rw [Nat.zero_pow l2]; omega) zi, mag_zero]
  rfl
 refine uF (zn h0) ?_
 refine uC _ (axL (aaH l1 zc)) (uN zc ?_)
 have hle := xB (aa2 n).length q
 have hL : (aa2 n).length ≤ ((aa2 n).length / q + 1) * q := by
  have h3 := xU (aa2 n).length q
  have h4 := yU (aa2 n).length (show 0 < q by omega)
  rw [yO, yL ((aa2 n).length / q) q]
  omega
 have e1 : Int.tdiv ((aa2 n).length : Int) (q : Int) = (((aa2 n).length / q : Nat) : Int) := by rw [zH zc]; simp
 simp only [e1]
 generalize (aa2 n).length / q = L at hle hL
 have e2 : w64 (L : Int) = L := aaA zc
 have e3 : w64 ((L : Int) + 1) = ((L + 1 : Nat) : Int) := by rw [aaA zc]; omega
 refine uC (mag (10 ^ (L + 1)), ()) (by simp only [e2, e3]; exact aGk zc) ?_
 refine uO (mag (10 ^ (L + 1)), ()) rfl ?_
 obtain ⟨s1, s2⟩ := amJ (k := q) n l2
 have hbx : Bd 2 (10 ^ (L + 1)) := by
  have : (mag (10 ^ (L + 1))).length ≤ 10000000 := by
   refine aiM ?_
   rw [anJ (k := L + 1) (zq _) (wS zc zc)]
   omega
  unfold Bd; omega
 have hstart : n < (10 ^ (L + 1)) ^ q := by
  rw [← xM]
  have h1 := afM n
  have h3 : (10 : Nat) ^ (aa2 n).length ≤ 10 ^ ((L + 1) * q) := zV zc hL
  omega
 have hstart2 : adN q n ≤ 10 ^ (L + 1) := by
  rcases zr (10 ^ (L + 1)) (adN q n) with h | h
  ·have := xl (vJ h) q; omega
  ·exact h
 have hr1 : 1 ≤ adN q n := by
  rcases zF (adN q n) with h | h
  ·rw [h] at s2; simp at s2; omega
  ·exact h
 generalize 10 ^ (L + 1) = X at *
 refine aaN (fun i : List Int × Unit => ∃ x : Nat, i = (mag x, ()) ∧ adN q n ≤ x ∧ x ≤ X) (fun i => (V 1000000000 i.1).toNat) (fun _ => (mag (adN q n), ())) ?_ _ ⟨X, rfl, hstart2, zq _⟩
 rintro i ⟨x, rfl, g1, g2⟩
 have bx : Bd 2 x := amU hbx g2
 have ek : w64 ((q : Int) - 1) = ((q - 1 : Nat) : Int) := by rw [aaA (x := (q : Int) - 1) zc]; omega
 have ekk : abP ((q - 1 : Nat) : Int) = ((q - 1 : Nat) : Int) := aaO zc
 have ek32 : adV (q : Int) = q := aa0 zc
 have hxp : 0 < x ^ (q - 1) := xn zc
 have bp := aMy bx (show q - 1 ≤ 40 by omega)
 have bsm : Bd 2 (q - 1) := aaH (aaG zc) zc
 have bsum : Bd 4 (x * (q - 1) + n / x ^ (q - 1)) := aaZ (aaW bx bsm) (aaH (aaS _ l1) zc)
 simp only [aiT, ek, ekk, ek32]
 have walk : ∀ r, (TT.ite (decide (atE (((x * (q - 1) + n / x ^ (q - 1)) / q : Nat)) (x : Nat) ≥ 0)) (TT.ok (Sum.inr (mag x, ())) : TT (uv ⊕ uv)) (TT.ok (.inl (mag ((x * (q - 1) + n / x ^ (q - 1)) / q), ())))).toO = r → (aiT (mag n) (q : Int) (decide (n = 0), ()) (((aa2 n).length : Int), ()) (mag X, ()) (mag x, ())).toO = r := by
  intro r hr
  simp only [aiT, ek, ekk, ek32]
  refine uC _ (aAm bx zc) ?_
  refine uC _ (axM (aaH l1 zc) (aaH bp zc) zc) ?_
  refine uC _ (aB1 zc) ?_
  refine uC _ (asG (aaH bx zc) (aaH bsm zc)) ?_
  refine uC _ (aEc (aaH (aaW bx bsm) zc) (aaH (aaS _ l1) zc)) ?_
  refine uC _ (aJr (d := q) (aaH bsum zc) zc zc) ?_
  refine uC _ (aEd (aaH (aaS _ bsum) zc) (aaH bx zc)) ?_
  exact hr
 simp only [aiT, ek, ekk, ek32] at walk
 generalize hY : (x * (q - 1) + n / x ^ (q - 1)) / q = Y at walk
 have hge : adN q n ≤ Y := by rw [← hY]; exact aLd l2 zc s1
 rcases zr Y x with hc | hc
 ·left
  refine ⟨(mag Y, ()), walk _ (uF ?_ rfl), ⟨Y, rfl, hge, by omega⟩, ?_, ze⟩
  ·unfold atE; rw [if_pos zc]; rfl
  ·simp only [alQ, zp]; exact hc
 ·right
  have hxm : x ^ q ≤ n := by
   rcases zr n (x ^ q) with h | h
   ·have := aLc l2 (show 0 < x by omega) h
    omega
   ·exact h
  have hxr : x = adN q n := by
   rcases zr (adN q n) x with h | h
   ·have := xl (show adN q n + 1 ≤ x from h) q; omega
   ·omega
  refine walk _ (uT ?_ ?_)
  ·unfold atE
   rw [if_neg zc]
   split <;> rfl
  ·rw [← hxr]; rfl
theorem aMR {n k : Nat} (h1 : Bd 0 n) (h2 : 1 ≤ k) (h3 : k ≤ 12) : ap3 (mag n, (k : Int), ()) = some (mag (adN k n), ()) := by
 refine aaI (enc := fun x : Nat × Nat => (mag x.1, (x.2 : Int), ())) (n, k) ⟨h1, h2, h3⟩ (fun b hb => ?_)
 obtain ⟨e1, e2⟩ := Prod.mk.inj hb
 obtain ⟨e2, -⟩ := Prod.mk.inj e2
 exact Prod.ext (adK e1) (Int.ofNat.inj e2)
theorem at9 {k n : Nat} (hk : 1 ≤ k) : adN k n ≤ n := zD (Nat.le_self_pow zc _) (amJ n hk).1
theorem zk {p : Prop} (h : p := by simp only [Int.natAbs_natCast]; exact at9 (by omega)) : p := h
theorem aHE (a : List UInt8) (k : Int) (y) (h : ap5 (a, k, ()) = some y) : (aAz a k).toO = some y := by
 unfold ap5 at h
 dsimp only at h
 unfold aAz
 cases hr : rdW a with
 | none =>
  simp only [hr] at h
  exact uC _ (ac0 hr) (uT rfl h)
 | some z =>
  simp only [hr] at h
  have b1 := anE hr
  refine uC _ (acZ hr) (uF rfl ?_)
  by_cases h1 : k < 1
  ·rw [if_pos (Or.inl h1)] at h
   exact uT (zo h1) h
  by_cases h2 : k > 12
  ·rw [if_pos (Or.inr (Or.inl h2))] at h
   exact uF (zn h1) (uT (zo h2) h)
  by_cases h3 : z < 0
  ·rw [if_pos (Or.inr (Or.inr h3))] at h
   exact uF (zn h1) (uF (zn h2) (uT (zo h3) h))
  rw [if_neg zc] at h
  obtain ⟨j, rfl⟩ := zv (show 0 ≤ k by omega)
  rw [zp] at h
  refine uF (zn h1) (uF (zn h2) (uF (zn h3) ?_))
  refine uC _ (aMR b1 zc zc) ?_
  refine uC (sg (adN j z.natAbs : Int), ()) (aAn rfl (Or.inr (zn zc).symm)) ?_
  exact uC _ (aqL (aaH (amU b1 (at9 zc)) zc)) h
end Go.Vs
