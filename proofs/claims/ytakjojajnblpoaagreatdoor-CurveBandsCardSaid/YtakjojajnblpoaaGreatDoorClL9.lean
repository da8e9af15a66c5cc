/-
  Trees of what the functions compute, and their laws. Own work; no condition.
-/
import Derived.Test.YtakjojajnblpoaaGreatDoorClL8
import Derived.Test.YtakjojajnblpoaaGreatDoorProg
set_option linter.unusedVariables false
set_option linter.unusedSimpArgs false
set_option maxRecDepth 100000
namespace Go.Vs
open Go Go.Vg Go.Proofs
noncomputable section
def aT6 : LTab := []
def aId (a : List UInt8) : TT uv :=
 .call (agJ (a, ())) Dd6 fun y =>
 .ite (y.1 != 0)
 (.ok ((0, y.1, ())))
 (.call (aRH (a, 10, 64, ())) aWp fun y1 =>
 .ite (y1.2.1)
 (.ok ((0, 6, ())))
 (.ok ((y1.1, 0, ()))))
def aNC : LTab := []
def agF (y3 : (Int) × (Bool) × Unit) (c : uw × Unit) (y1 : ((List UInt8) × (List UInt8) × Unit) × (Int) × Unit) : TT uI :=
 .tt <| .tt <| .tt <| .tt <| .tt <| .tt <| .ite (y3.1 != y3.1)
 (.ite (w64 (w64 (len c.1.2.1 - 1) - 1) != w64 (w64 (len c.1.2.1 - 1) - 1))
 (.call (aaJ (y3.1, ())) ac5 fun y20 =>
 .call (afS ((y1.1.1, y1.1.2.1, ()), y20.1, ())) adZ fun y21 =>
 .ite (y21.2.1 != 0)
 (.ok (((#[].toList, #[].toList, ()), y21.2.1, ())))
 (.need (inb (w64 (y3.1 + 1)) (len c.1.2.1)) <| .need (inb y3.1 (len c.1.2.1)) <| .call (aaJ (w64 (gi c.1.2.1 (w64 (y3.1 + 1)) 0 - gi c.1.2.1 y3.1 0), ())) ac5 fun y22 =>
 .call (ad6 (y22.1, (y21.1.1, y21.1.2.1, ()), ())) adZ fun y23 =>
 .ite (y23.2.1 != 0)
 (.ok (((#[].toList, #[].toList, ()), y23.2.1, ())))
 (.need (inb y3.1 (len c.1.2.1)) <| .call (aaJ (gi c.1.2.1 y3.1 0, ())) ac5 fun y24 =>
 .call (aeO (y24.1, (y23.1.1, y23.1.2.1, ()), ())) adZ fun y25 =>
 .ite (y25.2.1 != 0)
 (.ok (((#[].toList, #[].toList, ()), y25.2.1, ())))
 (.call (aaJ (65535, ())) ac5 fun y26 =>
 .call (afA ((y25.1.1, y25.1.2.1, ()), y26.1, ())) adZ fun y27 =>
 .ok (((y27.1.1, y27.1.2.1, ()), y27.2.1, ()))))))
 (.call (aaJ (y3.1, ())) ac5 fun y28 =>
 .call (afS ((y1.1.1, y1.1.2.1, ()), y28.1, ())) adZ fun y29 =>
 .ite (y29.2.1 != 0)
 (.ok (((#[].toList, #[].toList, ()), y29.2.1, ())))
 (.need (inb (w64 (y3.1 + 1)) (len c.1.2.1)) <| .need (inb y3.1 (len c.1.2.1)) <| .call (aaJ (w64 (gi c.1.2.1 (w64 (y3.1 + 1)) 0 - gi c.1.2.1 y3.1 0), ())) ac5 fun y30 =>
 .call (ad6 (y30.1, (y29.1.1, y29.1.2.1, ()), ())) adZ fun y31 =>
 .ite (y31.2.1 != 0)
 (.ok (((#[].toList, #[].toList, ()), y31.2.1, ())))
 (.need (inb y3.1 (len c.1.2.1)) <| .call (aaJ (gi c.1.2.1 y3.1 0, ())) ac5 fun y32 =>
 .call (aeO (y32.1, (y31.1.1, y31.1.2.1, ()), ())) adZ fun y33 =>
 .ite (y33.2.1 != 0)
 (.ok (((#[].toList, #[].toList, ()), y33.2.1, ())))
 (.call (aaJ (65535, ())) ac5 fun y34 =>
 .call (afA ((y33.1.1, y33.1.2.1, ()), y34.1, ())) adZ fun y35 =>
 .ok (((y35.1.1, y35.1.2.1, ()), y35.2.1, ())))))))
 (.ite (w64 (w64 (len c.1.2.1 - 1) - 1) != w64 (w64 (len c.1.2.1 - 1) - 1))
 (.call (aaJ (w64 (w64 (len c.1.2.1 - 1) - 1), ())) ac5 fun y36 =>
 .call (afS ((y1.1.1, y1.1.2.1, ()), y36.1, ())) adZ fun y37 =>
 .ite (y37.2.1 != 0)
 (.ok (((#[].toList, #[].toList, ()), y37.2.1, ())))
 (.need (inb (w64 (w64 (w64 (len c.1.2.1 - 1) - 1) + 1)) (len c.1.2.1)) <| .need (inb (w64 (w64 (len c.1.2.1 - 1) - 1)) (len c.1.2.1)) <| .call (aaJ (w64 (gi c.1.2.1 (w64 (w64 (w64 (len c.1.2.1 - 1) - 1) + 1)) 0 - gi c.1.2.1 (w64 (w64 (len c.1.2.1 - 1) - 1)) 0), ())) ac5 fun y38 =>
 .call (ad6 (y38.1, (y37.1.1, y37.1.2.1, ()), ())) adZ fun y39 =>
 .ite (y39.2.1 != 0)
 (.ok (((#[].toList, #[].toList, ()), y39.2.1, ())))
 (.need (inb (w64 (w64 (len c.1.2.1 - 1) - 1)) (len c.1.2.1)) <| .call (aaJ (gi c.1.2.1 (w64 (w64 (len c.1.2.1 - 1) - 1)) 0, ())) ac5 fun y40 =>
 .call (aeO (y40.1, (y39.1.1, y39.1.2.1, ()), ())) adZ fun y41 =>
 .ite (y41.2.1 != 0)
 (.ok (((#[].toList, #[].toList, ()), y41.2.1, ())))
 (.call (aaJ (65535, ())) ac5 fun y42 =>
 .call (afA ((y41.1.1, y41.1.2.1, ()), y42.1, ())) adZ fun y43 =>
 .ok (((y43.1.1, y43.1.2.1, ()), y43.2.1, ()))))))
 (.ite (decide (y3.1 < w64 (w64 (len c.1.2.1 - 1) - 1)))
 (.call (aaJ (y3.1, ())) ac5 fun y44 =>
 .call (afS ((y1.1.1, y1.1.2.1, ()), y44.1, ())) adZ fun y45 =>
 .ite (y45.2.1 != 0)
 (.ok (((#[].toList, #[].toList, ()), y45.2.1, ())))
 (.need (inb (w64 (y3.1 + 1)) (len c.1.2.1)) <| .need (inb y3.1 (len c.1.2.1)) <| .call (aaJ (w64 (gi c.1.2.1 (w64 (y3.1 + 1)) 0 - gi c.1.2.1 y3.1 0), ())) ac5 fun y46 =>
 .call (ad6 (y46.1, (y45.1.1, y45.1.2.1, ()), ())) adZ fun y47 =>
 .ite (y47.2.1 != 0)
 (.ok (((#[].toList, #[].toList, ()), y47.2.1, ())))
 (.need (inb y3.1 (len c.1.2.1)) <| .call (aaJ (gi c.1.2.1 y3.1 0, ())) ac5 fun y48 =>
 .call (aeO (y48.1, (y47.1.1, y47.1.2.1, ()), ())) adZ fun y49 =>
 .ite (y49.2.1 != 0)
 (.ok (((#[].toList, #[].toList, ()), y49.2.1, ())))
 (.call (aaJ (65535, ())) ac5 fun y50 =>
 .call (afA ((y49.1.1, y49.1.2.1, ()), y50.1, ())) adZ fun y51 =>
 .ok (((y51.1.1, y51.1.2.1, ()), y51.2.1, ()))))))
 (.ite (decide (y3.1 > w64 (w64 (len c.1.2.1 - 1) - 1)))
 (.call (aaJ (w64 (w64 (len c.1.2.1 - 1) - 1), ())) ac5 fun y52 =>
 .call (afS ((y1.1.1, y1.1.2.1, ()), y52.1, ())) adZ fun y53 =>
 .ite (y53.2.1 != 0)
 (.ok (((#[].toList, #[].toList, ()), y53.2.1, ())))
 (.need (inb (w64 (w64 (w64 (len c.1.2.1 - 1) - 1) + 1)) (len c.1.2.1)) <| .need (inb (w64 (w64 (len c.1.2.1 - 1) - 1)) (len c.1.2.1)) <| .call (aaJ (w64 (gi c.1.2.1 (w64 (w64 (w64 (len c.1.2.1 - 1) - 1) + 1)) 0 - gi c.1.2.1 (w64 (w64 (len c.1.2.1 - 1) - 1)) 0), ())) ac5 fun y54 =>
 .call (ad6 (y54.1, (y53.1.1, y53.1.2.1, ()), ())) adZ fun y55 =>
 .ite (y55.2.1 != 0)
 (.ok (((#[].toList, #[].toList, ()), y55.2.1, ())))
 (.need (inb (w64 (w64 (len c.1.2.1 - 1) - 1)) (len c.1.2.1)) <| .call (aaJ (gi c.1.2.1 (w64 (w64 (len c.1.2.1 - 1) - 1)) 0, ())) ac5 fun y56 =>
 .call (aeO (y56.1, (y55.1.1, y55.1.2.1, ()), ())) adZ fun y57 =>
 .ite (y57.2.1 != 0)
 (.ok (((#[].toList, #[].toList, ()), y57.2.1, ())))
 (.call (aaJ (65535, ())) ac5 fun y58 =>
 .call (afA ((y57.1.1, y57.1.2.1, ()), y58.1, ())) adZ fun y59 =>
 .ok (((y59.1.1, y59.1.2.1, ()), y59.2.1, ()))))))
 (.call (aaJ (y3.1, ())) ac5 fun y60 =>
 .call (afS ((y1.1.1, y1.1.2.1, ()), y60.1, ())) adZ fun y61 =>
 .ite (y61.2.1 != 0)
 (.ok (((#[].toList, #[].toList, ()), y61.2.1, ())))
 (.need (inb (w64 (y3.1 + 1)) (len c.1.2.1)) <| .need (inb y3.1 (len c.1.2.1)) <| .call (aaJ (w64 (gi c.1.2.1 (w64 (y3.1 + 1)) 0 - gi c.1.2.1 y3.1 0), ())) ac5 fun y62 =>
 .call (ad6 (y62.1, (y61.1.1, y61.1.2.1, ()), ())) adZ fun y63 =>
 .ite (y63.2.1 != 0)
 (.ok (((#[].toList, #[].toList, ()), y63.2.1, ())))
 (.need (inb y3.1 (len c.1.2.1)) <| .call (aaJ (gi c.1.2.1 y3.1 0, ())) ac5 fun y64 =>
 .call (aeO (y64.1, (y63.1.1, y63.1.2.1, ()), ())) adZ fun y65 =>
 .ite (y65.2.1 != 0)
 (.ok (((#[].toList, #[].toList, ()), y65.2.1, ())))
 (.call (aaJ (65535, ())) ac5 fun y66 =>
 .call (afA ((y65.1.1, y65.1.2.1, ()), y66.1, ())) adZ fun y67 =>
 .ok (((y67.1.1, y67.1.2.1, ()), y67.2.1, ())))))))))
def agE (y1 : ((List UInt8) × (List UInt8) × Unit) × (Int) × Unit) (c : uw × Unit) : TT uI :=
 .call (aaJ (0, ())) ac5 fun y4 =>
 .call (afS ((y1.1.1, y1.1.2.1, ()), y4.1, ())) adZ fun y5 =>
 .ite (y5.2.1 != 0)
 (.ok (((#[].toList, #[].toList, ()), y5.2.1, ())))
 (.need (inb (w64 (0 + 1)) (len c.1.2.1)) <| .need (asT Int 0 ≤ 0 ∧ 0 < len c.1.2.1) <| .call (aaJ (w64 (gi c.1.2.1 (w64 (0 + 1)) 0 - gi c.1.2.1 0 0), ())) ac5 fun y6 =>
 .call (ad6 (y6.1, (y5.1.1, y5.1.2.1, ()), ())) adZ fun y7 =>
 .ite (y7.2.1 != 0)
 (.ok (((#[].toList, #[].toList, ()), y7.2.1, ())))
 (.need (asT Int 0 ≤ 0 ∧ 0 < len c.1.2.1) <| .call (aaJ (gi c.1.2.1 0 0, ())) ac5 fun y8 =>
 .call (aeO (y8.1, (y7.1.1, y7.1.2.1, ()), ())) adZ fun y9 =>
 .ite (y9.2.1 != 0)
 (.ok (((#[].toList, #[].toList, ()), y9.2.1, ())))
 (.call (aaJ (65535, ())) ac5 fun y10 =>
 .call (afA ((y9.1.1, y9.1.2.1, ()), y10.1, ())) adZ fun y11 =>
 .ok (((y11.1.1, y11.1.2.1, ()), y11.2.1, ())))))
def avN (c : uw × Unit) (x : List UInt8 × List UInt8 × Unit) : TT uI :=
 .call (aaJ (w64 (len c.1.2.1 - 1), ())) ac5 fun y =>
 .call (ad6 ((x.1, x.2.1, ()), y.1, ())) adZ fun y1 =>
 .ite (y1.2.1 != 0)
 (.ok (((#[].toList, #[].toList, ()), y1.2.1, ())))
 (.call (alM ((y1.1.1, y1.1.2.1, ()), ())) aKm fun y2 =>
  .ite (y2.2.1 != 0)
  (.ok (((#[].toList, #[].toList, ()), y2.2.1, ())))
  (.call (aRI (y2.1, ())) aWp fun y3 =>
   .ite (y3.2.1)
   (.tt <| .tt <| .tt <| .tt <| .tt <| .tt <| .tt <| .tt <| .ite (y3.1 != y3.1)
    (agE y1 c)
    (.ite (decide (y3.1 < 0))
     (agE y1 c)
     (.ite (decide (y3.1 > 0))
      (agF y3 c y1)
      (agF y3 c y1))))
   (.tt <| .tt <| .tt <| .tt <| .tt <| .tt <| .tt <| .tt <| .ite (y3.1 != y3.1)
    (agE y1 c)
    (.ite (decide (y3.1 < 0))
     (agE y1 c)
     (.ite (decide (y3.1 > 0))
      (agF y3 c y1)
      (agF y3 c y1))))))
end
open Go Go.Vg
theorem aU3 {z : Int} (h : Fit z) : (dec z).length ≤ 601 := by
 unfold Fit at h
 unfold dec
 split
 ·rw [zG]; omega
 ·omega
theorem aOr (a : List UInt8) (y) (h : amW (a, ()) = some y) : (aId a).toO = some y := by
 unfold amW at h
 injection h with h
 subst h
 dsimp only
 unfold aId
 refine uC _ (aeR a) ?_
 cases hz : rdW a with
 | none => exact uT rfl rfl
 | some z =>
  obtain ⟨hf, rfl⟩ := afI hz
  refine uF rfl (uC _ (aVT (zz (aU3 hf) zc)) ?_)
  dsimp only
  by_cases c : aa3 z
  ·rw [if_pos c, if_pos c]
   exact uF rfl rfl
  ·rw [if_neg c, if_neg c]
   exact uT rfl rfl
theorem ao3 {l : List Int} {p : Rat} {k : Nat} (ht : adM l) (hp : acB p) (hk : k + 1 < l.length) (hpl : ahK l p = k) (y1 : FxT × Int × Unit) (e1 : y1 = (fx p, 0, ()))
  {I A D : Int} (eI : I = k) (eA : A = l.getD k 0) (eD : D = l.getD (k + 1) 0 - l.getD k 0) {p1 p2 p3 : Prop} (h1 : p1) (h2 : p2) (h3 : p3) {d1 : FxT × Unit} {d2 : FxT × Int × Unit} :
  (TT.call (aaJ (I, ())) d1 fun y4 => .call (afS ((y1.1.1, y1.1.2.1, ()), y4.1, ())) d2 fun y5 => .ite (y5.2.1 != 0) (.ok (((#[].toList, #[].toList, ()), y5.2.1, ())))
   (.need p1 <| .need p2 <| .call (aaJ (D, ())) d1 fun y6 => .call (ad6 (y6.1, (y5.1.1, y5.1.2.1, ()), ())) d2 fun y7 => .ite (y7.2.1 != 0) (.ok (((#[].toList, #[].toList, ()), y7.2.1, ())))
    (.need p3 <| .call (aaJ (A, ())) d1 fun y8 => .call (aeO (y8.1, (y7.1.1, y7.1.2.1, ()), ())) d2 fun y9 => .ite (y9.2.1 != 0) (.ok (((#[].toList, #[].toList, ()), y9.2.1, ())))
     (.call (aaJ (65535, ())) d1 fun y10 => .call (afA ((y9.1.1, y9.1.2.1, ()), y10.1, ())) d2 fun y11 => .ok (((y11.1.1, y11.1.2.1, ()), y11.2.1, ())))))).toO
   = some (anU ((abQ (p - mkRat (ahK l p : Int) 1)).bind fun r => (abQ (r * mkRat (l.getD (ahK l p + 1) 0 - l.getD (ahK l p) 0) 1)).bind fun t => (abQ (mkRat (l.getD (ahK l p) 0) 1 + t)).bind fun y => abQ (y / mkRat 65535 1))) := by
 have hl2 := ht.2.1
 subst eI eA eD e1
 rw [hpl]
 have i6 : aa3 65535 := ⟨by omega, by omega⟩
 have ik : aa3 (k : Int) := ⟨by omega, by omega⟩
 have bv := ahW ht (show k < l.length by omega)
 have bv1 := ahW ht hk
 have iv := af9 bv zc zc
 have id : aa3 (l.getD (k + 1) 0 - l.getD k 0) := ⟨by have := bv.1; have := bv.2; have := bv1.1; have := bv1.2; omega, by have := bv.1; have := bv.2; have := bv1.1; have := bv1.2; omega⟩
 refine uC _ (acN ik) (uC _ (aLz hp (aa9 ik)) ?_)
 cases g1 : abQ (p - mkRat (k : Int) 1) with
 | none => exact uT rfl rfl
 | some r =>
  have hr := (abE g1).1
  simp only [zP]
  refine uF rfl (uN h1 (uN h2 (uC _ (acN id) (uC _ (ap3 (aa9 id) hr) ?_))))
  rw [Rat.mul_comm]
  cases g2 : abQ (r * mkRat (l.getD (k + 1) 0 - l.getD k 0) 1) with
  | none => exact uT rfl rfl
  | some t =>
   have ht' := (abE g2).1
   simp only [zP]
   refine uF rfl (uN h3 (uC _ (acN iv) (uC _ (ax4 (aa9 iv) ht') ?_)))
   cases g3 : abQ (mkRat (l.getD k 0) 1 + t) with
   | none => exact uT rfl rfl
   | some y =>
    have hy := (abE g3).1
    exact uF rfl (uC _ (acN i6) (uC _ (aFd hy (aa9 i6) (az1 zc)) rfl))
theorem aHt (c : CvT × Unit) (x : FxT) (y) (h : ag5 (c, x, ()) = some y) : (avN c x).toO = some y := by
 obtain ⟨⟨l', q⟩, ⟨hq, h0, h1, ht⟩, hx, rfl⟩ := aaC h
 obtain ⟨rfl, hx2⟩ := Prod.mk.inj hx; obtain ⟨rfl, -⟩ := Prod.mk.inj hx2; dsimp only
 dsimp only at hq h0 h1 ht
 obtain ⟨kd, l, sg, u⟩ := l'
 dsimp only at ht ⊢
 have hl1 := ht.1
 have hl2 := ht.2.1
 have w1 : w64 (len l - 1) = ((l.length - 1 : Nat) : Int) := by rw [aaB, aaA zc]; omega
 have w2 : w64 (((l.length - 1 : Nat) : Int) - 1) = ((l.length - 2 : Nat) : Int) := by rw [aaA zc]; omega
 have w3 : w64 (((l.length - 2 : Nat) : Int) + 1) = ((l.length - 2 + 1 : Nat) : Int) := by rw [aaA zc]; omega
 have in1 : aa3 ((l.length - 1 : Nat) : Int) := ⟨by omega, by omega⟩
 unfold avN agE agF aKu
 dsimp only
 rw [w1, w2, w3]
 refine uC _ (acN in1) (uC _ (ap3 hq (aa9 in1)) ?_)
 cases hs : abQ (q * mkRat ((l.length - 1 : Nat) : Int) 1) with
 | none => exact uT rfl rfl
 | some p =>
 obtain ⟨hp, e⟩ := abE hs
 have hlp : (0 : Rat) ≤ mkRat ((l.length - 1 : Nat) : Int) 1 := by
  rw [acJ]
  have := xR.2 (show (0 : Int) ≤ ((l.length - 1 : Nat) : Int) by omega)
  exact this
 have hp0 : 0 ≤ p := by rw [e]; exact Rat.mul_nonneg h0 hlp
 have hp1 : p ≤ ((l.length - 1 : Nat) : Int) := by
  rw [e]
  have := xj h1 hlp
  rw [Rat.one_mul] at this
  rw [acJ] at this ⊢
  exact this
 clear e hs
 simp only [zP]
 have hf0 : 0 ≤ p.floor := Rat.le_floor_iff.2 hp0
 have hf1 : p.floor ≤ ((l.length - 1 : Nat) : Int) := by
  have h2 := Rat.floor_le p
  have h3 := Rat.le_trans h2 hp1
  exact xR.1 h3
 have efl : fl p = p.floor := Int.le_antisymm (Rat.le_floor_iff.2 (aVz p)) ((akX p _).2 (Rat.floor_le p))
 have ifl : aa3 (fl p) := by rw [efl]; exact ⟨by omega, by omega⟩
 refine uF rfl (uC _ (show alM (fx p, ()) = some (dec (fl p), 0, ()) from ?_) (uF rfl (uC _ (aVV (z := fl p) ?_) (uF rfl ?_))))
 ·unfold alM; dsimp only; rw [ae3 hp]
 ·exact ifl
 dsimp only
 rw [efl]
 generalize hF : p.floor = F at hf0 hf1
 have hpl : ahK l p = min F.toNat (l.length - 2) := by unfold ahK; rw [hF]
 obtain ⟨n, rfl⟩ := zu hf0
 have wn : w64 ((n : Int) + 1) = ((n + 1 : Nat) : Int) := by rw [aaA zc]; omega
 rw [wn]
 simp only [aaL]
 have hD : ∀ k, k + 1 < l.length → w64 (l.getD (k + 1) 0 - l.getD k 0) = l.getD (k + 1) 0 - l.getD k 0 := by
  intro k hk
  have b := ahW ht (show k < l.length by omega)
  have b1 := ahW ht hk
  exact aaA (by have := b.1; have := b.2; have := b1.1; have := b1.2; omega)
 rw [zp] at hpl
 repeat (first | refine uV ?_ | refine uF (bne_self_eq_false _) ?_)
 refine uF sd ?_
 rcases zC n with c0 | c0
 ·refine uF sd ?_
  repeat (first | refine uV ?_ | refine uF (bne_self_eq_false _) ?_)
  by_cases c1 : n < l.length - 2
  ·refine uT sd ?_
   exact ao3 ht hp (k := n) zc (by rw [hpl]; omega) _ rfl rfl rfl (hD n zc) ⟨by exact sn, by exact sn⟩ ⟨by exact sn, by exact sn⟩ ⟨by exact sn, by exact sn⟩
  refine uF sd ?_
  by_cases c2 : n = l.length - 2
  ·refine uF sd ?_
   exact ao3 ht hp (k := n) zc (by rw [hpl]; omega) _ rfl rfl rfl (hD n zc) ⟨by exact sn, by exact sn⟩ ⟨by exact sn, by exact sn⟩ ⟨by exact sn, by exact sn⟩
  refine uT sd ?_
  exact ao3 ht hp (k := l.length - 2) zc (by rw [hpl]; omega) _ rfl rfl rfl (hD (l.length - 2) zc) ⟨by exact sn, by exact sn⟩ ⟨by exact sn, by exact sn⟩ ⟨by exact sn, by exact sn⟩
 ·refine uT sd ?_
  repeat (first | refine uV ?_ | refine uF (bne_self_eq_false _) ?_)
  by_cases c1 : n < l.length - 2
  ·refine uT sd ?_
   exact ao3 ht hp (k := n) zc (by rw [hpl]; omega) _ rfl rfl rfl (hD n zc) ⟨by exact sn, by exact sn⟩ ⟨by exact sn, by exact sn⟩ ⟨by exact sn, by exact sn⟩
  refine uF sd ?_
  by_cases c2 : n = l.length - 2
  ·refine uF sd ?_
   exact ao3 ht hp (k := n) zc (by rw [hpl]; omega) _ rfl rfl rfl (hD n zc) ⟨by exact sn, by exact sn⟩ ⟨by exact sn, by exact sn⟩ ⟨by exact sn, by exact sn⟩
  refine uT sd ?_
  exact ao3 ht hp (k := l.length - 2) zc (by rw [hpl]; omega) _ rfl rfl rfl (hD (l.length - 2) zc) ⟨by exact sn, by exact sn⟩ ⟨by exact sn, by exact sn⟩ ⟨by exact sn, by exact sn⟩
set_option maxRecDepth 100000
open Go Go.Vg Go.Proofs
noncomputable section
abbrev DTl (d : Int × List Int × List (Int × Int × Int × Int × Int × Int × Unit) × Bool × Bool × Unit) : Prop := Qq true ∧ (Qq (42 : TypeId) ∧ Qq (0 : Int) ∧ True ∧ True ∧ True) ∧ Qq true ∧ (Qq (25 : TypeId) ∧ Qq d.1 ∧ Qq d.2.1 ∧ Qq d.2.2.1 ∧ Qq d.2.2.2.1 ∧ Qq d.2.2.2.2.1 ∧ True) ∧ Qq true ∧ True
abbrev gP (d : Int × List Int × List (Int × Int × Int × Int × Int × Int × Unit) × Bool × Bool × Unit) (i : Int) := gi d.2.2.1 i (0, 0, 0, 0, 0, 0, ())
def aIz : LTab := [(70, 7, 4100, ⟨0, Bool × (List Int) × Unit, .appN (.c 3 1) 4 3 uq <| .nil, [3, 2, 1], [3, 1, 0], 1⟩), (70, 58, 5124, ⟨1, (Int) × Bool × (List Int) × Unit, .dat (.s 4) uq <| .appN (.c 3 1) 5 3 uq <| .nil, [3, 2, 1], [3, 1, 0], 1⟩), (70, 60, 5124, ⟨2, Bool × (List Int) × Unit, .appN (.c 3 1) 5 3 uq <| .nil, [3, 2, 1], [3, 1, 0], 1⟩), (70, 4014, 19459, ⟨3, (Int) × (Int) × (List Int) × Unit, .dat (.s 7) uq <| .dat (.s 6) uq <| .row 5 uq <| .nil, [5, 3, 2], [5, 3, 1, 0], 0⟩), (70, 60, 5123, ⟨4, (List Int) × Unit, .app (.c 3 1) 5 3 uq <| .nil, [3, 2, 1], [3, 1, 0], 1⟩)]
def aiJ (i : (Int) × Bool × (List Int) × Unit) (d : Int × List Int × List uo × Bool × Bool × Unit) : TT (tb ⊕ tD) :=
 .tt <| .lt (i.2.2.1 : List Int) fun z4 => .vW th <| .vW (vV (ua 3 z4) <| (ud 42 (2 : Int) <| (ub 4 0 (List.length z4) true) ∧ True ∧ True) ∧ DTl d) <| .ok (.inr (.inl ((false, z4, ()))))
def anQ (d : Int × List Int × List uo × Bool × Bool × Unit) (i : (Int) × Bool × (List Int) × Unit) : TT (tb ⊕ tD) :=
 .ite (i.2.1)
 (.ite (decide (i.1 < len d.2.1))
  (.ite (decide (i.1 < 8))
   (.need (inb i.1 (len d.2.1)) <| .need (1 * 8 ≤ 140737488355328) <| .tt <| .lt (w64 (i.1 + 1) : Int) fun z => .lt ([w64 (gi d.2.1 i.1 0)] : List Int) fun z1 => .vW (vX z <| uM ∧ uD ∧ ux ∧ True) <| .vW (vV (ua 3 z1) <| (ud 42 (2 : Int) <| sy ∧ True ∧ True) ∧ DTl d) <| .ok (.inl ((z, false, z1, ()))))
   (.tt <| .vW th <| .vW (tA ∧ DTl d) <| .ok (.inr (.inl ((true, [], ()))))))
  (.tt <| .vW th <| .vW (tA ∧ DTl d) <| .ok (.inr (.inl ((true, [], ()))))))
 (.ite (decide (i.1 < len d.2.1))
  (.ite (decide (i.1 < 8))
   (.need (inb i.1 (len d.2.1)) <| .need ((List.length i.2.2.1 + 1) * 8 ≤ 140737488355328) <| .tt <| .lt (w64 (i.1 + 1) : Int) fun z2 => .lt (List.take (List.length i.2.2.1) i.2.2.1 ++ [w64 (gi d.2.1 i.1 0)] : List Int) fun z3 => .vW (vX z2 <| uM ∧ uD ∧ ux ∧ True) <| .need ((((3 : TypeId) = 3) ∧ ((z3 : List Int) = z3)) ∧ (true = true) ∧ (((42 : TypeId) = 42) ∧ (((2 : Int) = 2) ∧ ((((5) = (5)) ∧ (((0) = (0)) ∧ ((List.length i.2.2.1 + 1 = List.length z3) ∧ ((true) = (true))))) ∧ (True ∧ True)))) ∧ DTl d) <| .ok (.inl ((z2, false, z3, ()))))
   (aiJ i d))
  (aiJ i d))
def ajC (d : Int × List Int × List uo × Bool × Bool × Unit) (j : Bool × List Int × Unit) (i1 : Bool × List Int × Unit) (i2 : (Int) × (Int) × (List Int) × Unit) : TT (uZ ⊕ tD) :=
 .ite (decide (i2.1 < len i1.2.1))
 (.need (inb i2.1 (len i1.2.1)) <| .need (w64 (Int.tdiv 65535 (len i1.2.1)) ≠ 0) <| .need (inb i2.1 (len i1.2.1)) <| .tt <| .lt (w64 (i2.1 + 1) : Int) fun z9 => .lt (w64 (w64 (i2.2.1 + 1) + Int.tmod (List.getD i2.2.2.1 (0 + Int.toNat i2.1) 0) (w64 (Int.tdiv 65535 (len i1.2.1)))) : Int) fun z10 => .lt (List.set i2.2.2.1 (0 + Int.toNat i2.1) (w64 (z10 - 1)) : List Int) fun z11 => .vW (uh z10 z9 (w64 (Int.tdiv 65535 (len i1.2.1))) <| uM ∧ uD ∧ True) <| .vW (vV (ua 3 z11) <| (ud 42 (2 : Int) <| (ub 5 0 (List.length i1.2.1) true) ∧ True ∧ True) ∧ DTl d) <| .ok (.inl ((z9, z10, z11, ()))))
 (.ok (.inr (.inr (((2, List.take (List.length i1.2.1) i2.2.2.1, [], ()), ())))))
def anP (d : Int × List Int × List uo × Bool × Bool × Unit) (j : Bool × List Int × Unit) (i1 : Bool × (List Int) × Unit) : TT tD :=
 .ite (i1.1)
 (.triv (1 * 8 ≤ 140737488355328) zf <| .tt <| .lt ([w64 (65535 * (↑0 : Int))] : List Int) fun z6 => .vW th <| .vW (vV (ua 3 z6) <| (ud 42 (2 : Int) <| sy ∧ True ∧ True) ∧ DTl d) <| .ok (.inl ((false, z6, ()))))
 (.ite (decide (len i1.2.1 < 2))
 (.need ((List.length i1.2.1 + 1) * 8 ≤ 140737488355328) <| .tt <| .lt (List.take (List.length i1.2.1) i1.2.1 ++ [w64 (65535 * len i1.2.1)] : List Int) fun z7 => .vW th <| .need ((((3 : TypeId) = 3) ∧ ((z7 : List Int) = z7)) ∧ (true = true) ∧ (((42 : TypeId) = 42) ∧ (((2 : Int) = 2) ∧ ((((5) = (5)) ∧ (((0) = (0)) ∧ ((List.length i1.2.1 + 1 = List.length z7) ∧ ((true) = (true))))) ∧ (True ∧ True)))) ∧ DTl d) <| .ok (.inl ((false, z7, ()))))
 (.ite (d.2.2.2.2.1)
 (.need (len i1.2.1 ≠ 0) <| .loop 3 (.tt <| .lt (i1.2.1 : List Int) fun z8 => .vW (uh (0 : Int) (0 : Int) (w64 (Int.tdiv 65535 (len z8))) <| uM ∧ uD ∧ True) <| .vW (vV (ua 3 z8) <| (ud 42 (2 : Int) <| (ub 5 0 (List.length z8) true) ∧ True ∧ True) ∧ DTl d) <| .ok ((0, 0, z8, ()))) (ajC d j i1))
 (.ok (.inr (((2, List.take (List.length i1.2.1) i1.2.1, [], ()), ()))))))
def ajB (d : Int × List Int × List uo × Bool × Bool × Unit) (j : Bool × List Int × Unit) (i3 : List Int × Unit) (i4 : (Int) × (Int) × (List Int) × Unit) : TT (uZ ⊕ (tW ⊕ ti)) :=
 .ite (decide (i4.1 < len i3.1))
 (.need (inb i4.1 (len i3.1)) <| .need (w64 (Int.tdiv 65535 (len i3.1)) ≠ 0) <| .need (inb i4.1 (len i3.1)) <| .tt <| .lt (w64 (i4.1 + 1) : Int) fun z14 => .lt (w64 (w64 (i4.2.1 + 1) + Int.tmod (List.getD i4.2.2.1 (0 + Int.toNat i4.1) 0) (w64 (Int.tdiv 65535 (len i3.1)))) : Int) fun z15 => .lt (List.set i4.2.2.1 (0 + Int.toNat i4.1) (w64 (z15 - 1)) : List Int) fun z16 => .vW (uh z15 z14 (w64 (Int.tdiv 65535 (len i3.1))) <| uM ∧ uD ∧ True) <| .vW (vV (ua 3 z16) <| (ud 42 (2 : Int) <| (ub 5 0 (List.length i3.1) true) ∧ True ∧ True) ∧ DTl d) <| .ok (.inl ((z14, z15, z16, ()))))
 (.ok (.inr (.inr (((2, List.take (List.length i3.1) i4.2.2.1, [], ()), ())))))
def anO (d : Int × List Int × List uo × Bool × Bool × Unit) (j : Bool × List Int × Unit) (i3 : (List Int) × Unit) : TT (tW ⊕ ti) :=
 .ite (decide (len i3.1 < 2))
 (.need ((List.length i3.1 + 1) * 8 ≤ 140737488355328) <| .tt <| .lt (List.take (List.length i3.1) i3.1 ++ [w64 (65535 * len i3.1)] : List Int) fun z13 => .vW th <| .need ((((3 : TypeId) = 3) ∧ ((z13 : List Int) = z13)) ∧ (true = true) ∧ (((42 : TypeId) = 42) ∧ (((2 : Int) = 2) ∧ ((((5) = (5)) ∧ (((0) = (0)) ∧ ((List.length i3.1 + 1 = List.length z13) ∧ ((true) = (true))))) ∧ (True ∧ True)))) ∧ DTl d) <| .ok (.inl ((z13, ()))))
 (.ite (d.2.2.2.2.1)
 (.need (len i3.1 ≠ 0) <| .loop 3 (.tt <| .vW (uh (0 : Int) (0 : Int) (w64 (Int.tdiv 65535 (len i3.1))) <| uM ∧ uD ∧ True) <| .vW (vV (ua 3 i3.1) <| (ud 42 (2 : Int) <| (ub 5 0 (List.length i3.1) true) ∧ True ∧ True) ∧ DTl d) <| .ok ((0, 0, i3.1, ()))) (ajB d j i3))
 (.ok (.inr (((2, List.take (List.length i3.1) i3.1, [], ()), ())))))
def ajD (d : Int × List Int × List uo × Bool × Bool × Unit) (j : Bool × (List Int) × Unit) : TT ti :=
 .ite (j.1)
 (.loop 2 (.tt <| .vW th <| .vW (tA ∧ DTl d) <| .ok ((true, [], ()))) (anP d j))
 (.loop 4 (.tt <| .lt (j.2.1 : List Int) fun z12 => .vW th <| .vW (vV (ua 3 z12) <| (ud 42 (2 : Int) <| (ub 5 0 (List.length z12) true) ∧ True ∧ True) ∧ DTl d) <| .ok ((z12, ()))) (anO d j))
def al0 (d : Int × List Int × List uo × Bool × Bool × Unit) : TT ti :=
 .join 0 (ι := Bool × (List Int) × Unit) (.loop 1 (.tt <| .vW (vX (0 : Int) <| uM ∧ uD ∧ ux ∧ True) <| .vW (tA ∧ DTl d) <| .ok ((0, true, [], ()))) (anQ d)) (ajD d)
def aDR : LTab := [(69, 250, 11268, ⟨0, (Int) × (Int) × Bool × (List uo) × Unit, .dat (.s 6) uq <| .dat (.s 5) uq <| .appN (.c 3 2) 11 64 tf <| .nil, [4, 3, 2, 1], [3, 1, 0], 1⟩)]
def agQ (d : Int × List Int × List uo × Bool × Bool × Unit) : TT sz :=
 .ite (d.2.2.2.2.1)
 (.triv (asT Int 0 ≤ 1 ∧ 1 ≤ (↑1 : Int)) zf <| .triv (inb (w64 (1 - 1)) (↑1 : Int)) zf <| .ok (.inr (((3, [], List.take 1 (List.set [(0, 1000000, 0, 1, 1, 0, ())] (0 + Int.toNat (w64 (1 - 1))) (1000000, (List.getD [(0, 1000000, 0, 1, 1, 0, ())] (0 + Int.toNat (w64 (1 - 1))) (0, 0, 0, 0, 0, 0, ())).2)), ()), ()))))
 (.triv (inb (w64 (1 - 1)) (↑1 : Int)) zf <| .ok (.inr (((3, [], List.take 1 (List.set [(0, 1000000, 0, 1, 1, 0, ())] (0 + Int.toNat (w64 (1 - 1))) (1000000, (List.getD [(0, 1000000, 0, 1, 1, 0, ())] (0 + Int.toNat (w64 (1 - 1))) (0, 0, 0, 0, 0, 0, ())).2)), ()), ()))))
def aj8 (d : Int × List Int × List uo × Bool × Bool × Unit) (i : (Int) × (Int) × Bool × (List uo) × Unit) : TT sz :=
 .ite (i.2.2.1)
 (.ite (decide (i.1 < if 3 < len d.2.2.1 then 3 else len d.2.2.1))
  (.need (inb i.1 (len d.2.2.1)) <| .triv (asT Int 4 ≠ 0) zf <| .ite (d.2.2.2.1)
   (.triv (asT Int 4 ≠ 0) zf <| .ite (d.2.2.2.2.1)
    (.call (abH (w64 (1 + w64 (Int.tmod (gP d i.1).2.2.2.2.1 4)), w64 (1 + w64 (Int.tmod (gP d i.1).2.2.2.2.2.1 4)), ())) Dd1 fun y =>
     .ite (y.1)
     (.need (1 * 48 ≤ 140737488355328) <| .tt <| .lt (w64 (i.1 + 1) : Int) fun z1 => .lt (w64 (w64 (i.2.1 + 1000) + w64 (1000 * w64 (gP d i.1).1)) : Int) fun z2 => .lt ([(z2, if w64 (0 - w64 (100 * w64 (gP d i.1).2.1)) > w64 (100 * w64 (gP d i.1).2.1) then w64 (0 - w64 (100 * w64 (gP d i.1).2.1)) else w64 (100 * w64 (gP d i.1).2.1), if w64 (0 - w64 (10 * w64 (gP d i.1).2.2.1)) > w64 (10 * w64 (gP d i.1).2.2.1) then w64 (0 - w64 (10 * w64 (gP d i.1).2.2.1)) else w64 (10 * w64 (gP d i.1).2.2.1), 1, w64 (1 + w64 (Int.tmod (gP d i.1).2.2.2.2.2.1 4)), w64 (10 * w64 (gP d i.1).2.2.2.1), ())] : List uo) fun z3 => .vW (uh z2 z1 (if 3 < len d.2.2.1 then 3 else len d.2.2.1 : Int) <| uM ∧ uD ∧ ux ∧ True) <| .vW (vV (ua 64 z3) <| uU ∧ DTl d) <| .ok (.inl ((z1, z2, false, z3, ()))))
     (.need (1 * 48 ≤ 140737488355328) <| .tt <| .lt (w64 (i.1 + 1) : Int) fun z4 => .lt (w64 (w64 (i.2.1 + 1000) + w64 (1000 * w64 (gP d i.1).1)) : Int) fun z5 => .lt ([(z5, if w64 (0 - w64 (100 * w64 (gP d i.1).2.1)) > w64 (100 * w64 (gP d i.1).2.1) then w64 (0 - w64 (100 * w64 (gP d i.1).2.1)) else w64 (100 * w64 (gP d i.1).2.1), if w64 (0 - w64 (10 * w64 (gP d i.1).2.2.1)) > w64 (10 * w64 (gP d i.1).2.2.1) then w64 (0 - w64 (10 * w64 (gP d i.1).2.2.1)) else w64 (10 * w64 (gP d i.1).2.2.1), w64 (1 + w64 (Int.tmod (gP d i.1).2.2.2.2.1 4)), w64 (1 + w64 (Int.tmod (gP d i.1).2.2.2.2.2.1 4)), w64 (10 * w64 (gP d i.1).2.2.2.1), ())] : List uo) fun z6 => .vW (uh z5 z4 (if 3 < len d.2.2.1 then 3 else len d.2.2.1 : Int) <| uM ∧ uD ∧ ux ∧ True) <| .vW (vV (ua 64 z6) <| uU ∧ DTl d) <| .ok (.inl ((z4, z5, false, z6, ())))))
    (.call (abH (w64 (1 + w64 (Int.tmod (gP d i.1).2.2.2.2.1 4)), w64 (1 + w64 (Int.tmod (gP d i.1).2.2.2.2.2.1 4)), ())) Dd1 fun y1 =>
     .ite (y1.1)
     (.need (1 * 48 ≤ 140737488355328) <| .tt <| .lt (w64 (i.1 + 1) : Int) fun z7 => .lt (w64 (w64 (i.2.1 + 1000) + w64 (1000 * w64 (gP d i.1).1)) : Int) fun z8 => .lt ([(z8, w64 (100 * w64 (gP d i.1).2.1), w64 (10 * w64 (gP d i.1).2.2.1), 1, w64 (1 + w64 (Int.tmod (gP d i.1).2.2.2.2.2.1 4)), w64 (10 * w64 (gP d i.1).2.2.2.1), ())] : List uo) fun z9 => .vW (uh z8 z7 (if 3 < len d.2.2.1 then 3 else len d.2.2.1 : Int) <| uM ∧ uD ∧ ux ∧ True) <| .vW (vV (ua 64 z9) <| uU ∧ DTl d) <| .ok (.inl ((z7, z8, false, z9, ()))))
     (.need (1 * 48 ≤ 140737488355328) <| .tt <| .lt (w64 (i.1 + 1) : Int) fun z10 => .lt (w64 (w64 (i.2.1 + 1000) + w64 (1000 * w64 (gP d i.1).1)) : Int) fun z11 => .lt ([(z11, w64 (100 * w64 (gP d i.1).2.1), w64 (10 * w64 (gP d i.1).2.2.1), w64 (1 + w64 (Int.tmod (gP d i.1).2.2.2.2.1 4)), w64 (1 + w64 (Int.tmod (gP d i.1).2.2.2.2.2.1 4)), w64 (10 * w64 (gP d i.1).2.2.2.1), ())] : List uo) fun z12 => .vW (uh z11 z10 (if 3 < len d.2.2.1 then 3 else len d.2.2.1 : Int) <| uM ∧ uD ∧ ux ∧ True) <| .vW (vV (ua 64 z12) <| uU ∧ DTl d) <| .ok (.inl ((z10, z11, false, z12, ()))))))
   (.ite (d.2.2.2.2.1)
    (.call (abH (w64 (1 + w64 (Int.tmod (gP d i.1).2.2.2.2.1 4)), 1, ())) Dd1 fun y2 =>
     .ite (y2.1)
     (.need (1 * 48 ≤ 140737488355328) <| .tt <| .lt (w64 (i.1 + 1) : Int) fun z13 => .lt (w64 (w64 (i.2.1 + 1000) + w64 (1000 * w64 (gP d i.1).1)) : Int) fun z14 => .lt ([(z14, if w64 (0 - w64 (100 * w64 (gP d i.1).2.1)) > w64 (100 * w64 (gP d i.1).2.1) then w64 (0 - w64 (100 * w64 (gP d i.1).2.1)) else w64 (100 * w64 (gP d i.1).2.1), if w64 (0 - w64 (10 * w64 (gP d i.1).2.2.1)) > w64 (10 * w64 (gP d i.1).2.2.1) then w64 (0 - w64 (10 * w64 (gP d i.1).2.2.1)) else w64 (10 * w64 (gP d i.1).2.2.1), 1, 1, w64 (10 * w64 (gP d i.1).2.2.2.1), ())] : List uo) fun z15 => .vW (uh z14 z13 (if 3 < len d.2.2.1 then 3 else len d.2.2.1 : Int) <| uM ∧ uD ∧ ux ∧ True) <| .vW (vV (ua 64 z15) <| uU ∧ DTl d) <| .ok (.inl ((z13, z14, false, z15, ()))))
     (.need (1 * 48 ≤ 140737488355328) <| .tt <| .lt (w64 (i.1 + 1) : Int) fun z16 => .lt (w64 (w64 (i.2.1 + 1000) + w64 (1000 * w64 (gP d i.1).1)) : Int) fun z17 => .lt ([(z17, if w64 (0 - w64 (100 * w64 (gP d i.1).2.1)) > w64 (100 * w64 (gP d i.1).2.1) then w64 (0 - w64 (100 * w64 (gP d i.1).2.1)) else w64 (100 * w64 (gP d i.1).2.1), if w64 (0 - w64 (10 * w64 (gP d i.1).2.2.1)) > w64 (10 * w64 (gP d i.1).2.2.1) then w64 (0 - w64 (10 * w64 (gP d i.1).2.2.1)) else w64 (10 * w64 (gP d i.1).2.2.1), w64 (1 + w64 (Int.tmod (gP d i.1).2.2.2.2.1 4)), 1, w64 (10 * w64 (gP d i.1).2.2.2.1), ())] : List uo) fun z18 => .vW (uh z17 z16 (if 3 < len d.2.2.1 then 3 else len d.2.2.1 : Int) <| uM ∧ uD ∧ ux ∧ True) <| .vW (vV (ua 64 z18) <| uU ∧ DTl d) <| .ok (.inl ((z16, z17, false, z18, ())))))
    (.call (abH (w64 (1 + w64 (Int.tmod (gP d i.1).2.2.2.2.1 4)), 1, ())) Dd1 fun y3 =>
     .ite (y3.1)
     (.need (1 * 48 ≤ 140737488355328) <| .tt <| .lt (w64 (i.1 + 1) : Int) fun z19 => .lt (w64 (w64 (i.2.1 + 1000) + w64 (1000 * w64 (gP d i.1).1)) : Int) fun z20 => .lt ([(z20, w64 (100 * w64 (gP d i.1).2.1), w64 (10 * w64 (gP d i.1).2.2.1), 1, 1, w64 (10 * w64 (gP d i.1).2.2.2.1), ())] : List uo) fun z21 => .vW (uh z20 z19 (if 3 < len d.2.2.1 then 3 else len d.2.2.1 : Int) <| uM ∧ uD ∧ ux ∧ True) <| .vW (vV (ua 64 z21) <| uU ∧ DTl d) <| .ok (.inl ((z19, z20, false, z21, ()))))
     (.need (1 * 48 ≤ 140737488355328) <| .tt <| .lt (w64 (i.1 + 1) : Int) fun z22 => .lt (w64 (w64 (i.2.1 + 1000) + w64 (1000 * w64 (gP d i.1).1)) : Int) fun z23 => .lt ([(z23, w64 (100 * w64 (gP d i.1).2.1), w64 (10 * w64 (gP d i.1).2.2.1), w64 (1 + w64 (Int.tmod (gP d i.1).2.2.2.2.1 4)), 1, w64 (10 * w64 (gP d i.1).2.2.2.1), ())] : List uo) fun z24 => .vW (uh z23 z22 (if 3 < len d.2.2.1 then 3 else len d.2.2.1 : Int) <| uM ∧ uD ∧ ux ∧ True) <| .vW (vV (ua 64 z24) <| uU ∧ DTl d) <| .ok (.inl ((z22, z23, false, z24, ())))))))
  (.ite ((if 3 < len d.2.2.1 then 3 else len d.2.2.1) == 0)
   (agQ d)
   (.ite (d.2.2.2.2.1)
    (.bad)
    (.bad))))
 (.ite (decide (i.1 < if 3 < len d.2.2.1 then 3 else len d.2.2.1))
  (.need (inb i.1 (len d.2.2.1)) <| .triv (asT Int 4 ≠ 0) zf <| .ite (d.2.2.2.1)
   (.triv (asT Int 4 ≠ 0) zf <| .ite (d.2.2.2.2.1)
    (.call (abH (w64 (1 + w64 (Int.tmod (gP d i.1).2.2.2.2.1 4)), w64 (1 + w64 (Int.tmod (gP d i.1).2.2.2.2.2.1 4)), ())) Dd1 fun y4 =>
     .ite (y4.1)
     (.need ((List.length i.2.2.2.1 + 1) * 48 ≤ 140737488355328) <| .tt <| .lt (w64 (i.1 + 1) : Int) fun z25 => .lt (w64 (w64 (i.2.1 + 1000) + w64 (1000 * w64 (gP d i.1).1)) : Int) fun z26 => .lt (List.take (List.length i.2.2.2.1) i.2.2.2.1 ++ [(z26, if w64 (0 - w64 (100 * w64 (gP d i.1).2.1)) > w64 (100 * w64 (gP d i.1).2.1) then w64 (0 - w64 (100 * w64 (gP d i.1).2.1)) else w64 (100 * w64 (gP d i.1).2.1), if w64 (0 - w64 (10 * w64 (gP d i.1).2.2.1)) > w64 (10 * w64 (gP d i.1).2.2.1) then w64 (0 - w64 (10 * w64 (gP d i.1).2.2.1)) else w64 (10 * w64 (gP d i.1).2.2.1), 1, w64 (1 + w64 (Int.tmod (gP d i.1).2.2.2.2.2.1 4)), w64 (10 * w64 (gP d i.1).2.2.2.1), ())] : List uo) fun z27 => .vW (uh z26 z25 (if 3 < len d.2.2.1 then 3 else len d.2.2.1 : Int) <| uM ∧ uD ∧ ux ∧ True) <| .need ((((64 : TypeId) = 64) ∧ ((z27 : List uo) = z27)) ∧ (true = true) ∧ (((42 : TypeId) = 42) ∧ (((3 : Int) = 3) ∧ (True ∧ ((((11) = (11)) ∧ (((0) = (0)) ∧ ((List.length i.2.2.2.1 + 1 = List.length z27) ∧ ((true) = (true))))) ∧ True)))) ∧ DTl d) <| .ok (.inl ((z25, z26, false, z27, ()))))
     (.need ((List.length i.2.2.2.1 + 1) * 48 ≤ 140737488355328) <| .tt <| .lt (w64 (i.1 + 1) : Int) fun z28 => .lt (w64 (w64 (i.2.1 + 1000) + w64 (1000 * w64 (gP d i.1).1)) : Int) fun z29 => .lt (List.take (List.length i.2.2.2.1) i.2.2.2.1 ++ [(z29, if w64 (0 - w64 (100 * w64 (gP d i.1).2.1)) > w64 (100 * w64 (gP d i.1).2.1) then w64 (0 - w64 (100 * w64 (gP d i.1).2.1)) else w64 (100 * w64 (gP d i.1).2.1), if w64 (0 - w64 (10 * w64 (gP d i.1).2.2.1)) > w64 (10 * w64 (gP d i.1).2.2.1) then w64 (0 - w64 (10 * w64 (gP d i.1).2.2.1)) else w64 (10 * w64 (gP d i.1).2.2.1), w64 (1 + w64 (Int.tmod (gP d i.1).2.2.2.2.1 4)), w64 (1 + w64 (Int.tmod (gP d i.1).2.2.2.2.2.1 4)), w64 (10 * w64 (gP d i.1).2.2.2.1), ())] : List uo) fun z30 => .vW (uh z29 z28 (if 3 < len d.2.2.1 then 3 else len d.2.2.1 : Int) <| uM ∧ uD ∧ ux ∧ True) <| .need ((((64 : TypeId) = 64) ∧ ((z30 : List uo) = z30)) ∧ (true = true) ∧ (((42 : TypeId) = 42) ∧ (((3 : Int) = 3) ∧ (True ∧ ((((11) = (11)) ∧ (((0) = (0)) ∧ ((List.length i.2.2.2.1 + 1 = List.length z30) ∧ ((true) = (true))))) ∧ True)))) ∧ DTl d) <| .ok (.inl ((z28, z29, false, z30, ())))))
    (.call (abH (w64 (1 + w64 (Int.tmod (gP d i.1).2.2.2.2.1 4)), w64 (1 + w64 (Int.tmod (gP d i.1).2.2.2.2.2.1 4)), ())) Dd1 fun y5 =>
     .ite (y5.1)
     (.need ((List.length i.2.2.2.1 + 1) * 48 ≤ 140737488355328) <| .tt <| .lt (w64 (i.1 + 1) : Int) fun z31 => .lt (w64 (w64 (i.2.1 + 1000) + w64 (1000 * w64 (gP d i.1).1)) : Int) fun z32 => .lt (List.take (List.length i.2.2.2.1) i.2.2.2.1 ++ [(z32, w64 (100 * w64 (gP d i.1).2.1), w64 (10 * w64 (gP d i.1).2.2.1), 1, w64 (1 + w64 (Int.tmod (gP d i.1).2.2.2.2.2.1 4)), w64 (10 * w64 (gP d i.1).2.2.2.1), ())] : List uo) fun z33 => .vW (uh z32 z31 (if 3 < len d.2.2.1 then 3 else len d.2.2.1 : Int) <| uM ∧ uD ∧ ux ∧ True) <| .need ((((64 : TypeId) = 64) ∧ ((z33 : List uo) = z33)) ∧ (true = true) ∧ (((42 : TypeId) = 42) ∧ (((3 : Int) = 3) ∧ (True ∧ ((((11) = (11)) ∧ (((0) = (0)) ∧ ((List.length i.2.2.2.1 + 1 = List.length z33) ∧ ((true) = (true))))) ∧ True)))) ∧ DTl d) <| .ok (.inl ((z31, z32, false, z33, ()))))
     (.need ((List.length i.2.2.2.1 + 1) * 48 ≤ 140737488355328) <| .tt <| .lt (w64 (i.1 + 1) : Int) fun z34 => .lt (w64 (w64 (i.2.1 + 1000) + w64 (1000 * w64 (gP d i.1).1)) : Int) fun z35 => .lt (List.take (List.length i.2.2.2.1) i.2.2.2.1 ++ [(z35, w64 (100 * w64 (gP d i.1).2.1), w64 (10 * w64 (gP d i.1).2.2.1), w64 (1 + w64 (Int.tmod (gP d i.1).2.2.2.2.1 4)), w64 (1 + w64 (Int.tmod (gP d i.1).2.2.2.2.2.1 4)), w64 (10 * w64 (gP d i.1).2.2.2.1), ())] : List uo) fun z36 => .vW (uh z35 z34 (if 3 < len d.2.2.1 then 3 else len d.2.2.1 : Int) <| uM ∧ uD ∧ ux ∧ True) <| .need ((((64 : TypeId) = 64) ∧ ((z36 : List uo) = z36)) ∧ (true = true) ∧ (((42 : TypeId) = 42) ∧ (((3 : Int) = 3) ∧ (True ∧ ((((11) = (11)) ∧ (((0) = (0)) ∧ ((List.length i.2.2.2.1 + 1 = List.length z36) ∧ ((true) = (true))))) ∧ True)))) ∧ DTl d) <| .ok (.inl ((z34, z35, false, z36, ()))))))
   (.ite (d.2.2.2.2.1)
    (.call (abH (w64 (1 + w64 (Int.tmod (gP d i.1).2.2.2.2.1 4)), 1, ())) Dd1 fun y6 =>
     .ite (y6.1)
     (.need ((List.length i.2.2.2.1 + 1) * 48 ≤ 140737488355328) <| .tt <| .lt (w64 (i.1 + 1) : Int) fun z37 => .lt (w64 (w64 (i.2.1 + 1000) + w64 (1000 * w64 (gP d i.1).1)) : Int) fun z38 => .lt (List.take (List.length i.2.2.2.1) i.2.2.2.1 ++ [(z38, if w64 (0 - w64 (100 * w64 (gP d i.1).2.1)) > w64 (100 * w64 (gP d i.1).2.1) then w64 (0 - w64 (100 * w64 (gP d i.1).2.1)) else w64 (100 * w64 (gP d i.1).2.1), if w64 (0 - w64 (10 * w64 (gP d i.1).2.2.1)) > w64 (10 * w64 (gP d i.1).2.2.1) then w64 (0 - w64 (10 * w64 (gP d i.1).2.2.1)) else w64 (10 * w64 (gP d i.1).2.2.1), 1, 1, w64 (10 * w64 (gP d i.1).2.2.2.1), ())] : List uo) fun z39 => .vW (uh z38 z37 (if 3 < len d.2.2.1 then 3 else len d.2.2.1 : Int) <| uM ∧ uD ∧ ux ∧ True) <| .need ((((64 : TypeId) = 64) ∧ ((z39 : List uo) = z39)) ∧ (true = true) ∧ (((42 : TypeId) = 42) ∧ (((3 : Int) = 3) ∧ (True ∧ ((((11) = (11)) ∧ (((0) = (0)) ∧ ((List.length i.2.2.2.1 + 1 = List.length z39) ∧ ((true) = (true))))) ∧ True)))) ∧ DTl d) <| .ok (.inl ((z37, z38, false, z39, ()))))
     (.need ((List.length i.2.2.2.1 + 1) * 48 ≤ 140737488355328) <| .tt <| .lt (w64 (i.1 + 1) : Int) fun z40 => .lt (w64 (w64 (i.2.1 + 1000) + w64 (1000 * w64 (gP d i.1).1)) : Int) fun z41 => .lt (List.take (List.length i.2.2.2.1) i.2.2.2.1 ++ [(z41, if w64 (0 - w64 (100 * w64 (gP d i.1).2.1)) > w64 (100 * w64 (gP d i.1).2.1) then w64 (0 - w64 (100 * w64 (gP d i.1).2.1)) else w64 (100 * w64 (gP d i.1).2.1), if w64 (0 - w64 (10 * w64 (gP d i.1).2.2.1)) > w64 (10 * w64 (gP d i.1).2.2.1) then w64 (0 - w64 (10 * w64 (gP d i.1).2.2.1)) else w64 (10 * w64 (gP d i.1).2.2.1), w64 (1 + w64 (Int.tmod (gP d i.1).2.2.2.2.1 4)), 1, w64 (10 * w64 (gP d i.1).2.2.2.1), ())] : List uo) fun z42 => .vW (uh z41 z40 (if 3 < len d.2.2.1 then 3 else len d.2.2.1 : Int) <| uM ∧ uD ∧ ux ∧ True) <| .need ((((64 : TypeId) = 64) ∧ ((z42 : List uo) = z42)) ∧ (true = true) ∧ (((42 : TypeId) = 42) ∧ (((3 : Int) = 3) ∧ (True ∧ ((((11) = (11)) ∧ (((0) = (0)) ∧ ((List.length i.2.2.2.1 + 1 = List.length z42) ∧ ((true) = (true))))) ∧ True)))) ∧ DTl d) <| .ok (.inl ((z40, z41, false, z42, ())))))
    (.call (abH (w64 (1 + w64 (Int.tmod (gP d i.1).2.2.2.2.1 4)), 1, ())) Dd1 fun y7 =>
     .ite (y7.1)
     (.need ((List.length i.2.2.2.1 + 1) * 48 ≤ 140737488355328) <| .tt <| .lt (w64 (i.1 + 1) : Int) fun z43 => .lt (w64 (w64 (i.2.1 + 1000) + w64 (1000 * w64 (gP d i.1).1)) : Int) fun z44 => .lt (List.take (List.length i.2.2.2.1) i.2.2.2.1 ++ [(z44, w64 (100 * w64 (gP d i.1).2.1), w64 (10 * w64 (gP d i.1).2.2.1), 1, 1, w64 (10 * w64 (gP d i.1).2.2.2.1), ())] : List uo) fun z45 => .vW (uh z44 z43 (if 3 < len d.2.2.1 then 3 else len d.2.2.1 : Int) <| uM ∧ uD ∧ ux ∧ True) <| .need ((((64 : TypeId) = 64) ∧ ((z45 : List uo) = z45)) ∧ (true = true) ∧ (((42 : TypeId) = 42) ∧ (((3 : Int) = 3) ∧ (True ∧ ((((11) = (11)) ∧ (((0) = (0)) ∧ ((List.length i.2.2.2.1 + 1 = List.length z45) ∧ ((true) = (true))))) ∧ True)))) ∧ DTl d) <| .ok (.inl ((z43, z44, false, z45, ()))))
     (.need ((List.length i.2.2.2.1 + 1) * 48 ≤ 140737488355328) <| .tt <| .lt (w64 (i.1 + 1) : Int) fun z46 => .lt (w64 (w64 (i.2.1 + 1000) + w64 (1000 * w64 (gP d i.1).1)) : Int) fun z47 => .lt (List.take (List.length i.2.2.2.1) i.2.2.2.1 ++ [(z47, w64 (100 * w64 (gP d i.1).2.1), w64 (10 * w64 (gP d i.1).2.2.1), w64 (1 + w64 (Int.tmod (gP d i.1).2.2.2.2.1 4)), 1, w64 (10 * w64 (gP d i.1).2.2.2.1), ())] : List uo) fun z48 => .vW (uh z47 z46 (if 3 < len d.2.2.1 then 3 else len d.2.2.1 : Int) <| uM ∧ uD ∧ ux ∧ True) <| .need ((((64 : TypeId) = 64) ∧ ((z48 : List uo) = z48)) ∧ (true = true) ∧ (((42 : TypeId) = 42) ∧ (((3 : Int) = 3) ∧ (True ∧ ((((11) = (11)) ∧ (((0) = (0)) ∧ ((List.length i.2.2.2.1 + 1 = List.length z48) ∧ ((true) = (true))))) ∧ True)))) ∧ DTl d) <| .ok (.inl ((z46, z47, false, z48, ())))))))
  (.ite ((if 3 < len d.2.2.1 then 3 else len d.2.2.1) == 0)
   (agQ d)
   (.ite (d.2.2.2.2.1)
    (.need (asT Int 0 ≤ 1 ∧ 1 ≤ len i.2.2.2.1) <| .triv (inb (w64 (1 - 1)) (↑1 : Int)) zf <| .ok (.inr (((3, [], List.take 1 (List.set i.2.2.2.1 (0 + Int.toNat (w64 (1 - 1))) (1000000, (List.getD i.2.2.2.1 (0 + Int.toNat (w64 (1 - 1))) (0, 0, 0, 0, 0, 0, ())).2)), ()), ()))))
    (.need (inb (w64 ((if 3 < len d.2.2.1 then 3 else len d.2.2.1) - 1)) (len i.2.2.2.1)) <| .ok (.inr (((3, [], List.take (List.length i.2.2.2.1) (List.set i.2.2.2.1 (0 + Int.toNat (w64 ((if 3 < len d.2.2.1 then 3 else len d.2.2.1) - 1))) (1000000, (List.getD i.2.2.2.1 (0 + Int.toNat (w64 ((if 3 < len d.2.2.1 then 3 else len d.2.2.1) - 1))) (0, 0, 0, 0, 0, 0, ())).2)), ()), ())))))))
def ahZ (d : Int × List Int × List uo × Bool × Bool × Unit) : TT ti :=
 .loop 0 (.tt <| .lt ([] : List uo) fun z => .vW (uh (0 : Int) (0 : Int) (if 3 < len d.2.2.1 then 3 else len d.2.2.1 : Int) <| uM ∧ uD ∧ ux ∧ True) <| .vW ((ud 42 (3 : Int) <| True ∧ True ∧ True) ∧ DTl d) <| .ok ((0, 0, true, z, ()))) (aj8 d)
end
noncomputable section
abbrev DrT := Int × List Int × List adI × Bool × Bool × Unit
def aFi (l : List Int) : Prop := ∀ v ∈ l, inR v 0 65535
def aVb (d : DrT) : Prop := inR d.1 0 255 ∧ aFi d.2.1 ∧ ∀ s ∈ d.2.2.1, inR s.1 0 255 ∧ inR s.2.1 (-32768) 32767 ∧ inR s.2.2.1 (-32768) 32767 ∧ inR s.2.2.2.1 (-32768) 32767 ∧ inR s.2.2.2.2.1 0 255 ∧ inR s.2.2.2.2.2.1 0 255
def ai0 (x : DrT × Unit) : Option (CvT × Unit) := (al0 x.1).toO
def agL (x : DrT × Unit) : Option (CvT × Unit) := (ahZ x.1).toO
end
set_option maxRecDepth 100000
open Go Go.Vg Go.Proofs
noncomputable section
def aL3 : LTab := []
def ao7 (d : Int × List Int × List uo × Bool × Bool × Unit) : TT ti :=
 .triv (asT Int 4 ≠ 0) zf <| .ite (Int.tmod d.1 4 == 0)
 (.ok (((1, [], [], ()), ())))
 (.ite (Int.tmod d.1 4 == 1)
 (.call (agL ((d.1, d.2.1, d.2.2.1, d.2.2.2.1, d.2.2.2.2.1, ()), ())) aOc fun y =>
 .ok (((y.1.1, y.1.2.1, y.1.2.2.1, ()), ())))
 (.call (ai0 ((d.1, d.2.1, d.2.2.1, d.2.2.2.1, d.2.2.2.2.1, ()), ())) aOc fun y1 =>
 .ok (((y1.1.1, y1.1.2.1, y1.1.2.2.1, ()), ()))))
end
noncomputable section
def ak9 (x : DrT × Unit) : Option (CvT × Unit) := (ao7 x.1).toO
end
theorem asU {l : List Int} (h : aFi l) (k : Nat) : 0 ≤ l.getD k 0 ∧ l.getD k 0 ≤ 65535 := by
 rw [yp]
 rcases zr k l.length with hk | hk
 ·rw [zS hk]; exact h _ (ym hk)
 ·rw [xX hk]; decide
theorem aEI {l : List Int} {v : Int} (h : aFi l) (hv : 0 ≤ v ∧ v ≤ 65535) : aFi (l ++ [v]) := by
 intro w hw
 rcases zJ.mp hw with hw | hw
 ·exact h w hw
 ·rw [ya.mp hw]; exact hv
theorem aTp {l : List Int} {v : Int} {k : Nat} (h : aFi l) (hv : 0 ≤ v ∧ v ≤ 65535) : aFi (l.set k v) := by
 intro w hw
 rcases List.mem_or_eq_of_mem_set hw with hw | hw
 ·exact h w hw
 ·rw [hw]; exact hv
theorem aQU {l : List Int} {k : Nat} (h : aFi l) : aFi (l.take k) := fun w hw => h w (xc hw)
theorem aOM {A : Type} {R : Int × Int × List Int × Unit → Option ((Int × Int × List Int × Unit) ⊕ (A ⊕ (CvT × Unit)))} (l : List Int) (hl : 2 ≤ l.length ∧ l.length ≤ 8) (he : aFi l)
  (hs : ∀ (k : Nat) (a : Int) (s : List Int), k < l.length → s.length = l.length → aFi s → 0 ≤ a → a ≤ 65535 → R ((k : Int), a, s, ()) = some (.inl (((k + 1 : Nat) : Int), a + 1 + Int.tmod (s.getD k 0) (Int.tdiv 65535 l.length), s.set k (a + Int.tmod (s.getD k 0) (Int.tdiv 65535 l.length)), ())))
  (hd : ∀ (a : Int) (s : List Int), s.length = l.length → R ((l.length : Int), a, s, ()) = some (.inr (.inr ((2, s.take l.length, [], ()), ())))) :
  ∃ t, adK R (0, 0, l, ()) = some (.inr ((2, t, [], ()), ())) ∧ adM t := by
 obtain ⟨n, hn⟩ : ∃ n : Nat, n = l.length := ⟨_, rfl⟩
 rw [← hn] at hl hs hd
 have hq : Int.tdiv 65535 (n : Int) = 65535 / (n : Int) := zL zc
 have hq1 : (n : Int) * (65535 / (n : Int)) ≤ 65535 := by have := Int.ediv_mul_le 65535 (b := (n : Int)) zc; rw [yM]; omega
 have hq0 : 1 ≤ 65535 / (n : Int) := by
  rw [xw zc]; omega
 rw [hq] at hs
 obtain ⟨q, hqq⟩ : ∃ q : Int, q = 65535 / (n : Int) := ⟨_, rfl⟩
 rw [← hqq] at hs hq1 hq0
 suffices H : ∃ a, adK R (0, 0, l, ()) = some a ∧ ∃ t, a = .inr ((2, t, [], ()), ()) ∧ adM t by
  obtain ⟨a, h1, t, rfl, h2⟩ := H
  exact ⟨t, h1, h2⟩
 refine ac8 (R := R) (fun i => ∃ k : Nat, k ≤ n ∧ i.1 = (k : Int) ∧ 0 ≤ i.2.1 ∧ i.2.1 ≤ (k : Int) * q ∧ i.2.2.1.length = n ∧ aFi i.2.2.1) (fun i => ((n : Int) - i.1).toNat) (fun a => ∃ t, a = .inr ((2, t, [], ()), ()) ∧ adM t) ?_ (0, 0, l, ()) ⟨0, by omega, rfl, by simp, by simp, hn.symm, he⟩
 rintro ⟨i, a, s, u⟩ ⟨k, h1, h2, h3, h4, h5, h6⟩
 simp only at h2 h3 h4 h5 h6
 subst h2
 rcases zr k n with hk | hk
 ·left
  have hg := asU h6 k
  have hm : Int.tmod (s.getD k 0) q = s.getD k 0 % q := zF hg.1
  have m0 := yQ (s.getD k 0) (b := q) zc
  have m1 := yB (s.getD k 0) (b := q) zc
  have hkn : ((k : Int) + 1) * q ≤ (n : Int) * q := zE zc zc
  have hk1 : ((k : Int) + 1) * q = (k : Int) * q + q := by rw [wY, Int.one_mul]
  refine ⟨_, hs k a s hk h5 h6 h3 zc, ⟨k + 1, hk, rfl, ?_, ?_, ?_, ?_⟩, ?_⟩
  ·simp only [hm]; omega
  ·simp only [hm]; rw [vq]; show _ ≤ ((k : Int) + 1) * q; omega
  ·simp only [yY, h5]
  ·simp only [hm]; exact aTp h6 ⟨by omega, by omega⟩
  ·simp only; omega
 ·right
  obtain rfl : k = n := zc
  exact ⟨_, hd a s h5, s.take k, rfl, by rw [zO]; omega, by rw [zO]; omega, aQU h6⟩
theorem s9 {p : Prop} (h : p := by first | omega | ((try simp only [aaB, inb, inc, ge_iff_le, gt_iff_lt, zp, asT, ne_eq, zH, zO, zG, yR, Nat.min_self, DTl]) <;> (first | omega | (refine ⟨?_, ?_⟩ <;> omega) | simp))) : p := h
theorem zb {α : Type} {x y : TT α} {r : Option α} (k : y.toO = r) (h : x.toO = y.toO := by first | exact uV rfl | exact uB rfl | exact uN s9 rfl) : x.toO = r := h.trans k
theorem aQY (d : DrT) (j : Bool × List Int × Unit) (b : Bool) (l : List Int) (hl : 2 ≤ l.length ∧ l.length ≤ 8) (he : aFi l) :
  ∃ t, adK (fun i => (ajC d j (b, l, ()) i).toO) (0, 0, l, ()) = some (.inr ((2, t, [], ()), ())) ∧ adM t := by
 have hq : Int.tdiv 65535 (l.length : Int) = 65535 / (l.length : Int) := zL zc
 have hq0 : 1 ≤ 65535 / (l.length : Int) := by rw [xw zc]; omega
 have hq1 : 65535 / (l.length : Int) ≤ 65535 := Int.ediv_le_self _ zc
 refine aOM l hl he ?_ ?_
 ·intro k a s hk hs hes h0 h1
  have hg := asU hes k
  have hm : Int.tmod (s.getD k 0) (Int.tdiv 65535 (l.length : Int)) = s.getD k 0 % (65535 / (l.length : Int)) := by rw [hq]; exact zF hg.1
  have m0 := yQ (s.getD k 0) (b := 65535 / (l.length : Int)) zc
  have m1 := yB (s.getD k 0) (b := 65535 / (l.length : Int)) zc
  have e1 : w64 (Int.tdiv 65535 (l.length : Int)) = Int.tdiv 65535 (l.length : Int) := aaA (by rw [hq]; omega)
  have e2 : w64 ((k : Int) + 1) = ((k + 1 : Nat) : Int) := by rw [aaA (x := (k : Int) + 1) zc]; omega
  have e3 : w64 (a + 1) = a + 1 := aaA zc
  have e4 : w64 (a + 1 + Int.tmod (s.getD k 0) (Int.tdiv 65535 (l.length : Int))) = a + 1 + Int.tmod (s.getD k 0) (Int.tdiv 65535 (l.length : Int)) := aaA (by rw [hm]; omega)
  have e5 : w64 (a + 1 + Int.tmod (s.getD k 0) (Int.tdiv 65535 (l.length : Int)) - 1) = a + Int.tmod (s.getD k 0) (Int.tdiv 65535 (l.length : Int)) := by rw [aaA (x := a + 1 + Int.tmod (s.getD k 0) (Int.tdiv 65535 (l.length : Int)) - 1) (by rw [hm]; omega)]; omega
  simp only [ajC, aaB, e1, e2, e3, zv, zp, e4, e5]
  refine uT (zo zc) ?_
  refine uN ⟨by omega, by omega⟩ ?_
  refine uN (by rw [hq]; omega) ?_
  refine uN ⟨by omega, by omega⟩ ?_
  refine uB (uB (uB ?_))
  repeat refine uV ?_
  simp only [aaI, e5]
 ·intro a s hs
  simp only [ajC, aaB]
  refine uF (zn zc) ?_
  rfl
theorem aQX (d : DrT) (j : Bool × List Int × Unit) (l : List Int) (hl : 2 ≤ l.length ∧ l.length ≤ 8) (he : aFi l) :
  ∃ t, adK (fun i => (ajB d j (l, ()) i).toO) (0, 0, l, ()) = some (.inr ((2, t, [], ()), ())) ∧ adM t := by
 have hq : Int.tdiv 65535 (l.length : Int) = 65535 / (l.length : Int) := zL zc
 have hq0 : 1 ≤ 65535 / (l.length : Int) := by rw [xw zc]; omega
 have hq1 : 65535 / (l.length : Int) ≤ 65535 := Int.ediv_le_self _ zc
 refine aOM l hl he ?_ ?_
 ·intro k a s hk hs hes h0 h1
  have hg := asU hes k
  have hm : Int.tmod (s.getD k 0) (Int.tdiv 65535 (l.length : Int)) = s.getD k 0 % (65535 / (l.length : Int)) := by rw [hq]; exact zF hg.1
  have m0 := yQ (s.getD k 0) (b := 65535 / (l.length : Int)) zc
  have m1 := yB (s.getD k 0) (b := 65535 / (l.length : Int)) zc
  have e1 : w64 (Int.tdiv 65535 (l.length : Int)) = Int.tdiv 65535 (l.length : Int) := aaA (by rw [hq]; omega)
  have e2 : w64 ((k : Int) + 1) = ((k + 1 : Nat) : Int) := by rw [aaA (x := (k : Int) + 1) zc]; omega
  have e3 : w64 (a + 1) = a + 1 := aaA zc
  have e4 : w64 (a + 1 + Int.tmod (s.getD k 0) (Int.tdiv 65535 (l.length : Int))) = a + 1 + Int.tmod (s.getD k 0) (Int.tdiv 65535 (l.length : Int)) := aaA (by rw [hm]; omega)
  have e5 : w64 (a + 1 + Int.tmod (s.getD k 0) (Int.tdiv 65535 (l.length : Int)) - 1) = a + Int.tmod (s.getD k 0) (Int.tdiv 65535 (l.length : Int)) := by rw [aaA (x := a + 1 + Int.tmod (s.getD k 0) (Int.tdiv 65535 (l.length : Int)) - 1) (by rw [hm]; omega)]; omega
  simp only [ajB, aaB, e1, e2, e3, zv, zp, e4, e5]
  refine uT (zo zc) ?_
  refine uN ⟨by omega, by omega⟩ ?_
  refine uN (by rw [hq]; omega) ?_
  refine uN ⟨by omega, by omega⟩ ?_
  refine uB (uB (uB ?_))
  repeat refine uV ?_
  simp only [aaI, e5]
 ·intro a s hs
  simp only [ajB, aaB]
  refine uF (zn zc) ?_
  rfl
theorem aQZ (d : DrT) (b : Bool) (l : List Int) (hl : l.length ≤ 8) (he : aFi l) (hb : b = true → l = []) :
  ∃ t, (ajD d (b, l, ())).toO = some ((2, t, [], ()), ()) ∧ adM t := by
 cases b
 ·suffices H : ∃ a, adK (fun i => (anO d (false, l, ()) i).toO) (l, ()) = some a ∧ ∃ t, a = ((2, t, [], ()), ()) ∧ adM t by
   obtain ⟨a, h1, t, rfl, h2⟩ := H
   refine ⟨t, ?_, h2⟩
   simp only [ajD]
   refine uF rfl ?_
   exact uO (l, ()) (uB rfl) h1
  refine ac8 (fun i => i.1.length ≤ 8 ∧ aFi i.1) (fun i => 2 - i.1.length) _ ?_ (l, ()) ⟨hl, he⟩
  rintro ⟨l, u⟩ ⟨h1, h2⟩
  simp only at h1 h2
  simp only [anO, aaB, zt]
  rcases zr l.length 2 with hk | hk
  ·left
   have e1 : w64 (65535 * (l.length : Int)) = 65535 * (l.length : Int) := aaA zc
   refine ⟨(l ++ [65535 * (l.length : Int)], ()), ?_, ⟨by rw [zH]; simp only [zG, yR]; omega, aEI h2 zc⟩, by simp only [zH, zG, yR]; omega⟩
   refine uT (zo zc) ?_
   simp only [e1]
   repeat refine zb ?_
   rfl
  ·right
   rcases (xm d.2.2.2.2.1).symm with hd | hd
   ·refine ⟨_, uF (zn zc) (uF hd ?_), l, rfl, hk, by omega, h2⟩
    repeat refine zb ?_
    rfl
   ·obtain ⟨t, h3, h4⟩ := aQX d (false, l, ()) l ⟨hk, h1⟩ h2
    refine ⟨_, uF (zn zc) (uT hd ?_), t, rfl, h4⟩
    repeat refine zb ?_
    refine uO (0, 0, l, ()) ?_ ?_
    ·repeat refine zb ?_
     rfl
    ·exact h3
 ·suffices H : ∃ a, adK (fun i => (anP d (true, l, ()) i).toO) (true, [], ()) = some a ∧ ∃ t, a = ((2, t, [], ()), ()) ∧ adM t by
   obtain ⟨a, h1, t, rfl, h2⟩ := H
   refine ⟨t, ?_, h2⟩
   simp only [ajD]
   refine uT rfl ?_
   exact uO (true, [], ()) rfl h1
  refine ac8 (fun i => i.2.1.length ≤ 8 ∧ aFi i.2.1 ∧ (i.1 = true → i.2.1 = [])) (fun i => 2 - i.2.1.length) _ ?_ (true, [], ()) ⟨by simp, (by intro v hv; cases hv), fun _ => rfl⟩
  rintro ⟨b, l, u⟩ ⟨h1, h2, h5⟩
  simp only at h1 h2 h5
  simp only [anP, aaB, zt]
  cases b
  ·rcases zr l.length 2 with hk | hk
   ·left
    have e1 : w64 (65535 * (l.length : Int)) = 65535 * (l.length : Int) := aaA zc
    refine ⟨(false, l ++ [65535 * (l.length : Int)], ()), ?_, ⟨by rw [zH]; simp only [zG, yR]; omega, aEI h2 zc, by intro h; cases h⟩, by simp only [zH, zG, yR]; omega⟩
    refine uF rfl (uT (zo zc) ?_)
    simp only [e1]
    repeat refine zb ?_
    rfl
   ·right
    rcases (xm d.2.2.2.2.1).symm with hd | hd
    ·refine ⟨_, uF rfl (uF (zn zc) (uF hd ?_)), l, rfl, hk, by omega, h2⟩
     repeat refine zb ?_
     rfl
    ·obtain ⟨t, h3, h4⟩ := aQY d (true, ‹List Int›, ()) false l ⟨hk, h1⟩ h2
     refine ⟨_, uF rfl (uF (zn zc) (uT hd ?_)), t, rfl, h4⟩
     repeat refine zb ?_
     refine uO (0, 0, l, ()) ?_ ?_
     ·repeat refine zb ?_
      rfl
     ·exact h3
  ·left
   have := h5 rfl
   subst this
   refine ⟨(false, [0], ()), ?_, ⟨by simp, by intro v hv; rw [ya.mp hv]; decide, by intro h; cases h⟩, by simp⟩
   refine uT rfl ?_
   repeat refine zb ?_
   rfl
theorem aQW (d : DrT) (hd : aVb d) : ∃ t, ai0 (d, ()) = some ((2, t, [], ()), ()) ∧ adM t := by
 suffices H : ∃ a, adK (fun i => (anQ d i).toO) (0, true, [], ()) = some a ∧ ∃ b l, a = .inl (b, l, ()) ∧ l.length ≤ 8 ∧ aFi l ∧ (b = true → l = []) by
  obtain ⟨a, h1, b, l, rfl, h2, h3, h4⟩ := H
  obtain ⟨t, h5, h6⟩ := aQZ d b l h2 h3 h4
  refine ⟨t, ?_, h6⟩
  simp only [ai0, al0]
  exact uL (b, l, ()) (uO (0, true, [], ()) rfl h1) h5
 refine ac8 (fun i => ∃ k : Nat, k ≤ 8 ∧ i.1 = (k : Int) ∧ i.2.2.1.length = k ∧ aFi i.2.2.1 ∧ (i.2.1 = true → i.2.2.1 = [] )) (fun i => (8 - i.1).toNat) _ ?_ _ ⟨0, by omega, rfl, rfl, (by intro v hv; cases hv), fun _ => rfl⟩
 rintro ⟨i, b, l, u⟩ ⟨k, h1, h2, h3, h4, h5⟩
 simp only at h2 h3 h4 h5
 subst h2
 simp only [anQ, aiJ, aaB, zt, aaL]
 have hg := asU hd.2.1 k
 have e0 : w64 (d.2.1.getD k 0) = d.2.1.getD k 0 := aaA zc
 have e2 : w64 ((k : Int) + 1) = ((k + 1 : Nat) : Int) := by rw [aaA (x := (k : Int) + 1) zc]; omega
 simp only [e0, e2]
 by_cases c1 : (k : Int) < d.2.1.length
 ·by_cases c2 : (k : Int) < 8
  ·left
   refine ⟨(((k + 1 : Nat) : Int), false, l ++ [d.2.1.getD k 0], ()), ?_, ⟨k + 1, by omega, rfl, by simp [h3], aEI h4 hg, by intro h; cases h⟩, by simp only; omega⟩
   cases b
   ·refine uF rfl (uT (zo c1) (uT (zo c2) ?_))
    repeat refine zb ?_
    rfl
   ·have := h5 rfl
    subst this
    refine uT rfl (uT (zo c1) (uT (zo c2) ?_))
    repeat refine zb ?_
    rfl
  ·right
   cases b
   ·refine ⟨_, uF rfl (uT (zo c1) (uF (zn c2) ?_)), false, l, rfl, by omega, h4, by intro h; cases h⟩
    repeat refine zb ?_
    rfl
   ·refine ⟨_, uT rfl (uT (zo c1) (uF (zn c2) ?_)), true, [], rfl, by simp, (by intro v hv; cases hv), fun _ => rfl⟩
    repeat refine zb ?_
    rfl
 ·right
  cases b
  ·refine ⟨_, uF rfl (uF (zn c1) ?_), false, l, rfl, by omega, h4, by intro h; cases h⟩
   repeat refine zb ?_
   rfl
  ·refine ⟨_, uT rfl (uF (zn c1) ?_), true, [], rfl, by simp, (by intro v hv; cases hv), fun _ => rfl⟩
   repeat refine zb ?_
   rfl
def aVa : Int → List adI → Int → Prop
 | last, [], t => t = last
 | last, s :: r, t => akL last s ∧ aVa s.1 r t
theorem aKR : ∀ (l : List adI) (last t : Int) (s : adI), aVa last l t → akL t s → aVa last (l ++ [s]) s.1
 | [], last, t, s, h, hs => by
  have : t = last := h
  subst this; exact ⟨hs, rfl⟩
 | x :: r, last, t, s, h, hs => ⟨h.1, aKR r x.1 t s h.2 hs⟩
theorem aKQ : ∀ (l : List adI) (last t : Int), aVa last l t → 1 ≤ l.length → t < 1000000 → ahJ last (l.set (l.length - 1) (1000000, (l.getD (l.length - 1) (0, 0, 0, 0, 0, 0, ())).2))
 | [], _, _, _, h, _ => absurd h zf
 | [s], last, t, h, _, ht => by
  have h2 : t = s.1 := h.2
  obtain ⟨h3, h4⟩ := h.1
  exact ⟨⟨h3, ⟨by have := h4.1; omega, by show (1000000 : Int) ≤ 1000000; omega⟩⟩, rfl⟩
 | s :: x :: r, last, t, h, _, ht => by
  have := aKQ (x :: r) s.1 t h.2 zi ht
  simp only [zG, xB] at this ⊢
  exact ⟨h.1, by simpa using this⟩
theorem ax5 {a b : Int} (ha : inR a 1 36) (hb : inR b 1 12) : abH (a, b, ()) = some (!decide (Nat.gcd a.natAbs b.natAbs = 1), ()) := by
 unfold abH
 rw [if_pos ⟨ha, hb⟩]
theorem aJT (d : DrT) (hd : aVb d) : ∃ l, agL (d, ()) = some ((3, [], l, ()), ()) ∧ acA l := by
 suffices H : ∃ a, adK (fun i => (aj8 d i).toO) (0, 0, true, [], ()) = some a ∧ ∃ l, a = ((3, [], l, ()), ()) ∧ acA l by
  obtain ⟨a, h1, l, rfl, h2⟩ := H
  refine ⟨l, ?_, h2⟩
  simp only [agL, ahZ]
  exact uO (0, 0, true, [], ()) (uB rfl) h1
 obtain ⟨n, hn⟩ : ∃ n : Nat, n = (if 3 < d.2.2.1.length then 3 else d.2.2.1.length) := ⟨_, rfl⟩
 have hnz : (if 3 < len d.2.2.1 then 3 else len d.2.2.1) = (n : Int) := by
  rw [hn]
  by_cases h : 3 < d.2.2.1.length
  ·rw [if_pos h]; exact (if_pos (by rw [aaB]; omega)).trans rfl
  ·rw [if_neg h]; exact (if_neg (by rw [aaB]; omega)).trans rfl
 have hn3 : n ≤ 3 := by rw [hn]; split <;> omega
 have hnl : n ≤ d.2.2.1.length := by rw [hn]; split <;> omega
 clear hn
 refine ac8 (fun i : Int × Int × Bool × List adI × Unit => ∃ k : Nat, k ≤ n ∧ i.1 = (k : Int) ∧ i.2.2.2.1.length = k ∧ (i.2.2.1 = true → i.2.2.2.1 = []) ∧ (i.2.2.1 = false → 1 ≤ k) ∧ 0 ≤ i.2.1 ∧ i.2.1 ≤ 256000 * (k : Int) ∧ aVa 0 i.2.2.2.1 i.2.1) (fun i => (3 - i.1).toNat) _ ?_ _ ⟨0, by omega, rfl, rfl, fun _ => rfl, (by intro h; cases h), vA _, (by show (0 : Int) ≤ _; omega), rfl⟩
 rintro ⟨i, t, b, l, u⟩ ⟨k, h1, h2, h3, h4, h5, h6, h7, h8⟩
 simp only at h2 h3 h4 h5 h6 h7 h8
 subst h2
 simp only [aj8, agQ, gP, hnz, aaL, zt]
 rcases zr k n with hk | hk
 ·left
  have hmem : d.2.2.1.getD k (0, 0, 0, 0, 0, 0, ()) ∈ d.2.2.1 := by
   rw [yp, zS zc]; exact ym _
  obtain ⟨p, hp⟩ : ∃ p, p = d.2.2.1.getD k (0, 0, 0, 0, 0, 0, ()) := ⟨_, rfl⟩
  have hpb := hd.2.2 p (by rw [hp]; exact hmem)
  simp only [← hp]
  clear hp hmem
  obtain ⟨w, m, a, o, nu, de, uu⟩ := p
  obtain ⟨b1, b2, b3, b4, b5, b6⟩ := hpb
  simp only [inR] at b1 b2 b3 b4 b5 b6 ⊢
  have q1 : w64 w = w := aaA zc
  have q2 : w64 m = m := aaA zc
  have q3 : w64 a = a := aaA zc
  have q4 : w64 o = o := aaA zc
  have q5 : Int.tmod nu 4 = nu % 4 := zF zc
  have q6 : Int.tmod de 4 = de % 4 := zF zc
  have q7 : w64 (nu % 4) = nu % 4 := aaA zc
  have q8 : w64 (de % 4) = de % 4 := aaA zc
  have q9 : w64 (1 + nu % 4) = 1 + nu % 4 := aaA zc
  have q10 : w64 (1 + de % 4) = 1 + de % 4 := aaA zc
  have q11 : w64 (t + 1000) = t + 1000 := aaA zc
  have q12 : w64 (1000 * w) = 1000 * w := aaA zc
  have q13 : w64 (t + 1000 + 1000 * w) = t + 1000 + 1000 * w := aaA zc
  have q14 : w64 (100 * m) = 100 * m := aaA zc
  have q15 : w64 (10 * a) = 10 * a := aaA zc
  have q16 : w64 (10 * o) = 10 * o := aaA zc
  have q17 : w64 (0 - 100 * m) = 0 - 100 * m := aaA zc
  have q18 : w64 (0 - 10 * a) = 0 - 10 * a := aaA zc
  have q19 : w64 ((k : Int) + 1) = ((k + 1 : Nat) : Int) := by rw [aaA (x := (k : Int) + 1) zc]; omega
  simp only [q1, q2, q3, q4, q5, q6, q7, q8, q9, q10, q11, q12, q13, q14, q15, q16, q17, q18, q19]
  have inv : ∀ M A N D : Int, inR M (-100000000) 100000000 → inR A (-100000000) 100000000 → inR N 1 36 → inR D 1 12 → Nat.gcd N.natAbs D.natAbs = 1 →
    (∃ k' : Nat, k' ≤ n ∧ ((k + 1 : Nat) : Int) = (k' : Int) ∧ (l ++ [((t + 1000 + 1000 * w, M, A, N, D, 10 * o, ()) : adI)]).length = k' ∧ ((false = true) → l ++ [((t + 1000 + 1000 * w, M, A, N, D, 10 * o, ()) : adI)] = []) ∧ (false = false → 1 ≤ k') ∧ 0 ≤ t + 1000 + 1000 * w ∧ t + 1000 + 1000 * w ≤ 256000 * (k' : Int) ∧ aVa 0 (l ++ [((t + 1000 + 1000 * w, M, A, N, D, 10 * o, ()) : adI)]) (t + 1000 + 1000 * w)) := by
   intro M A N D c1 c2 c3 c4 c5
   refine ⟨k + 1, hk, rfl, by simp [h3], (by intro h; cases h), (by intro _; omega), by omega, by omega, ?_⟩
   exact aKR l 0 t (t + 1000 + 1000 * w, M, A, N, D, 10 * o, ()) h8 ⟨⟨c1, c2, ⟨by show -100000000 ≤ 10 * o; omega, by show 10 * o ≤ 100000000; omega⟩, c3, c4, c5⟩, ⟨by show t + 1 ≤ t + 1000 + 1000 * w; omega, by show t + 1000 + 1000 * w ≤ 1000000; omega⟩⟩
  have n1 : inR (1 : Int) 1 36 := zf
  have n2 : inR (1 : Int) 1 12 := zf
  have n3 : inR (1 + nu % 4) 1 36 := ⟨by omega, by omega⟩
  have n4 : inR (1 + de % 4) 1 12 := ⟨by omega, by omega⟩
  have n5 : inR (100 * m) (-100000000) 100000000 := ⟨by omega, by omega⟩
  have n6 : inR (10 * a) (-100000000) 100000000 := ⟨by omega, by omega⟩
  have n7 : inR (if 0 - 100 * m > 100 * m then 0 - 100 * m else 100 * m) (-100000000) 100000000 := by split <;> exact ⟨by omega, by omega⟩
  have n8 : inR (if 0 - 10 * a > 10 * a then 0 - 10 * a else 10 * a) (-100000000) 100000000 := by split <;> exact ⟨by omega, by omega⟩
  have g1 : ∀ D : Int, Nat.gcd (1 : Int).natAbs D.natAbs = 1 := fun D => Nat.gcd_one_left _
  have g2 : ∀ N : Int, Nat.gcd N.natAbs (1 : Int).natAbs = 1 := fun N => Nat.gcd_one_right _
  rcases (xm d.2.2.2.1).symm with hr | hr <;> rcases (xm d.2.2.2.2.1).symm with hi | hi <;> by_cases g : Nat.gcd (1 + nu % 4).natAbs (1 + de % 4).natAbs = 1
  all_goals
   cases b
   ·apply Exists.intro
    refine ⟨?_, ?_, ?_⟩
    ·refine uF rfl (uT (zo zc) (uN ⟨by omega, by rw [aaB]; omega⟩ ?_))
     first | refine uT hr ?_ | refine uF hr ?_
     first | refine uT hi ?_ | refine uF hi ?_
     first | refine uC _ (ax5 n3 n4) ?_ | refine uC _ (ax5 n3 n2) ?_
     first | refine uF (congrArg Bool.not (zo g)) ?_ | refine uF (congrArg Bool.not (zo (g2 _))) ?_ | refine uT (congrArg Bool.not (zn g)) ?_
     repeat refine zb ?_
     rfl
    ·exact inv _ _ _ _ zg zg zg zg (by first | exact g | exact g2 _ | exact g1 _)
    ·show (3 - ((k + 1 : Nat) : Int)).toNat < (3 - (k : Int)).toNat; omega
   ·have := h4 rfl
    subst this
    apply Exists.intro
    refine ⟨?_, ?_, ?_⟩
    ·refine uT rfl (uT (zo zc) (uN ⟨by omega, by rw [aaB]; omega⟩ ?_))
     first | refine uT hr ?_ | refine uF hr ?_
     first | refine uT hi ?_ | refine uF hi ?_
     first | refine uC _ (ax5 n3 n4) ?_ | refine uC _ (ax5 n3 n2) ?_
     first | refine uF (congrArg Bool.not (zo g)) ?_ | refine uF (congrArg Bool.not (zo (g2 _))) ?_ | refine uT (congrArg Bool.not (zn g)) ?_
     repeat refine zb ?_
     rfl
    ·exact inv _ _ _ _ zg zg zg zg (by first | exact g | exact g2 _ | exact g1 _)
    ·show (3 - ((k + 1 : Nat) : Int)).toNat < (3 - (k : Int)).toNat; omega
 ·right
  obtain rfl : k = n := zc
  have e0 : w64 (1 - 1) = 0 := aaA zc
  cases b
  ·have h5 := h5 rfl
   rcases (xm d.2.2.2.2.1).symm with hi | hi
   ·have e1 : w64 ((k : Int) - 1) = ((k - 1 : Nat) : Int) := by rw [aaA (x := (k : Int) - 1) zc]; omega
    refine ⟨_, uF rfl (uF (zn zc) (uF (beq_eq_false_iff_ne.mpr zc) (uF hi (uN ?_ rfl)))), _, rfl, ?_⟩
    ·rw [e1, aaB]; exact ⟨by omega, by omega⟩
    ·rw [e1, zp, zv, ← h3, zy (by rw [yY]; omega)]
     refine ⟨by rw [yY]; omega, by rw [yY]; omega, aKQ l 0 t h8 zc zc⟩
   ·refine ⟨_, uF rfl (uF (zn zc) (uF (beq_eq_false_iff_ne.mpr zc) (uT hi (uN ?_ rfl)))), _, rfl, ?_⟩
    ·rw [aaB]; exact ⟨by simp only [asT]; omega, by omega⟩
    ·rw [e0]
     obtain ⟨s, r, rfl⟩ : ∃ s r, l = s :: r := by
      cases l with
      | nil => simp at h3; omega
      | cons s r => exact ⟨s, r, rfl⟩
     show acA [((1000000, s.2) : adI)]
     exact ⟨zq 1, by show 1 ≤ 4; omega, ⟨h8.1.1, ⟨by show (0 : Int) + 1 ≤ 1000000; omega, by show (1000000 : Int) ≤ 1000000; omega⟩⟩, rfl⟩
  ·have := h4 rfl
   subst this
   have : k = 0 := h3.symm
   subst this
   rcases (xm d.2.2.2.2.1).symm with hi | hi
   ·refine ⟨_, uT rfl (uF (zn zc) (uT rfl (uF hi rfl))), _, rfl, ?_⟩
    rw [e0]; decide
   ·refine ⟨_, uT rfl (uF (zn zc) (uT rfl (uT hi rfl))), _, rfl, ?_⟩
    rw [e0]; decide
theorem aTI (d : DrT) (hd : aVb d) : ∃ c, ak9 (d, ()) = some (c, ()) ∧ abJ c := by
 obtain ⟨k, ta, pa, ro, ri, u⟩ := d
 obtain ⟨l1, e1, o1⟩ := aQW _ hd
 obtain ⟨l2, e2, o2⟩ := aJT _ hd
 simp only [ak9, ao7]
 by_cases c0 : Int.tmod k 4 = 0
 ·exact ⟨(1, [], [], ()), uT (yA.mpr c0) rfl, Or.inl ⟨rfl, rfl, rfl⟩⟩
 ·by_cases c1 : Int.tmod k 4 = 1
  ·refine ⟨(3, [], l2, ()), uF (beq_eq_false_iff_ne.mpr c0) (uT (yA.mpr c1) (uC _ e2 ?_)), Or.inr (Or.inr ⟨rfl, rfl, o2⟩)⟩
   repeat refine zb ?_
   rfl
  ·refine ⟨(2, l1, [], ()), uF (beq_eq_false_iff_ne.mpr c0) (uF (beq_eq_false_iff_ne.mpr c1) (uC _ e1 ?_)), Or.inr (Or.inl ⟨rfl, o1, rfl⟩)⟩
   repeat refine zb ?_
   rfl
theorem aDQ (d : DrT) (y) (h : ai0 (d, ()) = some y) : (al0 d).toO = some y := h
theorem ayV (d : DrT) (y) (h : agL (d, ()) = some y) : (ahZ d).toO = some y := h
theorem aFJ (d : DrT) (y) (h : ak9 (d, ()) = some y) : (ao7 d).toO = some y := h
set_option maxRecDepth 100000
open Go Go.Vg Go.Proofs
noncomputable section
abbrev bT (l : List Int) : List Int := List.take 0 [] ++ List.take (Int.toNat (if 20 < len l then 20 else len l)) l
abbrev bTn (l : List Int) : Nat := 0 + List.length (List.take (Int.toNat (if 20 < len l then 20 else len l)) l)
abbrev bS (l : List (Int × Int × Int × Int × Int × Int × Unit)) : List (Int × Int × Int × Int × Int × Int × Unit) := List.take 0 [] ++ List.take (Int.toNat (if 8 < len l then 8 else len l)) l
abbrev bSn (l : List (Int × Int × Int × Int × Int × Int × Unit)) : Nat := 0 + List.length (List.take (Int.toNat (if 8 < len l then 8 else len l)) l)
abbrev bI (b : Int × Int × Int × Unit) (l : List (Int × Int × Int × Int × Int × Int × Unit)) : Nat := 0 + Int.toNat (Int.tmod (w64 b.2.1) (↑(bSn l) : Int))
abbrev bG (b : Int × Int × Int × Unit) (l : List (Int × Int × Int × Int × Int × Int × Unit)) : Int × Int × Int × Int × Int × Int × Unit := List.getD (bS l) (bI b l) (0, 0, 0, 0, 0, 0, ())
def aQk : LTab := [(37, 15740, 40962, ⟨0, (List Int) × Unit, .app (.c 1 1) 40 3 uq <| .nil, [17, 5, 4, 3, 2], [24, 2, 1, 0], 1⟩), (37, 1007612, 47106, ⟨1, (List uo) × Unit, .dat (.c 1 2) (Ty.sl tf) <| .nil, [5, 4, 3, 2], [14, 2, 1, 0], 1⟩)]
def aCM (b : Int × Int × Int × Unit) (c : Int × List Int × List uo × Unit) (i : (List Int) × Unit) : TT (tW ⊕ ti) :=
 .triv (asT Int 3 ≠ 0) zf <| .ite (decide (len i.1 < w64 (16 + Int.tmod (w64 b.2.1) 3)))
 (.need ((List.length i.1 + 1) * 8 ≤ 140737488355328) <| .tt <| .lt (List.take (List.length i.1) i.1 ++ [w64 (7 * len i.1)] : List Int) fun z1 => .vW (ud (Int.tmod b.1 12) (w64 b.2.1 : Int) <| uK ∧ uD ∧ ux ∧ True) <| .need ((((3 : TypeId) = 3) ∧ ((z1 : List Int) = z1)) ∧ (true = true) ∧ (((64 : TypeId) = 64) ∧ ((bS c.2.2.1 : List uo) = bS c.2.2.1)) ∧ (true = true) ∧ (((42 : TypeId) = 42) ∧ (((0 : Int) = 0) ∧ (True ∧ (True ∧ True)))) ∧ (true = true) ∧ (((42 : TypeId) = 42) ∧ (((c.1 : Int) = c.1) ∧ ((((40) = (40)) ∧ (((0) = (0)) ∧ ((List.length i.1 + 1 = List.length z1) ∧ ((true) = (true))))) ∧ ((((24) = (24)) ∧ (((0) = (0)) ∧ (((bSn c.2.2.1) = (bSn c.2.2.1)) ∧ ((true) = (true))))) ∧ True)))) ∧ (true = true) ∧ (((27 : TypeId) = 27) ∧ (((b.1 : Int) = b.1) ∧ (((b.2.1 : Int) = b.2.1) ∧ (((b.2.2.1 : Int) = b.2.2.1) ∧ True)))) ∧ (true = true) ∧ True) <| .ok (.inl ((z1, ()))))
 (.ok (.inr (((c.1, List.take (List.length i.1) i.1, List.take (bSn c.2.2.1) (bS c.2.2.1), ()), ()))))
def aCL (b : Int × Int × Int × Unit) (c : Int × List Int × List uo × Unit) (i1 : (List uo) × Unit) : TT (((List uo) × Unit) ⊕ ti) :=
 .triv (asT Int 2 ≠ 0) zf <| .ite (decide (len i1.1 < w64 (4 + Int.tmod (w64 b.2.1) 2)))
 (.need ((1 + List.length i1.1) * 48 ≤ 140737488355328) <| .tt <| .lt (List.take (1 + List.length i1.1) ([(w64 (1 + len i1.1), 0, 0, 1, 1, 0, ())] ++ i1.1) : List uo) fun z3 => .vW (vX (w64 b.2.1 : Int) <| uK ∧ uD ∧ ux ∧ True) <| .vW (vV (ua 3 (bT c.2.1 : List Int)) <| vV (ud 42 (0 : Int) <| True ∧ True ∧ True) <| vV (ud 42 c.1 <| (ub 14 0 (bTn c.2.1) true) ∧ uf z3) <| vV (vY 27 b.1 b.2.1 b.2.2.1) True) <| .ok (.inl ((z3, ()))))
 (.ok (.inr (((c.1, List.take (bTn c.2.1) (bT c.2.1), i1.1, ()), ()))))
def an4 (b : Int × Int × Int × Unit) (c : Int × List Int × List uo × Unit) : TT ti :=
 .tt <| .tt <| .need (inc (if 20 < len c.2.1 then 20 else len c.2.1) (len c.2.1)) <| .need ((bTn c.2.1) * 8 ≤ 140737488355328) <| .need (inc (if 8 < len c.2.2.1 then 8 else len c.2.2.1) (len c.2.2.1)) <| .need ((bSn c.2.2.1) * 48 ≤ 140737488355328) <| .triv (asT Int 12 ≠ 0) zf <| .ite (Int.tmod b.1 12 == 0)
 (.ok (((b.2.2.1, List.take (bTn c.2.1) (bT c.2.1), List.take (bSn c.2.2.1) (bS c.2.2.1), ()), ())))
 (.ite (Int.tmod b.1 12 == 1)
 (.ite (decide ((↑(bTn c.2.1) : Int) > 0))
 (.need ((↑(bTn c.2.1) : Int) ≠ 0) <| .need (inb (Int.tmod (w64 b.2.1) (↑(bTn c.2.1) : Int)) (↑(bTn c.2.1) : Int)) <| .ok (((c.1, List.take (bTn c.2.1) (List.set (bT c.2.1) (0 + Int.toNat (Int.tmod (w64 b.2.1) (↑(bTn c.2.1) : Int))) b.2.2.1), List.take (bSn c.2.2.1) (bS c.2.2.1), ()), ())))
 (.ok (((c.1, List.take (bTn c.2.1) (bT c.2.1), List.take (bSn c.2.2.1) (bS c.2.2.1), ()), ()))))
 (.ite (Int.tmod b.1 12 == 2)
 (.loop 0 (.tt <| .lt (bT c.2.1 : List Int) fun z => .vW (ud (Int.tmod b.1 12) (w64 b.2.1 : Int) <| uK ∧ uD ∧ ux ∧ True) <| .need ((((3 : TypeId) = 3) ∧ ((z : List Int) = z)) ∧ (true = true) ∧ (((64 : TypeId) = 64) ∧ ((bS c.2.2.1 : List uo) = bS c.2.2.1)) ∧ (true = true) ∧ (((42 : TypeId) = 42) ∧ (((0 : Int) = 0) ∧ (True ∧ (True ∧ True)))) ∧ (true = true) ∧ (((42 : TypeId) = 42) ∧ (((c.1 : Int) = c.1) ∧ ((((40) = (40)) ∧ (((0) = (0)) ∧ ((bTn c.2.1 = List.length z) ∧ ((true) = (true))))) ∧ ((((24) = (24)) ∧ (((0) = (0)) ∧ (((bSn c.2.2.1) = (bSn c.2.2.1)) ∧ ((true) = (true))))) ∧ True)))) ∧ (true = true) ∧ (((27 : TypeId) = 27) ∧ (((b.1 : Int) = b.1) ∧ (((b.2.1 : Int) = b.2.1) ∧ (((b.2.2.1 : Int) = b.2.2.1) ∧ True)))) ∧ (true = true) ∧ True) <| .ok ((z, ()))) (aCM b c))
 (.ite (Int.tmod b.1 12 == 3)
 (.triv (asT Int 3 ≠ 0) zf <| .need (inc (if Int.tmod (w64 b.2.1) 3 < (↑(bTn c.2.1) : Int) then Int.tmod (w64 b.2.1) 3 else (↑(bTn c.2.1) : Int)) (↑(bTn c.2.1) : Int)) <| .ok (((c.1, List.take (Int.toNat (if Int.tmod (w64 b.2.1) 3 < (↑(bTn c.2.1) : Int) then Int.tmod (w64 b.2.1) 3 else (↑(bTn c.2.1) : Int))) (bT c.2.1), List.take (bSn c.2.2.1) (bS c.2.2.1), ()), ())))
 (.ite (Int.tmod b.1 12 == 4)
 (.need ((bSn c.2.2.1 + 1) * 48 ≤ 140737488355328) <| .ok (((c.1, List.take (bTn c.2.1) (bT c.2.1), List.take (bSn c.2.2.1 + 1) (List.take (bSn c.2.2.1) (bS c.2.2.1) ++ [(1000000, 0, 0, 1, 1, 0, ())]), ()), ())))
 (.ite (Int.tmod b.1 12 == 5)
 (.loop 1 (.tt <| .lt (List.take (bSn c.2.2.1) (bS c.2.2.1) : List uo) fun z2 => .vW (vX (w64 b.2.1 : Int) <| uK ∧ uD ∧ ux ∧ True) <| .vW (vV (ua 3 (bT c.2.1 : List Int)) <| vV (ud 42 (0 : Int) <| True ∧ True ∧ True) <| vV (ud 42 c.1 <| (ub 14 0 (bTn c.2.1) true) ∧ uf z2) <| vV (vY 27 b.1 b.2.1 b.2.2.1) True) <| .ok ((z2, ()))) (aCL b c))
 (.ite (decide ((↑(bSn c.2.2.1) : Int) > 0))
 (.need ((↑(bSn c.2.2.1) : Int) ≠ 0) <| .need (inb (Int.tmod (w64 b.2.1) (↑(bSn c.2.2.1) : Int)) (↑(bSn c.2.2.1) : Int)) <| .triv (asT Int 12 ≠ 0) zf <| .need (inb (wu8 (Int.tmod b.1 12 - 6)) (↑6 : Int)) <| .ite (wu8 (Int.tmod b.1 12 - 6) == (↑5 : Int))
 (.ok (((c.1, List.take (bTn c.2.1) (bT c.2.1), List.take (bSn c.2.2.1) (List.set (bS c.2.2.1) (bI b c.2.2.1) ((bG b c.2.2.1).1, (bG b c.2.2.1).2.1, (bG b c.2.2.1).2.2.1, (bG b c.2.2.1).2.2.2.1, (bG b c.2.2.1).2.2.2.2.1, b.2.2.1, (bG b c.2.2.1).2.2.2.2.2.2)), ()), ())))
 (.ite (wu8 (Int.tmod b.1 12 - 6) == (↑4 : Int))
 (.ok (((c.1, List.take (bTn c.2.1) (bT c.2.1), List.take (bSn c.2.2.1) (List.set (bS c.2.2.1) (bI b c.2.2.1) ((bG b c.2.2.1).1, (bG b c.2.2.1).2.1, (bG b c.2.2.1).2.2.1, (bG b c.2.2.1).2.2.2.1, b.2.2.1, (bG b c.2.2.1).2.2.2.2.2)), ()), ())))
 (.ite (wu8 (Int.tmod b.1 12 - 6) == (↑3 : Int))
 (.ok (((c.1, List.take (bTn c.2.1) (bT c.2.1), List.take (bSn c.2.2.1) (List.set (bS c.2.2.1) (bI b c.2.2.1) ((bG b c.2.2.1).1, (bG b c.2.2.1).2.1, (bG b c.2.2.1).2.2.1, b.2.2.1, (bG b c.2.2.1).2.2.2.2)), ()), ())))
 (.ite (wu8 (Int.tmod b.1 12 - 6) == (↑2 : Int))
 (.ok (((c.1, List.take (bTn c.2.1) (bT c.2.1), List.take (bSn c.2.2.1) (List.set (bS c.2.2.1) (bI b c.2.2.1) ((bG b c.2.2.1).1, (bG b c.2.2.1).2.1, b.2.2.1, (bG b c.2.2.1).2.2.2)), ()), ())))
 (.ite (wu8 (Int.tmod b.1 12 - 6) == (↑1 : Int))
 (.ok (((c.1, List.take (bTn c.2.1) (bT c.2.1), List.take (bSn c.2.2.1) (List.set (bS c.2.2.1) (bI b c.2.2.1) ((bG b c.2.2.1).1, b.2.2.1, (bG b c.2.2.1).2.2)), ()), ())))
 (.ite (wu8 (Int.tmod b.1 12 - 6) == (↑0 : Int))
 (.ok (((c.1, List.take (bTn c.2.1) (bT c.2.1), List.take (bSn c.2.2.1) (List.set (bS c.2.2.1) (bI b c.2.2.1) (b.2.2.1, (bG b c.2.2.1).2)), ()), ())))
 (.bad)))))))
 (.ok (((c.1, List.take (bTn c.2.1) (bT c.2.1), List.take (bSn c.2.2.1) (bS c.2.2.1), ()), ())))))))))
end
noncomputable section
abbrev BeT := Int × Int × Int × Unit
def aoR (x : BeT × CvT × Unit) : Option (CvT × Unit) := (an4 x.1 x.2.1).toO
end
set_option maxRecDepth 100000
open Go Go.Vg Go.Proofs
noncomputable section
def aM7 : LTab := []
def akV (d : Int × List Int × List uo × Bool × Bool × Unit) (b : List (Int × Int × Int × Unit)) : TT (List uw × Unit) :=
 .call (ak9 ((d.1, d.2.1, d.2.2.1, d.2.2.2.1, d.2.2.2.2.1, ()), ())) aOc fun y =>
 .triv (asT Int 0 ≤ 0 ∧ 0 < (↑2 : Int)) zf <| .call (aoR (((List.headD b (0, 0, 0, ())).1, (List.headD b (0, 0, 0, ())).2.1, (List.headD b (0, 0, 0, ())).2.2.1, ()), (y.1.1, y.1.2.1, y.1.2.2.1, ()), ())) aOc fun y1 =>
 .triv (asT Int 0 ≤ 1 ∧ 1 < (↑2 : Int)) zf <| .call (aoR (((List.headD (List.tail b) (0, 0, 0, ())).1, (List.headD (List.tail b) (0, 0, 0, ())).2.1, (List.headD (List.tail b) (0, 0, 0, ())).2.2.1, ()), (y1.1.1, y1.1.2.1, y1.1.2.2.1, ()), ())) aOc fun y2 =>
 .ok (([((List.headD [(y.1.1, y.1.2.1, y.1.2.2.1, ()), (y1.1.1, y1.1.2.1, y1.1.2.2.1, ()), (y2.1.1, y2.1.2.1, y2.1.2.2.1, ())] (0, [], [], ())).1, (List.headD [(y.1.1, y.1.2.1, y.1.2.2.1, ()), (y1.1.1, y1.1.2.1, y1.1.2.2.1, ()), (y2.1.1, y2.1.2.1, y2.1.2.2.1, ())] (0, [], [], ())).2.1, (List.headD [(y.1.1, y.1.2.1, y.1.2.2.1, ()), (y1.1.1, y1.1.2.1, y1.1.2.2.1, ()), (y2.1.1, y2.1.2.1, y2.1.2.2.1, ())] (0, [], [], ())).2.2.1, ()), ((List.headD (List.tail [(y.1.1, y.1.2.1, y.1.2.2.1, ()), (y1.1.1, y1.1.2.1, y1.1.2.2.1, ()), (y2.1.1, y2.1.2.1, y2.1.2.2.1, ())]) (0, [], [], ())).1, (List.headD (List.tail [(y.1.1, y.1.2.1, y.1.2.2.1, ()), (y1.1.1, y1.1.2.1, y1.1.2.2.1, ()), (y2.1.1, y2.1.2.1, y2.1.2.2.1, ())]) (0, [], [], ())).2.1, (List.headD (List.tail [(y.1.1, y.1.2.1, y.1.2.2.1, ()), (y1.1.1, y1.1.2.1, y1.1.2.2.1, ()), (y2.1.1, y2.1.2.1, y2.1.2.2.1, ())]) (0, [], [], ())).2.2.1, ()), ((List.headD (List.tail (List.tail [(y.1.1, y.1.2.1, y.1.2.2.1, ()), (y1.1.1, y1.1.2.1, y1.1.2.2.1, ()), (y2.1.1, y2.1.2.1, y2.1.2.2.1, ())])) (0, [], [], ())).1, (List.headD (List.tail (List.tail [(y.1.1, y.1.2.1, y.1.2.2.1, ()), (y1.1.1, y1.1.2.1, y1.1.2.2.1, ()), (y2.1.1, y2.1.2.1, y2.1.2.2.1, ())])) (0, [], [], ())).2.1, (List.headD (List.tail (List.tail [(y.1.1, y.1.2.1, y.1.2.2.1, ()), (y1.1.1, y1.1.2.1, y1.1.2.2.1, ()), (y2.1.1, y2.1.2.1, y2.1.2.2.1, ())])) (0, [], [], ())).2.2.1, ())], ()))
end
noncomputable section
def apW (x : DrT × List BeT × Unit) : Option (List CvT × Unit) := (akV x.1 x.2.1).toO
def aoV (_ : DrT × List BeT × BdT × List Int × Unit) : Option (Bool × Unit) := some (true, ())
end
def smC (c : CvT) : Prop := c.2.1.length ≤ 100 ∧ c.2.2.1.length ≤ 100
def aRU (t : TT (CvT × Unit)) : Prop := ∃ c, t.toO = some (c, ()) ∧ smC c
theorem aiL {p : Prop} {x : TT (CvT × Unit)} (h : p) (k : aRU x) : aRU (.need p x) := by
 obtain ⟨c, e, s⟩ := k; exact ⟨c, uN h e, s⟩
theorem azL {p : Prop} {h : p} {x : TT (CvT × Unit)} (k : aRU x) : aRU (.triv p h x) := k
theorem ajG {b : Bool} {x y : TT (CvT × Unit)} (h1 : b = true → aRU x) (h2 : b = false → aRU y) : aRU (.ite b x y) := by
 cases b with
 | true => obtain ⟨c, e, s⟩ := h1 rfl; exact ⟨c, uT rfl e, s⟩
 | false => obtain ⟨c, e, s⟩ := h2 rfl; exact ⟨c, uF rfl e, s⟩
theorem axE {c : CvT} (h : smC c) : aRU (.ok (c, ())) := ⟨c, rfl, h⟩
theorem aPz {ι : Type} {t : Nat} {H : TT ι} {R : ι → TT (ι ⊕ (CvT × Unit))} (i : ι) (h : H.toO = some i) (k : ∃ a, adK (fun i => (R i).toO) i = some a ∧ smC a.1) : aRU (.loop t H R) := by
 obtain ⟨⟨c, u⟩, e, s⟩ := k; exact ⟨c, uO i h e, s⟩
theorem aVO (l : List Int) : (bT l).length = bTn l ∧ bTn l ≤ 20 := by
 have : (List.take (Int.toNat (if 20 < len l then 20 else len l)) l).length ≤ 20 := by
  rw [zO, aaB]; split <;> omega
 exact ⟨by simp, by show 0 + _ ≤ 20; omega⟩
theorem aVP (l : List adI) : (bS l).length = bSn l ∧ bSn l ≤ 8 := by
 have : (List.take (Int.toNat (if 8 < len l then 8 else len l)) l).length ≤ 8 := by
  rw [zO, aaB]; split <;> omega
 exact ⟨by simp, by show 0 + _ ≤ 8; omega⟩
theorem aQr {n : Nat} (k : Int) (hk : 0 ≤ k) : inc (if k < (n : Int) then k else (n : Int)) (n : Int) := by
 unfold inc; split <;> omega
theorem aRp (b : BeT) (c : CvT) (h1 : inR b.1 0 255) (h2 : inR b.2.1 0 255) : ∃ c', aoR (b, c, ()) = some (c', ()) ∧ smC c' := by
 show aRU (an4 b c)
 obtain ⟨a1, a2⟩ := h1
 obtain ⟨b1, b2⟩ := h2
 obtain ⟨t1, t2⟩ := aVO c.2.1
 obtain ⟨s1, s2⟩ := aVP c.2.2.1
 have w1 : w64 b.2.1 = b.2.1 := aaA zc
 have m3 : Int.tmod b.2.1 3 = b.2.1 % 3 := zF b1
 have m2 : Int.tmod b.2.1 2 = b.2.1 % 2 := zF b1
 have m12 : Int.tmod b.1 12 = b.1 % 12 := zF a1
 unfold an4
 refine azL (azL (aiL (by rw [aaB]; exact aQr 20 zc) (aiL zc (aiL (by rw [aaB]; exact aQr 8 zc) (aiL zc (azL ?_))))))
 refine ajG (fun _ => axE ?_) fun e0 => ajG (fun _ => ajG (fun g => aiL ?_ (aiL ?_ (axE ?_))) fun _ => axE ?_) fun e1 => ajG (fun _ => aPz (bT c.2.1, ()) ?_ ?_) fun e2 => ajG (fun _ => azL (aiL ?_ (axE ?_))) fun e3 => ajG (fun _ => aiL ?_ (axE ?_)) fun e4 => ajG (fun _ => aPz (List.take (bSn c.2.2.1) (bS c.2.2.1), ()) rfl ?_) fun e5 => ajG (fun g => aiL ?_ (aiL ?_ (azL (aiL ?_ ?_)))) fun _ => axE ?_
 ·unfold smC; dsimp only; simp only [zO]; omega
 ·have := of_decide_eq_true g; omega
 ·have := of_decide_eq_true g
  rw [w1]
  exact ⟨xV _ b1, Int.tmod_lt_of_pos _ zc⟩
 ·unfold smC; dsimp only; simp only [zO, yY]; omega
 ·unfold smC; dsimp only; simp only [zO]; omega
 ·refine uV (uB (uV (uN ?_ rfl)))
  refine ⟨⟨rfl, rfl⟩, rfl, ⟨rfl, rfl⟩, rfl, ⟨rfl, rfl, trivial, trivial, trivial⟩, rfl, ⟨rfl, rfl, ⟨rfl, rfl, t1.symm, rfl⟩, ⟨rfl, rfl, rfl, rfl⟩, trivial⟩, rfl, ⟨rfl, rfl, rfl, rfl, trivial⟩, rfl, trivial⟩
 ·refine ac8 (fun i : List Int × Unit => i.1.length ≤ 100) (fun i => 100 - i.1.length) (fun a : CvT × Unit => smC a.1) ?_ _ zk
  rintro ⟨l, u⟩ hl
  dsimp only at hl
  unfold aCM
  have hc : w64 (16 + Int.tmod (w64 b.2.1) 3) = 16 + b.2.1 % 3 := by rw [w1, m3, aaA zc]
  by_cases g : len l < w64 (16 + Int.tmod (w64 b.2.1) 3)
  ·left
   have g' := g
   rw [aaB, hc] at g
   refine ⟨(l ++ [w64 (7 * len l)], ()), ?_, by dsimp only; simp only [zH, zG, yR]; omega, by dsimp only; simp only [zH, zG, yR]; omega⟩
   refine uV (uT (zo g') (uN zk (uB (uV (uN ?_ ?_)))))
   ·refine ⟨⟨rfl, rfl⟩, rfl, ⟨rfl, rfl⟩, rfl, ⟨rfl, rfl, trivial, trivial, trivial⟩, rfl, ⟨rfl, rfl, ⟨rfl, rfl, ?_, rfl⟩, ⟨rfl, rfl, rfl, rfl⟩, trivial⟩, rfl, ⟨rfl, rfl, rfl, rfl, trivial⟩, rfl, trivial⟩
    simp
   ·show some (Sum.inl (List.take l.length l ++ [w64 (7 * len l)], ())) = _
    rw [zt]
  ·right
   refine ⟨_, uV (uF (zn g) rfl), ?_⟩
   unfold smC; dsimp only; simp only [zO]; omega
 ·rw [w1, m3]; exact aQr _ zc
 ·unfold smC; dsimp only; simp only [zO]; omega
 ·omega
 ·unfold smC; dsimp only; simp only [zO, zH, zG, yR]; omega
 ·refine ac8 (fun i : List adI × Unit => i.1.length ≤ 100) (fun i => 100 - i.1.length) (fun a : CvT × Unit => smC a.1) ?_ _ (by dsimp only; simp only [zO]; omega)
  rintro ⟨l, u⟩ hl
  dsimp only at hl
  unfold aCL
  have hc : w64 (4 + Int.tmod (w64 b.2.1) 2) = 4 + b.2.1 % 2 := by rw [w1, m2, aaA zc]
  by_cases g : len l < w64 (4 + Int.tmod (w64 b.2.1) 2)
  ·left
   have g' := g
   rw [aaB, hc] at g
   refine ⟨(List.take (1 + l.length) ([(w64 (1 + len l), 0, 0, 1, 1, 0, ())] ++ l), ()), ?_, by dsimp only; simp only [zO, zH, zG, yR]; omega, by dsimp only; simp only [zO, zH, zG, yR]; omega⟩
   exact uV (uT (zo g') (uN zk (uB (uV (uV rfl)))))
  ·right
   refine ⟨_, uV (uF (zn g) rfl), ?_⟩
   unfold smC; dsimp only; simp only [zO]; omega
 ·have := of_decide_eq_true g; omega
 ·have := of_decide_eq_true g
  rw [w1]
  exact ⟨xV _ b1, Int.tmod_lt_of_pos _ zc⟩
 ·rw [m12] at e0 e1 e2 e3 e4 e5 ⊢
  simp only [beq_eq_false_iff_ne, ne_eq] at e0 e1 e2 e3 e4 e5
  rw [abU zc]
  exact ⟨by omega, by show b.1 % 12 - 6 < 6; omega⟩
 ·rw [m12] at e0 e1 e2 e3 e4 e5 ⊢
  simp only [beq_eq_false_iff_ne, ne_eq] at e0 e1 e2 e3 e4 e5
  rw [abU zc]
  have hz : ∀ x : adI, smC (c.1, List.take (bTn c.2.1) (bT c.2.1), List.take (bSn c.2.2.1) (List.set (bS c.2.2.1) (bI b c.2.2.1) x), ()) := by
   intro x; unfold smC; dsimp only; simp only [zO, yY]; omega
  refine ajG (fun _ => axE (hz _)) fun f5 => ajG (fun _ => axE (hz _)) fun f4 => ajG (fun _ => axE (hz _)) fun f3 => ajG (fun _ => axE (hz _)) fun f2 => ajG (fun _ => axE (hz _)) fun f1 => ajG (fun _ => axE (hz _)) fun f0 => ?_
  simp only [beq_eq_false_iff_ne, ne_eq] at f0 f1 f2 f3 f4 f5
  exfalso
  have g0 : ¬ b.1 % 12 - 6 = 0 := f0
  have g1 : ¬ b.1 % 12 - 6 = 1 := f1
  have g2 : ¬ b.1 % 12 - 6 = 2 := f2
  have g3 : ¬ b.1 % 12 - 6 = 3 := f3
  have g4 : ¬ b.1 % 12 - 6 = 4 := f4
  have g5 : ¬ b.1 % 12 - 6 = 5 := f5
  omega
 ·unfold smC; dsimp only; simp only [zO]; omega
theorem aSd (d : DrT) (hd : aVb d) (b : List BeT) (hl : b.length = 2) (hb : ∀ x ∈ b, inR x.1 0 255 ∧ inR x.2.1 0 255) :
  ∃ c0 c1 c2 : CvT, apW (d, b, ()) = some ([c0, c1, c2], ()) ∧ shC c0 ∧ shC c1 ∧ shC c2 := by
 obtain ⟨p, q, rfl⟩ : ∃ p q, b = [p, q] := by
  match b, hl with
  | [p, q], _ => exact ⟨p, q, rfl⟩
 obtain ⟨c0, h0, r0⟩ := aTI d hd
 obtain ⟨p1, p2⟩ := hb p zi
 obtain ⟨q1, q2⟩ := hb q zi
 obtain ⟨c1, h1, r1⟩ := aRp p c0 p1 p2
 obtain ⟨c2, h2, r2⟩ := aRp q c1 q1 q2
 have sh : ∀ c, smC c → shC c := fun c h => ⟨by have := h.1; omega, by have := h.2; omega⟩
 refine ⟨c0, c1, c2, ?_, aFB r0, sh _ r1, sh _ r2⟩
 show (akV d [p, q]).toO = _
 unfold akV
 exact uC _ h0 (uV (uC _ h1 (uV (uC _ h2 rfl))))
theorem aJq (b : BeT) (c : CvT) (y) (h : aoR (b, c, ()) = some y) : (an4 b c).toO = some y := h
theorem aGP (d : DrT) (b : List BeT) (y) (h : apW (d, b, ()) = some y) : (akV d b).toO = some y := h
set_option maxRecDepth 100000
open Go Go.Vg Go.Proofs
noncomputable section
abbrev bLo (at0 : List Int) : Int := w64 (1000000000 * w64 (if List.headD (List.tail at0) 0 < List.headD at0 0 then List.headD (List.tail at0) 0 else List.headD at0 0))
abbrev bHi (at0 : List Int) : Int := w64 (1000000000 * w64 (if List.headD (List.tail at0) 0 > List.headD at0 0 then List.headD (List.tail at0) 0 else List.headD at0 0))
abbrev bX (at0 : List Int) (raw : Int × Int × Unit) : List (Int × Int × Unit) := [(raw.1, raw.2.1, ()), (bLo at0, bHi at0, ()), (bLo at0, bLo at0, ())]
abbrev bC (l : List (Int × List Int × List (Int × Int × Int × Int × Int × Int × Unit) × Unit)) (i : Int) := gi l i (0, [], [], ())
abbrev bY (at0 : List Int) (raw : Int × Int × Unit) (i : Int) := gi (bX at0 raw) i (0, 0, ())
def aH0 : LTab := [(4, 122, 27648, ⟨0, (Int) × Unit, .dat (.s 38) uq <| .nil, [37, 10, 9, 6], [2], 0⟩), (4, 31334, 39936, ⟨1, (Int) × Unit, .dat (.s 49) uq <| .nil, [48, 47, 46, 45, 44, 43, 42, 41, 12, 40, 39, 38, 37, 10, 9, 6], [29, 2], 0⟩)]
def at4 (d : Int × List Int × List uo × Bool × Bool × Unit) (b : List (Int × Int × Int × Unit)) (raw : Int × Int × Unit) (at0 : List Int) (y : Bool × Unit) (y1 : List uw × Unit) (i : Int × Unit) (i1 : (Int) × Unit) : TT (uY ⊕ tX) :=
 .ite (decide (i1.1 < 3))
 (.need (inb i1.1 (↑3 : Int)) <| .call (adY (((bC y1.1 i.1).1, (bC y1.1 i.1).2.1, (bC y1.1 i.1).2.2.1, ()), ((bY at0 raw i1.1).1, (bY at0 raw i1.1).2.1, ()), ())) am9 fun y2 =>
 .call (alA (((bC y1.1 i.1).1, (bC y1.1 i.1).2.1, (bC y1.1 i.1).2.2.1, ()), ((bY at0 raw i1.1).1, (bY at0 raw i1.1).2.1, ()), ())) am9 fun y3 =>
 .ite (!(match y2.1.1 == y3.1.1 with | true => (match y2.1.2.1 == y3.1.2.1 with | true => true | false => false) | false => false))
 (.ok (.inr (.inr ((false, ())))))
 (.ite (y2.2.1 != y3.2.1)
 (.ok (.inr (.inr ((false, ())))))
 (.tt <| .lt (w64 (i1.1 + 1) : Int) fun z => .vW (ug z (bX at0 raw : List uv) ((bLo at0, bLo at0, ()) : Int × Int × Unit) (bLo at0 : Int) (bLo at0 : Int) ((bLo at0, bHi at0, ()) : Int × Int × Unit) (bHi at0 : Int) (bLo at0 : Int) <| vX ((raw.1, raw.2.1, ()) : Int × Int × Unit) <| (uk 29 0 true) ∧ (ul (bC y1.1 i.1 : Int × List Int × List uo × Unit) (decide (i.1 < 3)) i.1 (y1.1 : List uw) (bHi at0 : Int) (bLo at0 : Int) <| uK ∧ True)) <| .vW (vV (vY 42 ((bC y1.1 i.1).1 : Int) ((bC y1.1 i.1).2.1 : List Int) ((bC y1.1 i.1).2.2.1 : List uo)) <| vV (vZ 53 raw.1 raw.2.1) True) <| .ok (.inl ((z, ()))))))
 (.tt <| .lt (w64 (i.1 + 1) : Int) fun z1 => .vW (ue z1 (y1.1 : List uw) (bHi at0 : Int) (bLo at0 : Int) <| uK ∧ True) <| .vW (vV (vZ 53 raw.1 raw.2.1) True) <| .ok (.inr (.inl ((z1, ())))))
def at5 (d : Int × List Int × List uo × Bool × Bool × Unit) (b : List (Int × Int × Int × Unit)) (raw : Int × Int × Unit) (at0 : List Int) (y : Bool × Unit) (y1 : List uw × Unit) (i : (Int) × Unit) : TT tX :=
 .ite (decide (i.1 < 3))
 (.need (inb i.1 (↑3 : Int)) <| .loop 1 (.tt <| .vW (ug (0 : Int) (bX at0 raw : List uv) ((bLo at0, bLo at0, ()) : Int × Int × Unit) (bLo at0 : Int) (bLo at0 : Int) ((bLo at0, bHi at0, ()) : Int × Int × Unit) (bHi at0 : Int) (bLo at0 : Int) <| vX ((raw.1, raw.2.1, ()) : Int × Int × Unit) <| (uk 29 0 true) ∧ (ul (bC y1.1 i.1 : Int × List Int × List uo × Unit) (decide (i.1 < 3)) i.1 (y1.1 : List uw) (bHi at0 : Int) (bLo at0 : Int) <| uK ∧ True)) <| .vW (vV (vY 42 ((bC y1.1 i.1).1 : Int) ((bC y1.1 i.1).2.1 : List Int) ((bC y1.1 i.1).2.2.1 : List uo)) <| vV (vZ 53 raw.1 raw.2.1) True) <| .ok ((0, ()))) (at4 d b raw at0 y y1 i))
 (.ok (.inr ((true, ()))))
def ao1 (d : Int × List Int × List uo × Bool × Bool × Unit) (b : List (Int × Int × Int × Unit)) (raw : Int × Int × Unit) (at0 : List Int) : TT uP :=
 .call (av4 ()) Dd1 fun y =>
 .ite (!y.1)
 (.ok ((false, ())))
 (.triv (asT Int 0 ≤ 0 ∧ 0 < (↑2 : Int)) zf <| .triv (asT Int 0 ≤ 1 ∧ 1 < (↑2 : Int)) zf <| .triv (asT Int 0 ≤ 0 ∧ 0 < (↑2 : Int)) zf <| .triv (asT Int 0 ≤ 1 ∧ 1 < (↑2 : Int)) zf <| .call (apW ((d.1, d.2.1, d.2.2.1, d.2.2.2.1, d.2.2.2.2.1, ()), [((List.headD b (0, 0, 0, ())).1, (List.headD b (0, 0, 0, ())).2.1, (List.headD b (0, 0, 0, ())).2.2.1, ()), ((List.headD (List.tail b) (0, 0, 0, ())).1, (List.headD (List.tail b) (0, 0, 0, ())).2.1, (List.headD (List.tail b) (0, 0, 0, ())).2.2.1, ())], ())) aWw fun y1 =>
 .loop 0 (.tt <| .vW (ue (0 : Int) (y1.1 : List uw) (bHi at0 : Int) (bLo at0 : Int) <| uK ∧ True) <| .vW (vV (vZ 53 raw.1 raw.2.1) True) <| .ok ((0, ()))) (at5 d b raw at0 y y1))
end
theorem aqA {k : IntKind} {x a b : Int} (h : k.min ≤ x ∧ x ≤ k.max) (ha : k.min = a := by rfl) (hb : k.max = b := by rfl) : inR x a b := by subst ha; subst hb; exact h
end Go.Vs
