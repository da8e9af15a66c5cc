/-
  Trees of what the functions compute, and their laws. Own work; no condition.
-/
import Derived.Test.YtlmjbmgabddkiaaGreatDoorClL1
import Derived.Test.YtlmjbmgabddkiaaGreatDoorProg
set_option linter.unusedVariables false
set_option linter.unusedSimpArgs false
namespace Go.Vs
open Go Go.Vg
theorem aRF (a b : Rat) : a < b ∨ a = b ∨ b < a := by grind
theorem aK9 {n : Int} {d : Nat} (hd : d ≠ 0) (h1 : Fit n) (h2 : Fit d) : aiB (mkRat n d) := by
 obtain ⟨g, t, hg, g0, e0, e1, e2⟩ := ae1 n hd
 refine ⟨auT h1 ?_, auT h2 ?_⟩
 ·rw [e1, ← adJ e0 g0]; exact xp _ _
 ·rw [e2]; simp only [yc]; exact xp _ _
theorem aKb {n : Int} {d : Nat} (hd : d ≠ 0) (h1 : Fit n) (h2 : Fit d) : ofQ n d = (fx (mkRat n d), 0, ()) := by
 unfold ofQ
 rw [if_neg zb, xw, aoZ (aK9 hd h1 h2)]
theorem aPN {n : Int} {d : Nat} (hn : aeI n) (hd : d ≠ 0) (h2 : d ≤ 9223372036854775807) : aoT (n, (d : Int), ()) = some (fx (mkRat n d), 0, ()) := by
 have hd2 : aeI (d : Int) := ⟨by omega, by omega⟩
 unfold aoT
 rw [if_pos ⟨hn, hd2⟩]
 simp only [aKb hd (agG hn) (agG hd2)]
theorem aAa (n : Int) {d : Nat} (hd : d ≠ 0) : mkRat n d * (d : Rat) = (n : Rat) := by
 rw [wE]
 exact Rat.div_mul_cancel (by simpa using hd)
theorem aOx (n : Nat) : aa3 (10 ^ n) = 49 :: List.replicate n 48 := by
 induction n with
 | zero => rw [Nat.pow_zero, ab2 zb]; rfl
 | succ n ih =>
  have h1 : 1 ≤ 10 ^ n := wZ zb
  rw [yw, afK zb, Nat.mul_div_cancel _ zb, Nat.mul_mod_left, ih, vt]
  rfl
theorem ap9 {n k : Nat} (h : n < 10 ^ k) (hk : k ≤ 600) : Fit (n : Int) := by
 show (aa3 n).length ≤ 600
 have h2 : (aa3 n).length ≤ k + 1 := acF (zR h (zO zb zb))
 rcases zC k with h0 | h0
 ·omega
 ·have := (aaZ h0).2 h
  omega
theorem aOK {n : Int} {d : Nat} (hn : aeI n) (hd : d ≠ 0) (h2 : d ≤ 9223372036854775807) : aAY (n, (d : Int), ()) = some (fx (mkRat n d), ()) := by
 have hd2 : aeI (d : Int) := ⟨by omega, by omega⟩
 unfold aAY
 rw [if_pos ⟨hn, hd2⟩]
 simp only [aKb hd (agG hn) (agG hd2)]
theorem aOD (n : Int) (y) (h : av3 (n, ()) = some y) : (aFa n).toO = some y := by
 unfold av3 at h
 split at h
 ·rename_i hp
  exact uC _ (aOK (d := 1) hp zb zb) h
 ·cases h
theorem akK (n : Int) : mkRat n 1 = (n : Rat) := by rw [wE, show ((1 : Nat) : Rat) = 1 from rfl]; grind
theorem aOh {n : Int} (h : aeI n) : aiB (mkRat n 1) := aK9 zb (agG h) (agG ⟨by omega, by omega⟩)
theorem aQ6 {p q : Rat} (hp : aiB p) (hq : aiB q) : ae4 (fx p, fx q, ()) = some (aDu p q, 0, ()) := by
 unfold ae4
 simp only [ahY hp, ahY hq]
theorem af4 (p q : Rat) : aDu p q > 0 ↔ q < p := by
 unfold aDu
 split
 ·rename_i h; constructor
  ·intro h2; omega
  ·intro h2; exact absurd h2 (by grind)
 ·split
  ·rename_i h; subst h; simp
  ·rename_i h1 h2
   constructor
   ·intro _; rcases aRF p q with c | c | c
    ·exact absurd c h1
    ·exact absurd c h2
    ·exact c
   ·intro _; omega
abbrev zs : aL9 := (0, 0, 0, 0, 0, 0, ())
theorem aBm {α : Type} {s t : List α} {k : Nat} (hs : k < s.length) (ht : k < t.length) (h : s.take k = t.take k) (he : s[k] = t[k]) : s.take (k + 1) = t.take (k + 1) := by
 rw [zN hs, zN ht, h, he]
set_option maxRecDepth 100000
open Go Go.Vg Go.Proofs
noncomputable section
def aD1 : LTab := []
def amG (n : Bool × List Int × Unit) (d : Bool × List Int × Unit) : TT th :=
 .ite (d.1)
 (.call (aiZ ((n.1, n.2.1, ()), ())) ag0 fun y =>
 .call (aiZ ((d.1, d.2.1, ()), ())) ag0 fun y1 =>
 .call (afE ((y.1.1, y.1.2.1, ()), (y1.1.1, y1.1.2.1, ()), ())) ag0 fun y2 =>
 .call (aeN ((y.1.1, y.1.2.1, ()), (y2.1.1, y2.1.2.1, ()), ())) aRf fun y3 =>
 .call (aeN ((y1.1.1, y1.1.2.1, ()), (y2.1.1, y2.1.2.1, ()), ())) aRf fun y4 =>
 .ok ((((y3.1.1, y3.1.2.1, ()), (y4.1.1, y4.1.2.1, ()), ()), ())))
 (.call (afE ((n.1, n.2.1, ()), (d.1, d.2.1, ()), ())) ag0 fun y5 =>
 .call (aeN ((n.1, n.2.1, ()), (y5.1.1, y5.1.2.1, ()), ())) aRf fun y6 =>
 .call (aeN ((d.1, d.2.1, ()), (y5.1.1, y5.1.2.1, ()), ())) aRf fun y7 =>
 .ok ((((y6.1.1, y6.1.2.1, ()), (y7.1.1, y7.1.2.1, ()), ()), ())))
def aG5 : LTab := []
def axJ (n : Int) (d : Int) : TT th :=
 .call (abU (n, ())) ag0 fun y =>
 .call (abU (d, ())) ag0 fun y1 =>
 .call (aeB (y.1, y1.1, ())) awD fun y2 =>
 .ok ((((y2.1.1.1, y2.1.1.2.1, ()), (y2.1.2.1.1, y2.1.2.1.2.1, ()), ()), ()))
def aG4 : LTab := []
def apJ (a : List UInt8 × List UInt8 × Unit) : TT uG :=
 .call (afW (a.1, ())) Dd1 fun y =>
 .ite (!y.1)
 (.ok ((false, ())))
 (.call (afW (a.2.1, ())) Dd1 fun y1 =>
 .ite (!y1.1)
 (.ok ((false, ())))
 (.call (anC (a.1, ())) ag0 fun y2 =>
 .call (anC (a.2.1, ())) ag0 fun y3 =>
 .ite (y3.1.1)
 (.ok ((false, ())))
 (.ite (len y3.1.2.1 == 0)
 (.ok ((false, ())))
 (.call (afE ((y2.1.1, y2.1.2.1, ()), (y3.1.1, y3.1.2.1, ()), ())) ag0 fun y4 =>
 .call (ai0 (y4.1, ())) Dd2 fun y5 =>
 .ok ((y5.1 == #[49].toList, ()))))))
def aHb : LTab := []
def axL (a : List UInt8 × List UInt8 × Unit) : TT ue :=
 .call (abR ((a.1, a.2.1, ()), ())) Dd1 fun y =>
 .ite (!y.1)
 (.ok ((20, ())))
 (.ok ((0, ())))
def aQb : LTab := []
def aJm (a : List UInt8 × List UInt8 × Unit) : TT th :=
 .call (anC (a.1, ())) ag0 fun y =>
 .call (anC (a.2.1, ())) ag0 fun y1 =>
 .ok ((((y.1.1, y.1.2.1, ()), (y1.1.1, y1.1.2.1, ()), ()), ()))
def aM6 : LTab := []
def aFI (r : vT × vT × Unit) : TT uv :=
 .call (aj1 ((r.1.1, r.1.2.1, ()), ())) aA9 fun y =>
 .call (aj1 ((r.2.1.1, r.2.1.2.1, ()), ())) aA9 fun y1 =>
 .ite (y.2.1 != 0)
 (.ok (((#[].toList, #[].toList, ()), 6, ())))
 (.ite (y1.2.1 != 0)
 (.ok (((#[].toList, #[].toList, ()), 6, ())))
 (.ok (((y.1, y1.1, ()), 0, ()))))
def aJj : LTab := []
def aBI (a : vT × vT × Unit) (b : vT × vT × Unit) : TT th :=
 .call (acN ((a.1.1, a.1.2.1, ()), (b.2.1.1, b.2.1.2.1, ()), ())) ag0 fun y =>
 .call (acN ((b.1.1, b.1.2.1, ()), (a.2.1.1, a.2.1.2.1, ()), ())) ag0 fun y1 =>
 .call (agN (y.1, y1.1, ())) ag0 fun y2 =>
 .call (acN ((a.2.1.1, a.2.1.2.1, ()), (b.2.1.1, b.2.1.2.1, ()), ())) ag0 fun y3 =>
 .call (aeB ((y2.1.1, y2.1.2.1, ()), y3.1, ())) awD fun y4 =>
 .ok ((((y4.1.1.1, y4.1.1.2.1, ()), (y4.1.2.1.1, y4.1.2.1.2.1, ()), ()), ()))
def aG2 : LTab := []
def axG (a : vT × vT × Unit) (b : vT × vT × Unit) : TT th :=
 .call (acN ((a.1.1, a.1.2.1, ()), (b.1.1, b.1.2.1, ()), ())) ag0 fun y =>
 .call (acN ((a.2.1.1, a.2.1.2.1, ()), (b.2.1.1, b.2.1.2.1, ()), ())) ag0 fun y1 =>
 .call (aeB (y.1, y1.1, ())) awD fun y2 =>
 .ok ((((y2.1.1.1, y2.1.1.2.1, ()), (y2.1.2.1.1, y2.1.2.1.2.1, ()), ()), ()))
def aJk : LTab := []
def aBJ (a : vT × vT × Unit) (b : vT × vT × Unit) : TT th :=
 .call (acN ((a.1.1, a.1.2.1, ()), (b.2.1.1, b.2.1.2.1, ()), ())) ag0 fun y =>
 .call (acN ((a.2.1.1, a.2.1.2.1, ()), (b.1.1, b.1.2.1, ()), ())) ag0 fun y1 =>
 .call (aeB (y.1, y1.1, ())) awD fun y2 =>
 .ok ((((y2.1.1.1, y2.1.1.2.1, ()), (y2.1.2.1.1, y2.1.2.1.2.1, ()), ()), ()))
def aG7 : LTab := []
def axK (a : vT × vT × Unit) (b : vT × vT × Unit) : TT ue :=
 .call (acN ((a.1.1, a.1.2.1, ()), (b.2.1.1, b.2.1.2.1, ()), ())) ag0 fun y =>
 .call (acN ((b.1.1, b.1.2.1, ()), (a.2.1.1, a.2.1.2.1, ()), ())) ag0 fun y1 =>
 .call (alQ (y.1, y1.1, ())) Dd6 fun y2 =>
 .ok ((y2.1, ()))
def aJo : LTab := []
def aBM (a : vT × vT × Unit) : TT ur :=
 .call (aeN ((a.1.1, a.1.2.1, ()), (a.2.1.1, a.2.1.2.1, ()), ())) aRf fun y =>
 .ok (((y.1.1, y.1.2.1, ()), ()))
def aQa : LTab := []
def aD0 (n : Int) (d : Int) : TT uv :=
 .ite (d == 0)
 (.ok (((#[].toList, #[].toList, ()), 7, ())))
 (.call (ag4 (n, d, ())) awD fun y =>
 .call (ajZ (y.1, ())) afP fun y1 =>
 .ok (((y1.1.1, y1.1.2.1, ()), y1.2.1, ())))
def aM9 : LTab := []
def aFL (a : List UInt8 × List UInt8 × Unit) (b : List UInt8 × List UInt8 × Unit) : TT uk :=
 .call (abR ((a.1, a.2.1, ()), ())) Dd1 fun y =>
 .ite (!y.1)
 (.ok ((0, 20, ())))
 (.call (abR ((b.1, b.2.1, ()), ())) Dd1 fun y1 =>
 .ite (!y1.1)
 (.ok ((0, 20, ())))
 (.call (afU ((a.1, a.2.1, ()), ())) awD fun y2 =>
 .call (afU ((b.1, b.2.1, ()), ())) awD fun y3 =>
 .call (aiX (y2.1, y3.1, ())) Dd6 fun y4 =>
 .ok ((y4.1, 0, ()))))
def aNa : LTab := []
def aFM (a : List UInt8 × List UInt8 × Unit) (b : List UInt8 × List UInt8 × Unit) : TT uv :=
 .call (abR ((a.1, a.2.1, ()), ())) Dd1 fun y =>
 .ite (!y.1)
 (.ok (((#[].toList, #[].toList, ()), 20, ())))
 (.call (abR ((b.1, b.2.1, ()), ())) Dd1 fun y1 =>
 .ite (!y1.1)
 (.ok (((#[].toList, #[].toList, ()), 20, ())))
 (.call (afU ((a.1, a.2.1, ()), ())) awD fun y2 =>
 .call (afU ((b.1, b.2.1, ()), ())) awD fun y3 =>
 .call (ak0 (y2.1, y3.1, ())) awD fun y4 =>
 .call (ajZ (y4.1, ())) afP fun y5 =>
 .ok (((y5.1.1, y5.1.2.1, ()), y5.2.1, ()))))
def aM7 : LTab := []
def aFJ (a : List UInt8 × List UInt8 × Unit) (b : List UInt8 × List UInt8 × Unit) : TT uv :=
 .call (abR ((a.1, a.2.1, ()), ())) Dd1 fun y =>
 .ite (!y.1)
 (.ok (((#[].toList, #[].toList, ()), 20, ())))
 (.call (abR ((b.1, b.2.1, ()), ())) Dd1 fun y1 =>
 .ite (!y1.1)
 (.ok (((#[].toList, #[].toList, ()), 20, ())))
 (.call (afU ((a.1, a.2.1, ()), ())) awD fun y2 =>
 .call (afU ((b.1, b.2.1, ()), ())) awD fun y3 =>
 .call (aiW (y2.1, y3.1, ())) awD fun y4 =>
 .call (ajZ (y4.1, ())) afP fun y5 =>
 .ok (((y5.1.1, y5.1.2.1, ()), y5.2.1, ()))))
def aM8 : LTab := []
def aFK (a : List UInt8 × List UInt8 × Unit) (b : List UInt8 × List UInt8 × Unit) : TT uv :=
 .call (abR ((a.1, a.2.1, ()), ())) Dd1 fun y =>
 .ite (!y.1)
 (.ok (((#[].toList, #[].toList, ()), 20, ())))
 (.call (abR ((b.1, b.2.1, ()), ())) Dd1 fun y1 =>
 .ite (!y1.1)
 (.ok (((#[].toList, #[].toList, ()), 20, ())))
 (.ite (b.1 == #[48].toList)
 (.ok (((#[].toList, #[].toList, ()), 7, ())))
 (.call (afU ((a.1, a.2.1, ()), ())) awD fun y2 =>
 .call (afU ((b.1, b.2.1, ()), ())) awD fun y3 =>
 .call (aoK (y2.1, y3.1, ())) awD fun y4 =>
 .call (ajZ (y4.1, ())) afP fun y5 =>
 .ok (((y5.1.1, y5.1.2.1, ()), y5.2.1, ())))))
end
set_option maxRecDepth 100000
open Go Go.Vg Go.Proofs
noncomputable section
def aHj : LTab := [(137, 7, 2048, ⟨0, (Int) × Unit, .dat (.s 3) vU <| .nil, [2, 0], [], 0⟩), (137, 31, 7168, ⟨1, (Bool) × Unit, .dat (.s 2) (Ty.bool) <| .nil, [3, 0], [], 0⟩), (137, 506, 9216, ⟨2, (Int) × Unit, .dat (.s 5) vU <| .nil, [3, 0], [], 0⟩)]
def atN (a : List UInt8) (j : Int × Unit) (j1 : Bool × Unit) (i : (Int) × Unit) : TT uc :=
 .ite (decide (i.1 < len a))
 (.need (inb i.1 (len a)) <| .ite (decide ((↑(UInt8.toNat (gi a i.1 0)) : Int) < 48))
 (.ok (.inr ((false, ()))))
 (.need (inb i.1 (len a)) <| .ite (decide ((↑(UInt8.toNat (gi a i.1 0)) : Int) > 57))
 (.ok (.inr ((false, ()))))
 (.tt <| .lt (w64 (i.1 + 1) : Int) fun z => .vA (vH z j.1 a) <| .tr <| .ok (.inl ((z, ()))))))
 (.need (inb j.1 (len a)) <| .ite ((↑(UInt8.toNat (gi a j.1 0)) : Int) != 48)
 (.ok (.inr ((true, ()))))
 (.ok (.inr ((len a == 1, ())))))
def aEb (a : List UInt8) (j : Int × Unit) (j1 : (Bool) × Unit) : TT uG :=
 .loop 2 (.tt <| .vA (vH j.1 j.1 a) <| .tr <| .ok ((j.1, ()))) (atN a j j1)
def atO (a : List UInt8) (j : (Int) × Unit) : TT uG :=
 .join 1 (ι := (Bool) × Unit) (.ite (decide (w64 (len a - j.1) < 1))
 (.ok (.inr ((false, ()))))
 (.ite (decide (w64 (len a - j.1) > 600))
 (.ok (.inr ((false, ()))))
 (.tt <| .vA (vH false j.1 a) <| .tr <| .ok (.inl ((false, ())))))) (aEb a j)
def apP (a : List UInt8) : TT uG :=
 .join 0 (ι := (Int) × Unit) (.ite (decide (len a > 0))
 (.need (asT Int 0 ≤ 0 ∧ 0 < len a) <| .ite ((↑(UInt8.toNat (gi a 0 0)) : Int) == 45)
 (.tt <| .vA (vH (1 : Int) false a) <| .tr <| .ok (.inl ((1, ()))))
 (.tt <| .vA (vH (0 : Int) false a) <| .tr <| .ok (.inl ((0, ())))))
 (.tt <| .vA (vH (0 : Int) false a) <| .tr <| .ok (.inl ((0, ()))))) (atO a)
def aQc : LTab := [(138, 7, 2049, ⟨0, (Int) × Unit, .dat (.s 3) vU <| .nil, [2, 0], [0], 0⟩), (138, 250, 6146, ⟨1, (Int) × Bool × (List Int) × Unit, .dat (.s 5) vU <| .appN (.s 4) 6 3 vU <| .nil, [3, 2, 0], [0], 1⟩), (138, 64074, 16386, ⟨2, (Int) × (Int) × Unit, .dat (.s 7) vU <| .dat (.s 6) vU <| .nil, [21, 20, 19, 18, 15, 14, 13, 4, 5, 3, 2, 0], [0], 0⟩), (138, 64074, 16385, ⟨3, (Int) × (Int) × Unit, .dat (.s 7) vU <| .dat (.s 6) vU <| .nil, [21, 20, 19, 18, 15, 14, 13, 4, 5, 3, 2, 0], [6, 0], 0⟩)]
def az3 (a : List UInt8) (j : Int × Unit) (i : Int × Bool × List Int × Unit) (i1 : (Int) × (Int) × Unit) : TT (uj ⊕ (uu ⊕ ur)) :=
 .ite (decide (i1.1 < i.1))
 (.need (inb i1.1 (len a)) <| .tt <| .lt (w64 (i1.1 + 1) : Int) fun z1 => .lt (w64 (w64 (i1.2.1 * 10) + w64 (wu8 ((↑(UInt8.toNat (gi a i1.1 0)) : Int) - 48))) : Int) fun z2 => .vA (vM z2 z1 (if j.1 > w64 (i.1 - 4) then j.1 else w64 (i.1 - 4) : Int) j.1 (w64 (i.1 - 4)) i.1 (decide (i.1 > j.1)) j.1 <| vD i.1 <| True ∧ (vL i.1 j.1 <| ub ∧ vE a)) <| .vA ti <| .ok (.inl ((z1, z2, ()))))
 (.need (1 * 8 ≤ 140737488355328) <| .tt <| .lt (w64 (i.1 - 4) : Int) fun z3 => .lt ([i1.2.1] : List Int) fun z4 => .vA ((vJ 6 0 1 true) ∧ (vL z3 j.1 <| ub ∧ vE a)) <| .vA (vz (vI 3 z4) <| vz vY True) <| .ok (.inr (.inl ((z3, false, z4, ())))))
def az2 (a : List UInt8) (j : Int × Unit) (i : Int × Bool × List Int × Unit) (i2 : (Int) × (Int) × Unit) : TT (uj ⊕ (uu ⊕ ur)) :=
 .ite (decide (i2.1 < i.1))
 (.need (inb i2.1 (len a)) <| .tt <| .lt (w64 (i2.1 + 1) : Int) fun z6 => .lt (w64 (w64 (i2.2.1 * 10) + w64 (wu8 ((↑(UInt8.toNat (gi a i2.1 0)) : Int) - 48))) : Int) fun z7 => .vA (vM z7 z6 (if j.1 > w64 (i.1 - 4) then j.1 else w64 (i.1 - 4) : Int) j.1 (w64 (i.1 - 4)) i.1 (decide (i.1 > j.1)) j.1 <| vD i.1 <| (vJ 6 0 (List.length i.2.2.1) true) ∧ (vL i.1 j.1 <| ub ∧ vE a)) <| .vA (vz (vI 3 i.2.2.1) <| vz vY True) <| .ok (.inl ((z6, z7, ()))))
 (.need ((List.length i.2.2.1 + 1) * 8 ≤ 140737488355328) <| .tt <| .lt (w64 (i.1 - 4) : Int) fun z8 => .lt (List.take (List.length i.2.2.1) i.2.2.1 ++ [i2.2.1] : List Int) fun z9 => .need ((((6) = (6)) ∧ (((0) = (0)) ∧ ((List.length i.2.2.1 + 1 = List.length z9) ∧ ((true) = (true))))) ∧ ((z8 : Int) = z8) ∧ ((j.1 : Int) = j.1) ∧ (((0) = (0)) ∧ (((0) = (0)) ∧ ((true) = (true)))) ∧ ((a) = (a)) ∧ True) <| .vA (vz (vI 3 z9) <| vz vY True) <| .ok (.inr (.inl ((z8, false, z9, ())))))
def anO (a : List UInt8) (j : Int × Unit) (i : (Int) × Bool × (List Int) × Unit) : TT (uu ⊕ ur) :=
 .ite (i.2.1)
 (.ite (decide (i.1 > j.1))
 (.loop 2 (.tt <| .lt (if j.1 > w64 (i.1 - 4) then j.1 else w64 (i.1 - 4) : Int) fun z => .vA (vM (0 : Int) z z j.1 (w64 (i.1 - 4)) i.1 (decide (i.1 > j.1)) j.1 <| vD i.1 <| True ∧ (vL i.1 j.1 <| ub ∧ vE a)) <| .vA ti <| .ok ((z, 0, ()))) (az3 a j i))
 (.call (abO (j.1 == 1, [], ())) ag0 fun y =>
 .ok (.inr (((y.1.1, y.1.2.1, ()), ())))))
 (.ite (decide (i.1 > j.1))
 (.loop 3 (.tt <| .lt (if j.1 > w64 (i.1 - 4) then j.1 else w64 (i.1 - 4) : Int) fun z5 => .vA (vM (0 : Int) z5 z5 j.1 (w64 (i.1 - 4)) i.1 (decide (i.1 > j.1)) j.1 <| vD i.1 <| (vJ 6 0 (List.length i.2.2.1) true) ∧ (vL i.1 j.1 <| ub ∧ vE a)) <| .vA (vz (vI 3 i.2.2.1) <| vz vY True) <| .ok ((z5, 0, ()))) (az2 a j i))
 (.call (abO (j.1 == 1, List.take (List.length i.2.2.1) i.2.2.1, ())) ag0 fun y1 =>
 .ok (.inr (((y1.1.1, y1.1.2.1, ()), ())))))
def aNg (a : List UInt8) (j : (Int) × Unit) : TT ur :=
 .loop 1 (.tt <| .vA (True ∧ (vL (len a) j.1 <| ub ∧ vE a)) <| .vA ti <| .ok ((len a, true, [], ()))) (anO a j)
def aEe (a : List UInt8) : TT ur :=
 .join 0 (ι := (Int) × Unit) (.need (asT Int 0 ≤ 0 ∧ 0 < len a) <| .ite ((↑(UInt8.toNat (gi a 0 0)) : Int) == 45)
 (.tt <| .vA (vD (1 : Int) <| ub ∧ vE a) <| .vA ti <| .ok (.inl ((1, ()))))
 (.tt <| .vA (vD (0 : Int) <| ub ∧ vE a) <| .vA ti <| .ok (.inl ((0, ()))))) (aNg a)
def aHf : LTab := [(146, 2042, 45058, ⟨0, (Int) × (List Int) × (List Int) × Unit, .dat (.s 12) vU <| .dat (.s 11) uX <| .row 29 vU <| .nil, [10, 9, 8, 5, 4, 0, 1], [29], 0⟩), (146, 1045658, 60418, ⟨1, (Int) × (Int) × Unit, .dat (.s 14) vU <| .dat (.s 13) vU <| .nil, [83, 82, 11, 81, 80, 79, 77, 76, 75, 74, 71, 70, 12, 10, 9, 8, 5, 4, 0, 1], [29], 0⟩), (146, 2091324, 74754, ⟨2, (Int) × (Int) × Unit, .dat (.s 16) vU <| .dat (.s 15) vU <| .nil, [109, 108, 107, 106, 105, 104, 103, 102, 87, 86, 85, 84, 13, 14, 83, 82, 11, 81, 80, 79, 77, 76, 75, 74, 71, 70, 12, 10, 9, 8, 5, 4, 0, 1], [29], 0⟩)]
def atH (a : List Int) (b : List Int) (i : Int × List Int × List Int × Unit) (y2 : List Int × Unit) (i1 : Int × Int × Unit) (i2 : (Int) × (Int) × Unit) : TT (uj ⊕ (uj ⊕ vX)) :=
 .ite (decide (w64 (i2.1 - i2.2.1) > 1))
 (.triv (asT Int 2 ≠ 0) zf <| .call (ab5 (b, [w64 (Int.tdiv (w64 (i2.2.1 + i2.1)) 2)], ())) aDx fun y3 =>
 .call (adE (y3.1, ())) aDx fun y4 =>
 .call (afV (y4.1, y2.1, ())) Dd6 fun y5 =>
 .ite (decide (y5.1 ≤ 0))
 (.tt <| .lt (w64 (Int.tdiv (w64 (i2.2.1 + i2.1)) 2) : Int) fun z10 => .vA (vM z10 i2.1 (w64 (w64 (Int.tdiv i1.2.1 (w64 (w64 (gi b (w64 (len b - 1)) 0 * 10000) + gi b (w64 (w64 (len b - 1) - 1)) 0))) + 1) : Int) (w64 (Int.tdiv i1.2.1 (w64 (w64 (gi b (w64 (len b - 1)) 0 * 10000) + gi b (w64 (w64 (len b - 1) - 1)) 0))) : Int) (w64 (w64 (gi b (w64 (len b - 1)) 0 * 10000) + gi b (w64 (w64 (len b - 1) - 1)) 0) : Int) i1.2.1 (w64 (Int.tdiv i1.2.1 (w64 (w64 (w64 (gi b (w64 (len b - 1)) 0 * 10000) + gi b (w64 (w64 (len b - 1) - 1)) 0) + 1))) : Int) (w64 (w64 (w64 (gi b (w64 (len b - 1)) 0 * 10000) + gi b (w64 (w64 (len b - 1) - 1)) 0) + 1) : Int) <| vM (w64 (w64 (gi b (w64 (len b - 1)) 0 * 10000) + gi b (w64 (w64 (len b - 1) - 1)) 0) : Int) i1.2.1 (decide (i1.1 ≥ w64 (w64 (len b - 1) - 1))) (w64 (w64 (len b - 1) - 1)) (w64 (len b - 1)) i1.1 i1.2.1 i1.1 <| vM (w64 (w64 (len b - 1) + 1)) (w64 (len b - 1)) y2.1 y2.1 (List.take (1 + List.length i.2.1) ([gi a i.1 0] ++ i.2.1)) i.2.1 (gi a i.1 0) (gi a i.1 0) <| vK i.1 a (decide (i.1 ≥ 0)) i.1 i.1 <| (vJ 29 0 (Int.toNat (w64 (len a - w64 (len b - 1)))) true) ∧ (vL (w64 (w64 (gi b (w64 (len b - 1)) 0 * 10000) + gi b (w64 (w64 (len b - 1) - 1)) 0) : Int) (w64 (len b - 1)) <| True ∧ True ∧ vN a b)) <| .vA (vz (vI 3 i.2.2.1) True) <| .ok (.inl ((i2.1, z10, ()))))
 (.tt <| .lt (w64 (Int.tdiv (w64 (i2.2.1 + i2.1)) 2) : Int) fun z11 => .lt (i2.2.1 : Int) fun z12 => .vA (vM z12 z11 (w64 (w64 (Int.tdiv i1.2.1 (w64 (w64 (gi b (w64 (len b - 1)) 0 * 10000) + gi b (w64 (w64 (len b - 1) - 1)) 0))) + 1) : Int) (w64 (Int.tdiv i1.2.1 (w64 (w64 (gi b (w64 (len b - 1)) 0 * 10000) + gi b (w64 (w64 (len b - 1) - 1)) 0))) : Int) (w64 (w64 (gi b (w64 (len b - 1)) 0 * 10000) + gi b (w64 (w64 (len b - 1) - 1)) 0) : Int) i1.2.1 (w64 (Int.tdiv i1.2.1 (w64 (w64 (w64 (gi b (w64 (len b - 1)) 0 * 10000) + gi b (w64 (w64 (len b - 1) - 1)) 0) + 1))) : Int) (w64 (w64 (w64 (gi b (w64 (len b - 1)) 0 * 10000) + gi b (w64 (w64 (len b - 1) - 1)) 0) + 1) : Int) <| vM (w64 (w64 (gi b (w64 (len b - 1)) 0 * 10000) + gi b (w64 (w64 (len b - 1) - 1)) 0) : Int) i1.2.1 (decide (i1.1 ≥ w64 (w64 (len b - 1) - 1))) (w64 (w64 (len b - 1) - 1)) (w64 (len b - 1)) i1.1 i1.2.1 i1.1 <| vM (w64 (w64 (len b - 1) + 1)) (w64 (len b - 1)) y2.1 y2.1 (List.take (1 + List.length i.2.1) ([gi a i.1 0] ++ i.2.1)) i.2.1 (gi a i.1 0) (gi a i.1 0) <| vK i.1 a (decide (i.1 ≥ 0)) i.1 i.1 <| (vJ 29 0 (Int.toNat (w64 (len a - w64 (len b - 1)))) true) ∧ (vL (w64 (w64 (gi b (w64 (len b - 1)) 0 * 10000) + gi b (w64 (w64 (len b - 1) - 1)) 0) : Int) (w64 (len b - 1)) <| True ∧ True ∧ vN a b)) <| .vA (vz (vI 3 i.2.2.1) True) <| .ok (.inl ((z11, z12, ())))))
 (.need (inb i.1 (↑(Int.toNat (w64 (len a - w64 (len b - 1)))) : Int)) <| .call (ab5 (b, [i2.2.1], ())) aDx fun y6 =>
 .call (abJ (y2.1, y6.1, ())) aDx fun y7 =>
 .tt <| .lt (w64 (i.1 - 1) : Int) fun z13 => .lt (List.set i.2.2.1 (0 + Int.toNat i.1) i2.2.1 : List Int) fun z14 => .vA (vL y7.1 z13 <| (vJ 29 0 (Int.toNat (w64 (len a - w64 (len b - 1)))) true) ∧ (vL (w64 (w64 (gi b (w64 (len b - 1)) 0 * 10000) + gi b (w64 (w64 (len b - 1) - 1)) 0) : Int) (w64 (len b - 1)) <| True ∧ True ∧ vN a b)) <| .vA (vz (vI 3 z14) True) <| .ok (.inr (.inr (.inl ((z13, y7.1, z14, ()))))))
def ae0 (a : List Int) (b : List Int) (i : Int × List Int × List Int × Unit) (y2 : List Int × Unit) (i1 : (Int) × (Int) × Unit) : TT (uj ⊕ vX) :=
 .ite (decide (i1.1 ≥ w64 (w64 (len b - 1) - 1)))
 (.ite (decide (i1.1 < len y2.1))
 (.need (inb i1.1 (len y2.1)) <| .tt <| .lt (w64 (i1.1 - 1) : Int) fun z4 => .lt (w64 (w64 (i1.2.1 * 10000) + gi y2.1 i1.1 0) : Int) fun z5 => .vA (vM z5 z4 (w64 (w64 (len b - 1) + 1)) (w64 (len b - 1)) y2.1 y2.1 (List.take (1 + List.length i.2.1) ([gi a i.1 0] ++ i.2.1)) i.2.1 <| vO (gi a i.1 0) (gi a i.1 0) i.1 a (decide (i.1 ≥ 0)) i.1 i.1 <| (vJ 29 0 (Int.toNat (w64 (len a - w64 (len b - 1)))) true) ∧ (vL (w64 (w64 (gi b (w64 (len b - 1)) 0 * 10000) + gi b (w64 (w64 (len b - 1) - 1)) 0) : Int) (w64 (len b - 1)) <| True ∧ True ∧ vN a b)) <| .vA (vz (vI 3 i.2.2.1) True) <| .ok (.inl ((z4, z5, ()))))
 (.tt <| .lt (w64 (i1.1 - 1) : Int) fun z6 => .lt (w64 (i1.2.1 * 10000) : Int) fun z7 => .vA (vM z7 z6 (w64 (w64 (len b - 1) + 1)) (w64 (len b - 1)) y2.1 y2.1 (List.take (1 + List.length i.2.1) ([gi a i.1 0] ++ i.2.1)) i.2.1 <| vO (gi a i.1 0) (gi a i.1 0) i.1 a (decide (i.1 ≥ 0)) i.1 i.1 <| (vJ 29 0 (Int.toNat (w64 (len a - w64 (len b - 1)))) true) ∧ (vL (w64 (w64 (gi b (w64 (len b - 1)) 0 * 10000) + gi b (w64 (w64 (len b - 1) - 1)) 0) : Int) (w64 (len b - 1)) <| True ∧ True ∧ vN a b)) <| .vA (vz (vI 3 i.2.2.1) True) <| .ok (.inl ((z6, z7, ())))))
 (.need (w64 (w64 (w64 (gi b (w64 (len b - 1)) 0 * 10000) + gi b (w64 (w64 (len b - 1) - 1)) 0) + 1) ≠ 0) <| .need (w64 (w64 (gi b (w64 (len b - 1)) 0 * 10000) + gi b (w64 (w64 (len b - 1) - 1)) 0) ≠ 0) <| .loop 2 (.tt <| .lt (w64 (w64 (Int.tdiv i1.2.1 (w64 (w64 (gi b (w64 (len b - 1)) 0 * 10000) + gi b (w64 (w64 (len b - 1) - 1)) 0))) + 1) : Int) fun z8 => .lt (w64 (Int.tdiv i1.2.1 (w64 (w64 (w64 (gi b (w64 (len b - 1)) 0 * 10000) + gi b (w64 (w64 (len b - 1) - 1)) 0) + 1))) : Int) fun z9 => .vA (vM z9 z8 z8 (w64 (Int.tdiv i1.2.1 (w64 (w64 (gi b (w64 (len b - 1)) 0 * 10000) + gi b (w64 (w64 (len b - 1) - 1)) 0))) : Int) (w64 (w64 (gi b (w64 (len b - 1)) 0 * 10000) + gi b (w64 (w64 (len b - 1) - 1)) 0) : Int) i1.2.1 z9 (w64 (w64 (w64 (gi b (w64 (len b - 1)) 0 * 10000) + gi b (w64 (w64 (len b - 1) - 1)) 0) + 1) : Int) <| vM (w64 (w64 (gi b (w64 (len b - 1)) 0 * 10000) + gi b (w64 (w64 (len b - 1) - 1)) 0) : Int) i1.2.1 (decide (i1.1 ≥ w64 (w64 (len b - 1) - 1))) (w64 (w64 (len b - 1) - 1)) (w64 (len b - 1)) i1.1 i1.2.1 i1.1 <| vM (w64 (w64 (len b - 1) + 1)) (w64 (len b - 1)) y2.1 y2.1 (List.take (1 + List.length i.2.1) ([gi a i.1 0] ++ i.2.1)) i.2.1 (gi a i.1 0) (gi a i.1 0) <| vK i.1 a (decide (i.1 ≥ 0)) i.1 i.1 <| (vJ 29 0 (Int.toNat (w64 (len a - w64 (len b - 1)))) true) ∧ (vL (w64 (w64 (gi b (w64 (len b - 1)) 0 * 10000) + gi b (w64 (w64 (len b - 1) - 1)) 0) : Int) (w64 (len b - 1)) <| True ∧ True ∧ vN a b)) <| .vA (vz (vI 3 i.2.2.1) True) <| .ok ((z8, z9, ()))) (atH a b i y2 i1))
def amJ (a : List Int) (b : List Int) (i : (Int) × (List Int) × (List Int) × Unit) : TT vX :=
 .ite (decide (i.1 ≥ 0))
 (.need (inb i.1 (len a)) <| .need ((1 + List.length i.2.1) * 8 ≤ 140737488355328) <| .call (adE (List.take (1 + List.length i.2.1) ([gi a i.1 0] ++ i.2.1), ())) aDx fun y2 =>
 .loop 1 (.tt <| .lt (w64 (w64 (len b - 1) + 1) : Int) fun z3 => .vA (vM (0 : Int) z3 z3 (w64 (len b - 1)) y2.1 y2.1 (List.take (1 + List.length i.2.1) ([gi a i.1 0] ++ i.2.1)) i.2.1 <| vO (gi a i.1 0) (gi a i.1 0) i.1 a (decide (i.1 ≥ 0)) i.1 i.1 <| (vJ 29 0 (Int.toNat (w64 (len a - w64 (len b - 1)))) true) ∧ (vL (w64 (w64 (gi b (w64 (len b - 1)) 0 * 10000) + gi b (w64 (w64 (len b - 1) - 1)) 0) : Int) (w64 (len b - 1)) <| True ∧ True ∧ vN a b)) <| .vA (vz (vI 3 i.2.2.1) True) <| .ok ((z3, 0, ()))) (ae0 a b i y2))
 (.call (adE (List.take (Int.toNat (w64 (len a - w64 (len b - 1)))) i.2.2.1, ())) aDx fun y8 =>
 .ok (.inr ((y8.1, i.2.1, ()))))
def apK (a : List Int) (b : List Int) : TT (List Int × List Int × Unit) :=
 .ite (len b == 1)
 (.need (asT Int 0 ≤ 0 ∧ 0 < len b) <| .call (aoN (a, gi b 0 0, ())) aTU fun y =>
 .call (adE ([y.2.1], ())) aDx fun y1 =>
 .ok ((y.1, y1.1, ())))
 (.ite (decide (len a ≤ w64 (len b - 1)))
 (.need ((0 + List.length a) * 8 ≤ 140737488355328) <| .ok (([], List.take (0 + List.length a) (List.take 0 [] ++ a), ())))
 (.need (inb (w64 (len b - 1)) (len b)) <| .need (inb (w64 (w64 (len b - 1) - 1)) (len b)) <| .need (0 ≤ w64 (len a - w64 (len b - 1)) ∧ w64 (len a - w64 (len b - 1)) ≤ w64 (len a - w64 (len b - 1)) ∧ w64 (len a - w64 (len b - 1)) * (↑8 : Int) ≤ 140737488355328) <| .need (inc (w64 (len a - w64 (len b - 1))) (len a)) <| .need ((0 + List.length (List.take (List.length a - Int.toNat (w64 (len a - w64 (len b - 1)))) (List.drop (Int.toNat (w64 (len a - w64 (len b - 1)))) a))) * 8 ≤ 140737488355328) <| .loop 0 (.tt <| .lt (w64 ((↑(Int.toNat (w64 (len a - w64 (len b - 1)))) : Int) - 1) : Int) fun z => .lt (List.take (0 + List.length (List.take (List.length a - Int.toNat (w64 (len a - w64 (len b - 1)))) (List.drop (Int.toNat (w64 (len a - w64 (len b - 1)))) a))) (List.take 0 [] ++ List.take (List.length a - Int.toNat (w64 (len a - w64 (len b - 1)))) (List.drop (Int.toNat (w64 (len a - w64 (len b - 1)))) a)) : List Int) fun z1 => .lt (List.replicate (Int.toNat (w64 (len a - w64 (len b - 1)))) 0 : List Int) fun z2 => .vA (vL z1 z <| (vJ 29 0 (Int.toNat (w64 (len a - w64 (len b - 1)))) true) ∧ (vL (w64 (w64 (gi b (w64 (len b - 1)) 0 * 10000) + gi b (w64 (w64 (len b - 1) - 1)) 0) : Int) (w64 (len b - 1)) <| True ∧ True ∧ vN a b)) <| .vA (vz (vI 3 z2) True) <| .ok ((z, z1, z2, ()))) (amJ a b)))
def aJt : LTab := []
def aBU (a : Bool × List Int × Unit) : TT ur :=
 .call (abO (!a.1, a.2.1, ())) ag0 fun y =>
 .ok (((y.1.1, y.1.2.1, ()), ()))
def aJv : LTab := []
def atQ (a : Bool × List Int × Unit) (b : Bool × List Int × Unit) : TT ur :=
 .ite (a.1 == b.1)
 (.call (asL (a.2.1, b.2.1, ())) aDx fun y =>
 .call (abO (a.1, y.1, ())) ag0 fun y1 =>
 .ok (((y1.1.1, y1.1.2.1, ()), ())))
 (.call (afV (a.2.1, b.2.1, ())) Dd6 fun y2 =>
 .ite (decide (y2.1 ≥ 0))
 (.call (abJ (a.2.1, b.2.1, ())) aDx fun y3 =>
 .call (abO (a.1, y3.1, ())) ag0 fun y4 =>
 .ok (((y4.1.1, y4.1.2.1, ()), ())))
 (.call (abJ (b.2.1, a.2.1, ())) aDx fun y5 =>
 .call (abO (b.1, y5.1, ())) ag0 fun y6 =>
 .ok (((y6.1.1, y6.1.2.1, ()), ()))))
def aHn : LTab := []
def axP (a : Bool × List Int × Unit) (b : Bool × List Int × Unit) : TT ur :=
 .call (aiZ ((b.1, b.2.1, ()), ())) ag0 fun y =>
 .call (agN ((a.1, a.2.1, ()), y.1, ())) ag0 fun y1 =>
 .ok (((y1.1.1, y1.1.2.1, ()), ()))
def aHi : LTab := []
def axM (a : Bool × List Int × Unit) (b : Bool × List Int × Unit) : TT ur :=
 .call (ab5 (a.2.1, b.2.1, ())) aDx fun y =>
 .call (abO (!a.1 == b.1, y.1, ())) ag0 fun y1 =>
 .ok (((y1.1.1, y1.1.2.1, ()), ()))
def aHk : LTab := []
def apQ (a : Bool × List Int × Unit) (b : Bool × List Int × Unit) : TT ux :=
 .call (aiY (a.2.1, b.2.1, ())) aTD fun y =>
 .call (abO (!a.1 == b.1, y.1, ())) ag0 fun y1 =>
 .call (abO (a.1, y.2.1, ())) ag0 fun y2 =>
 .ite (y2.1.1)
 (.call (agN ((y2.1.1, y2.1.2.1, ()), (false, b.2.1, ()), ())) ag0 fun y3 =>
 .ite (b.1)
 (.call (abU (1, ())) ag0 fun y4 =>
 .call (agN ((y1.1.1, y1.1.2.1, ()), y4.1, ())) ag0 fun y5 =>
 .ok (((y5.1.1, y5.1.2.1, ()), (y3.1.1, y3.1.2.1, ()), ())))
 (.call (abU (1, ())) ag0 fun y6 =>
 .call (ai1 ((y1.1.1, y1.1.2.1, ()), y6.1, ())) ag0 fun y7 =>
 .ok (((y7.1.1, y7.1.2.1, ()), (y3.1.1, y3.1.2.1, ()), ()))))
 (.ok (((y1.1.1, y1.1.2.1, ()), (y2.1.1, y2.1.2.1, ()), ())))
def aHm : LTab := []
def axO (a : Bool × List Int × Unit) (b : Bool × List Int × Unit) : TT ue :=
 .call (ai1 ((a.1, a.2.1, ()), (b.1, b.2.1, ()), ())) ag0 fun y =>
 .ite (y.1.1)
 (.ok ((-1, ())))
 (.ite (decide (len y.1.2.1 > 0))
 (.ok ((1, ())))
 (.ok ((0, ()))))
def aB1 : LTab := [(139, 28, 9217, ⟨0, (List Int) × (List Int) × Unit, .dat (.s 6) uX <| .dat (.s 5) uX <| .nil, [4], [2, 1, 0], 0⟩)]
def anP (a : Bool × List Int × Unit) (b : Bool × List Int × Unit) (i : (List Int) × (List Int) × Unit) : TT (uH ⊕ ur) :=
 .ite (decide (len i.1 > 0))
 (.call (aiY (i.2.1, i.1, ())) aTD fun y =>
 .tt <| .lt (y.2.1 : List Int) fun z2 => .vA (vL i.1 z2 <| (vC 2 0 true) ∧ True) <| .vA (vz vY <| vz (vH 138 b.1 b.2.1) <| vz (vH 138 a.1 a.2.1) True) <| .ok (.inl ((z2, i.1, ()))))
 (.ok (.inr (((false, i.2.1, ()), ()))))
def aq1 (a : Bool × List Int × Unit) (b : Bool × List Int × Unit) : TT ur :=
 .loop 0 (.tt <| .lt (b.2.1 : List Int) fun z => .lt (a.2.1 : List Int) fun z1 => .vA (vL z1 z <| (vC 2 0 true) ∧ True) <| .vA (vz vY <| vz (vH 138 b.1 z) <| vz (vH 138 a.1 z1) True) <| .ok ((z, z1, ()))) (anP a b)
def aEc : LTab := [(144, 58, 5121, ⟨0, (Int) × (Bool) × (List Int) × Unit, .dat (.s 6) vU <| .dat (.c 3 0) (Ty.bool) <| .dat (.c 3 1) uX <| .nil, [5, 4, 2, 1], [3, 1, 0], 0⟩)]
def aqZ (a : Bool × List Int × Unit) (n : Int) (y : vT × Unit) (i : (Int) × (Bool) × (List Int) × Unit) : TT (((Int) × (Bool) × (List Int) × Unit) ⊕ ur) :=
 .ite (decide (i.1 < n))
 (.call (acN ((i.2.1, i.2.2.1, ()), (a.1, a.2.1, ()), ())) ag0 fun y1 =>
 .tt <| .lt (w64 (i.1 + 1) : Int) fun z2 => .lt (y1.1.1 : Bool) fun z3 => .lt (y1.1.2.1 : List Int) fun z4 => .vA (vD z2 <| ug ∧ ud ∧ ub ∧ vE n) <| .vA (vz (vH 138 z3 z4) <| vz vY <| vz (vH 138 a.1 a.2.1) True) <| .ok (.inl ((z2, z3, z4, ()))))
 (.ok (.inr (((i.2.1, i.2.2.1, ()), ()))))
def atP (a : Bool × List Int × Unit) (n : Int) : TT ur :=
 .call (abU (1, ())) ag0 fun y =>
 .loop 0 (.tt <| .lt (y.1.1 : Bool) fun z => .lt (y.1.2.1 : List Int) fun z1 => .vA (vD (0 : Int) <| ug ∧ ud ∧ ub ∧ vE n) <| .vA (vz (vH 138 z z1) <| vz vY <| vz (vH 138 a.1 a.2.1) True) <| .ok ((0, z, z1, ()))) (aqZ a n y)
end
set_option maxRecDepth 100000
open Go Go.Vg Go.Proofs
noncomputable section
def aNe : LTab := [(189, 28, 4097, ⟨0, (Int) × Unit, .dat (.s 3) vU <| .nil, [2, 0], [], 0⟩)]
def aBT (d : List Int) (i : (Int) × Unit) : TT (um ⊕ vZ) :=
 .ite (decide (i.1 > 0))
 (.need (inb (w64 (i.1 - 1)) (len d)) <| .ite (gi d (w64 (i.1 - 1)) 0 == 0)
 (.tt <| .lt (w64 (i.1 - 1) : Int) fun z => .vA (vD z <| True ∧ vE d) <| .tr <| .ok (.inl ((z, ()))))
 (.need (inc i.1 (len d)) <| .ok (.inr ((List.take (Int.toNat i.1) d, ())))))
 (.need (inc i.1 (len d)) <| .ok (.inr ((List.take (Int.toNat i.1) d, ()))))
def aFP (d : List Int) : TT vZ :=
 .loop 0 (.tt <| .vA (vD (len d) <| True ∧ vE d) <| .tr <| .ok ((len d, ()))) (aBT d)
def aJr : LTab := []
def aBR (below : Bool) (d : List Int) : TT ur :=
 .call (adE (d, ())) aDx fun y =>
 .ite (below)
 (.ok (((decide (len y.1 > 0), y.1, ()), ())))
 (.ok (((false, y.1, ()), ())))
def aB0 : LTab := [(83, 60, 5122, ⟨0, Bool × (List Int) × (Int) × Unit, .appN (.s 3) 5 3 vU <| .dat (.s 0) vU <| .nil, [4, 2], [0], 1⟩)]
def afH (n : Int) (i : Bool × (List Int) × (Int) × Unit) : TT ((Bool × (List Int) × (Int) × Unit) ⊕ ur) :=
 .ite (i.1)
 (.ite (i.2.2.1 != 0)
 (.triv (asT Int 10000 ≠ 0) zf <| .ite (decide (Int.tmod i.2.2.1 10000 < 0))
 (.need (1 * 8 ≤ 140737488355328) <| .triv (asT Int 10000 ≠ 0) zf <| .tt <| .lt ([w64 (0 - Int.tmod i.2.2.1 10000)] : List Int) fun z => .lt (w64 (Int.tdiv i.2.2.1 10000) : Int) fun z1 => .vA (vD z1 <| (vJ 5 0 1 true) ∧ (vD (decide (n < 0)) <| ub ∧ True)) <| .vA (vz (vI 3 z) <| vz vY True) <| .ok (.inl ((false, z, z1, ()))))
 (.need (1 * 8 ≤ 140737488355328) <| .triv (asT Int 10000 ≠ 0) zf <| .tt <| .lt ([Int.tmod i.2.2.1 10000] : List Int) fun z2 => .lt (w64 (Int.tdiv i.2.2.1 10000) : Int) fun z3 => .vA (vD z3 <| (vJ 5 0 1 true) ∧ (vD (decide (n < 0)) <| ub ∧ True)) <| .vA (vz (vI 3 z2) <| vz vY True) <| .ok (.inl ((false, z2, z3, ())))))
 (.call (abO (decide (n < 0), [], ())) ag0 fun y =>
 .ok (.inr (((y.1.1, y.1.2.1, ()), ())))))
 (.ite (i.2.2.1 != 0)
 (.triv (asT Int 10000 ≠ 0) zf <| .ite (decide (Int.tmod i.2.2.1 10000 < 0))
 (.need ((List.length i.2.1 + 1) * 8 ≤ 140737488355328) <| .triv (asT Int 10000 ≠ 0) zf <| .tt <| .lt (List.take (List.length i.2.1) i.2.1 ++ [w64 (0 - Int.tmod i.2.2.1 10000)] : List Int) fun z4 => .lt (w64 (Int.tdiv i.2.2.1 10000) : Int) fun z5 => .need (((z5 : Int) = z5) ∧ (((5) = (5)) ∧ (((0) = (0)) ∧ ((List.length i.2.1 + 1 = List.length z4) ∧ ((true) = (true))))) ∧ ((decide (n < 0)) = (decide (n < 0))) ∧ (((0) = (0)) ∧ (((0) = (0)) ∧ ((true) = (true)))) ∧ True) <| .vA (vz (vI 3 z4) <| vz vY True) <| .ok (.inl ((false, z4, z5, ()))))
 (.need ((List.length i.2.1 + 1) * 8 ≤ 140737488355328) <| .triv (asT Int 10000 ≠ 0) zf <| .tt <| .lt (List.take (List.length i.2.1) i.2.1 ++ [Int.tmod i.2.2.1 10000] : List Int) fun z6 => .lt (w64 (Int.tdiv i.2.2.1 10000) : Int) fun z7 => .need (((z7 : Int) = z7) ∧ (((5) = (5)) ∧ (((0) = (0)) ∧ ((List.length i.2.1 + 1 = List.length z6) ∧ ((true) = (true))))) ∧ ((decide (n < 0)) = (decide (n < 0))) ∧ (((0) = (0)) ∧ (((0) = (0)) ∧ ((true) = (true)))) ∧ True) <| .vA (vz (vI 3 z6) <| vz vY True) <| .ok (.inl ((false, z6, z7, ())))))
 (.call (abO (decide (n < 0), List.take (List.length i.2.1) i.2.1, ())) ag0 fun y1 =>
 .ok (.inr (((y1.1.1, y1.1.2.1, ()), ())))))
def aq0 (n : Int) : TT ur :=
 .loop 0 (.tt <| .vA (vD n <| True ∧ (vD (decide (n < 0)) <| ub ∧ True)) <| .vA ti <| .ok ((true, [], n, ()))) (afH n)
def aJs : LTab := []
def atK (n : Int) : TT uq :=
 .triv (asT Int 1000 ≠ 0) zf <| .triv (asT Int 100 ≠ 0) zf <| .triv (asT Int 10 ≠ 0) zf <| .triv (asT Int 10 ≠ 0) zf <| .triv (asT Int 10 ≠ 0) zf <| .triv (asT Int 10 ≠ 0) zf <| .ok ((List.map (fun n => UInt8.ofNat (Int.toNat n)) (List.take 4 [wu8 (w64 (48 + w64 (Int.tdiv n 1000))), wu8 (w64 (48 + Int.tmod (w64 (Int.tdiv n 100)) 10)), wu8 (w64 (48 + Int.tmod (w64 (Int.tdiv n 10)) 10)), wu8 (w64 (48 + Int.tmod n 10))]), ()))
def aJu : LTab := [(86, 58, 8192, ⟨0, (Int) × (List UInt8) × Unit, .dat (.s 4) vU <| .dat (.s 3) tj <| .nil, [2, 1], [0], 0⟩), (86, 124, 11264, ⟨1, (Int) × Unit, .dat (.s 5) vU <| .nil, [3, 2, 1], [0], 0⟩)]
def ajB (i1 : (Int) × Unit) (i : Int × List UInt8 × Unit) (a : Bool × List Int × Unit) : TT (um ⊕ (uA ⊕ uq)) :=
 .need (inc i1.1 (len i.2.1)) <| .ite (List.take (List.length i.2.1 - Int.toNat i1.1) (List.drop (Int.toNat i1.1) i.2.1) == #[].toList)
 (.ok (.inr (.inr ((#[48].toList, ())))))
 (.ite (a.1)
 (.need (List.length #[45].toList + List.length (List.take (List.length i.2.1 - Int.toNat i1.1) (List.drop (Int.toNat i1.1) i.2.1)) ≤ lim) <| .ok (.inr (.inr ((#[45].toList ++ List.take (List.length i.2.1 - Int.toNat i1.1) (List.drop (Int.toNat i1.1) i.2.1), ())))))
 (.ok (.inr (.inr ((List.take (List.length i.2.1 - Int.toNat i1.1) (List.drop (Int.toNat i1.1) i.2.1), ()))))))
def axN (a : Bool × List Int × Unit) (i : Int × List UInt8 × Unit) (i1 : (Int) × Unit) : TT (um ⊕ (uA ⊕ uq)) :=
 .ite (decide (i1.1 < len i.2.1))
 (.need (inb i1.1 (len i.2.1)) <| .ite ((↑(UInt8.toNat (gi i.2.1 i1.1 0)) : Int) == 48)
  (.tt <| .lt (w64 (i1.1 + 1) : Int) fun z3 => .vA (vF z3 i.2.1 (#[].toList : List UInt8) <| ub ∧ True) <| .vA (vz (vH 138 a.1 a.2.1) True) <| .ok (.inl ((z3, ()))))
  (ajB i1 i a))
 (ajB i1 i a)
def apO (a : Bool × List Int × Unit) (i : (Int) × (List UInt8) × Unit) : TT (uA ⊕ uq) :=
 .ite (decide (i.1 ≥ 0))
 (.need (inb i.1 (len a.2.1)) <| .call (aoO (gi a.2.1 i.1 0, ())) Dd2 fun y =>
 .need (List.length i.2.1 + List.length y.1 ≤ lim) <| .tt <| .lt (w64 (i.1 - 1) : Int) fun z1 => .lt (i.2.1 ++ y.1 : List UInt8) fun z2 => .vA (vF z2 z1 (#[].toList : List UInt8) <| ub ∧ True) <| .vA (vz (vH 138 a.1 a.2.1) True) <| .ok (.inl ((z1, z2, ()))))
 (.loop 1 (.tt <| .vA (vF (0 : Int) i.2.1 (#[].toList : List UInt8) <| ub ∧ True) <| .vA (vz (vH 138 a.1 a.2.1) True) <| .ok ((0, ()))) (axN a i))
def atM (a : Bool × List Int × Unit) : TT uq :=
 .loop 0 (.tt <| .lt (w64 (len a.2.1 - 1) : Int) fun z => .vA (vF (#[].toList : List UInt8) z (#[].toList : List UInt8) <| ub ∧ True) <| .vA (vz (vH 138 a.1 a.2.1) True) <| .ok ((z, #[].toList, ()))) (apO a)
def aNf : LTab := []
def aFQ (a : Bool × List Int × Unit) : TT uf :=
 .call (ai0 ((a.1, a.2.1, ()), ())) Dd2 fun y =>
 .ite (a.1)
 (.ite (decide (w64 (len y.1 - 1) > 600))
 (.ok ((#[].toList, 6, ())))
 (.ok ((y.1, 0, ()))))
 (.ite (decide (len y.1 > 600))
 (.ok ((#[].toList, 6, ())))
 (.ok ((y.1, 0, ()))))
def aHg : LTab := [(191, 58, 10240, ⟨0, (Int) × Unit, .dat (.s 5) vU <| .nil, [0, 1], [], 0⟩)]
def atI (a : List Int) (b : List Int) (i : (Int) × Unit) : TT (um ⊕ ue) :=
 .ite (decide (i.1 ≥ 0))
 (.need (inb i.1 (len a)) <| .need (inb i.1 (len b)) <| .ite (gi a i.1 0 != gi b i.1 0)
 (.need (inb i.1 (len a)) <| .need (inb i.1 (len b)) <| .ok (.inr ((w64 (gi a i.1 0 - gi b i.1 0), ()))))
 (.tt <| .lt (w64 (i.1 - 1) : Int) fun z1 => .vA (vH z1 a b) <| .tr <| .ok (.inl ((z1, ())))))
 (.ok (.inr ((0, ()))))
def apL (a : List Int) (b : List Int) : TT ue :=
 .ite (len a != len b)
 (.ok ((w64 (len a - len b), ())))
 (.loop 0 (.tt <| .lt (w64 (len a - 1) : Int) fun z => .vA (vH z a b) <| .tr <| .ok ((z, ()))) (atI a b))
def aNc : LTab := [(193, 122, 4098, ⟨0, (Int) × (Int) × Bool × (List Int) × Unit, .dat (.s 7) vU <| .dat (.s 6) vU <| .appN (.s 5) 4 3 vU <| .nil, [4, 0, 1], [], 1⟩)]
def ad3 (i : (Int) × (Int) × Bool × (List Int) × Unit) (a : List Int) (b : List Int) : TT uw :=
 .ite (decide (i.1 < len a))
 (.need (inb i.1 (len a)) <| .ite (decide (i.1 < len b))
 (.need (inb i.1 (len b)) <| .triv (asT Int 10000 ≠ 0) zf <| .need ((List.length i.2.2.2.1 + 1) * 8 ≤ 140737488355328) <| .triv (asT Int 10000 ≠ 0) zf <| .tt <| .lt (w64 (i.1 + 1) : Int) fun z36 => .lt (w64 (Int.tdiv (w64 (w64 (i.2.1 + gi a i.1 0) + gi b i.1 0)) 10000) : Int) fun z37 => .lt (List.take (List.length i.2.2.2.1) i.2.2.2.1 ++ [Int.tmod (w64 (w64 (i.2.1 + gi a i.1 0) + gi b i.1 0)) 10000] : List Int) fun z38 => .need ((((4) = (4)) ∧ (((0) = (0)) ∧ ((List.length i.2.2.2.1 + 1 = List.length z38) ∧ ((true) = (true))))) ∧ ((z37 : Int) = z37) ∧ ((z36 : Int) = z36) ∧ True ∧ ((a) = (a)) ∧ ((b) = (b)) ∧ True) <| .vA (vz (vI 3 z38) True) <| .ok (.inl ((z36, z37, false, z38, ()))))
 (.triv (asT Int 10000 ≠ 0) zf <| .need ((List.length i.2.2.2.1 + 1) * 8 ≤ 140737488355328) <| .triv (asT Int 10000 ≠ 0) zf <| .tt <| .lt (w64 (i.1 + 1) : Int) fun z39 => .lt (w64 (Int.tdiv (w64 (i.2.1 + gi a i.1 0)) 10000) : Int) fun z40 => .lt (List.take (List.length i.2.2.2.1) i.2.2.2.1 ++ [Int.tmod (w64 (i.2.1 + gi a i.1 0)) 10000] : List Int) fun z41 => .need ((((4) = (4)) ∧ (((0) = (0)) ∧ ((List.length i.2.2.2.1 + 1 = List.length z41) ∧ ((true) = (true))))) ∧ ((z40 : Int) = z40) ∧ ((z39 : Int) = z39) ∧ True ∧ ((a) = (a)) ∧ ((b) = (b)) ∧ True) <| .vA (vz (vI 3 z41) True) <| .ok (.inl ((z39, z40, false, z41, ())))))
 (.ite (decide (i.1 < len b))
 (.need (inb i.1 (len b)) <| .triv (asT Int 10000 ≠ 0) zf <| .need ((List.length i.2.2.2.1 + 1) * 8 ≤ 140737488355328) <| .triv (asT Int 10000 ≠ 0) zf <| .tt <| .lt (w64 (i.1 + 1) : Int) fun z42 => .lt (w64 (Int.tdiv (w64 (i.2.1 + gi b i.1 0)) 10000) : Int) fun z43 => .lt (List.take (List.length i.2.2.2.1) i.2.2.2.1 ++ [Int.tmod (w64 (i.2.1 + gi b i.1 0)) 10000] : List Int) fun z44 => .need ((((4) = (4)) ∧ (((0) = (0)) ∧ ((List.length i.2.2.2.1 + 1 = List.length z44) ∧ ((true) = (true))))) ∧ ((z43 : Int) = z43) ∧ ((z42 : Int) = z42) ∧ True ∧ ((a) = (a)) ∧ ((b) = (b)) ∧ True) <| .vA (vz (vI 3 z44) True) <| .ok (.inl ((z42, z43, false, z44, ()))))
 (.triv (asT Int 10000 ≠ 0) zf <| .need ((List.length i.2.2.2.1 + 1) * 8 ≤ 140737488355328) <| .triv (asT Int 10000 ≠ 0) zf <| .tt <| .lt (w64 (i.1 + 1) : Int) fun z45 => .lt (w64 (Int.tdiv i.2.1 10000) : Int) fun z46 => .lt (List.take (List.length i.2.2.2.1) i.2.2.2.1 ++ [Int.tmod i.2.1 10000] : List Int) fun z47 => .need ((((4) = (4)) ∧ (((0) = (0)) ∧ ((List.length i.2.2.2.1 + 1 = List.length z47) ∧ ((true) = (true))))) ∧ ((z46 : Int) = z46) ∧ ((z45 : Int) = z45) ∧ True ∧ ((a) = (a)) ∧ ((b) = (b)) ∧ True) <| .vA (vz (vI 3 z47) True) <| .ok (.inl ((z45, z46, false, z47, ())))))
def ad2 (i : (Int) × (Int) × Bool × (List Int) × Unit) (a : List Int) (b : List Int) : TT uw :=
 .ite (decide (i.1 < len a))
 (.need (inb i.1 (len a)) <| .ite (decide (i.1 < len b))
 (.need (inb i.1 (len b)) <| .triv (asT Int 10000 ≠ 0) zf <| .need (1 * 8 ≤ 140737488355328) <| .triv (asT Int 10000 ≠ 0) zf <| .tt <| .lt (w64 (i.1 + 1) : Int) fun z => .lt (w64 (Int.tdiv (w64 (w64 (i.2.1 + gi a i.1 0) + gi b i.1 0)) 10000) : Int) fun z1 => .lt ([Int.tmod (w64 (w64 (i.2.1 + gi a i.1 0) + gi b i.1 0)) 10000] : List Int) fun z2 => .vA (uI ∧ (vL z1 z <| True ∧ vN a b)) <| .vA (vz (vI 3 z2) True) <| .ok (.inl ((z, z1, false, z2, ()))))
 (.triv (asT Int 10000 ≠ 0) zf <| .need (1 * 8 ≤ 140737488355328) <| .triv (asT Int 10000 ≠ 0) zf <| .tt <| .lt (w64 (i.1 + 1) : Int) fun z3 => .lt (w64 (Int.tdiv (w64 (i.2.1 + gi a i.1 0)) 10000) : Int) fun z4 => .lt ([Int.tmod (w64 (i.2.1 + gi a i.1 0)) 10000] : List Int) fun z5 => .vA (uI ∧ (vL z4 z3 <| True ∧ vN a b)) <| .vA (vz (vI 3 z5) True) <| .ok (.inl ((z3, z4, false, z5, ())))))
 (.ite (decide (i.1 < len b))
 (.need (inb i.1 (len b)) <| .triv (asT Int 10000 ≠ 0) zf <| .need (1 * 8 ≤ 140737488355328) <| .triv (asT Int 10000 ≠ 0) zf <| .tt <| .lt (w64 (i.1 + 1) : Int) fun z6 => .lt (w64 (Int.tdiv (w64 (i.2.1 + gi b i.1 0)) 10000) : Int) fun z7 => .lt ([Int.tmod (w64 (i.2.1 + gi b i.1 0)) 10000] : List Int) fun z8 => .vA (uI ∧ (vL z7 z6 <| True ∧ vN a b)) <| .vA (vz (vI 3 z8) True) <| .ok (.inl ((z6, z7, false, z8, ()))))
 (.triv (asT Int 10000 ≠ 0) zf <| .need (1 * 8 ≤ 140737488355328) <| .triv (asT Int 10000 ≠ 0) zf <| .tt <| .lt (w64 (i.1 + 1) : Int) fun z9 => .lt (w64 (Int.tdiv i.2.1 10000) : Int) fun z10 => .lt ([Int.tmod i.2.1 10000] : List Int) fun z11 => .vA (uI ∧ (vL z10 z9 <| True ∧ vN a b)) <| .vA (vz (vI 3 z11) True) <| .ok (.inl ((z9, z10, false, z11, ())))))
def akF (a : List Int) (b : List Int) (i : (Int) × (Int) × Bool × (List Int) × Unit) : TT uw :=
 .ite (i.2.2.1)
 (.ite (decide (i.1 < len a))
  (ad2 i a b)
  (.ite (decide (i.1 < len b))
   (ad2 i a b)
   (.ite (decide (i.2.1 > 0))
    (ad2 i a b)
    (.ok (.inr (([], ())))))))
 (.ite (decide (i.1 < len a))
  (ad3 i a b)
  (.ite (decide (i.1 < len b))
   (ad3 i a b)
   (.ite (decide (i.2.1 > 0))
    (ad3 i a b)
    (.ok (.inr ((List.take (List.length i.2.2.2.1) i.2.2.2.1, ())))))))
def aFO (a : List Int) (b : List Int) : TT vZ :=
 .loop 0 (.tt <| .vA (True ∧ (vL (0 : Int) (0 : Int) <| True ∧ vN a b)) <| .tr <| .ok ((0, 0, true, [], ()))) (akF a b)
def atL : LTab := [(192, 122, 4098, ⟨0, (Int) × (Int) × Bool × (List Int) × Unit, .dat (.s 7) vU <| .dat (.s 6) vU <| .appN (.s 5) 4 3 vU <| .nil, [4, 0, 1], [], 1⟩)]
def ab9 (a : List Int) (b : List Int) (i : (Int) × (Int) × Bool × (List Int) × Unit) : TT uw :=
 .ite (i.2.2.1)
 (.ite (decide (i.1 < len a))
 (.need (inb i.1 (len a)) <| .ite (decide (i.1 < len b))
 (.need (inb i.1 (len b)) <| .ite (decide (w64 (w64 (gi a i.1 0 - i.2.1) - gi b i.1 0) < 0))
 (.need (1 * 8 ≤ 140737488355328) <| .tt <| .lt (w64 (i.1 + 1) : Int) fun z => .lt ([w64 (w64 (w64 (gi a i.1 0 - i.2.1) - gi b i.1 0) + 10000)] : List Int) fun z1 => .vA (uI ∧ (vL (1 : Int) z <| True ∧ vN a b)) <| .vA (vz (vI 3 z1) True) <| .ok (.inl ((z, 1, false, z1, ()))))
 (.need (1 * 8 ≤ 140737488355328) <| .tt <| .lt (w64 (i.1 + 1) : Int) fun z2 => .lt ([w64 (w64 (gi a i.1 0 - i.2.1) - gi b i.1 0)] : List Int) fun z3 => .vA (uI ∧ (vL (0 : Int) z2 <| True ∧ vN a b)) <| .vA (vz (vI 3 z3) True) <| .ok (.inl ((z2, 0, false, z3, ())))))
 (.ite (decide (w64 (gi a i.1 0 - i.2.1) < 0))
 (.need (1 * 8 ≤ 140737488355328) <| .tt <| .lt (w64 (i.1 + 1) : Int) fun z4 => .lt ([w64 (w64 (gi a i.1 0 - i.2.1) + 10000)] : List Int) fun z5 => .vA (uI ∧ (vL (1 : Int) z4 <| True ∧ vN a b)) <| .vA (vz (vI 3 z5) True) <| .ok (.inl ((z4, 1, false, z5, ()))))
 (.need (1 * 8 ≤ 140737488355328) <| .tt <| .lt (w64 (i.1 + 1) : Int) fun z6 => .lt ([w64 (gi a i.1 0 - i.2.1)] : List Int) fun z7 => .vA (uI ∧ (vL (0 : Int) z6 <| True ∧ vN a b)) <| .vA (vz (vI 3 z7) True) <| .ok (.inl ((z6, 0, false, z7, ()))))))
 (.call (adE ([], ())) aDx fun y =>
 .ok (.inr ((y.1, ())))))
 (.ite (decide (i.1 < len a))
 (.need (inb i.1 (len a)) <| .ite (decide (i.1 < len b))
 (.need (inb i.1 (len b)) <| .ite (decide (w64 (w64 (gi a i.1 0 - i.2.1) - gi b i.1 0) < 0))
 (.need ((List.length i.2.2.2.1 + 1) * 8 ≤ 140737488355328) <| .tt <| .lt (w64 (i.1 + 1) : Int) fun z8 => .lt (List.take (List.length i.2.2.2.1) i.2.2.2.1 ++ [w64 (w64 (w64 (gi a i.1 0 - i.2.1) - gi b i.1 0) + 10000)] : List Int) fun z9 => .need ((((4) = (4)) ∧ (((0) = (0)) ∧ ((List.length i.2.2.2.1 + 1 = List.length z9) ∧ ((true) = (true))))) ∧ ((1 : Int) = 1) ∧ ((z8 : Int) = z8) ∧ True ∧ ((a) = (a)) ∧ ((b) = (b)) ∧ True) <| .vA (vz (vI 3 z9) True) <| .ok (.inl ((z8, 1, false, z9, ()))))
 (.need ((List.length i.2.2.2.1 + 1) * 8 ≤ 140737488355328) <| .tt <| .lt (w64 (i.1 + 1) : Int) fun z10 => .lt (List.take (List.length i.2.2.2.1) i.2.2.2.1 ++ [w64 (w64 (gi a i.1 0 - i.2.1) - gi b i.1 0)] : List Int) fun z11 => .need ((((4) = (4)) ∧ (((0) = (0)) ∧ ((List.length i.2.2.2.1 + 1 = List.length z11) ∧ ((true) = (true))))) ∧ ((0 : Int) = 0) ∧ ((z10 : Int) = z10) ∧ True ∧ ((a) = (a)) ∧ ((b) = (b)) ∧ True) <| .vA (vz (vI 3 z11) True) <| .ok (.inl ((z10, 0, false, z11, ())))))
 (.ite (decide (w64 (gi a i.1 0 - i.2.1) < 0))
 (.need ((List.length i.2.2.2.1 + 1) * 8 ≤ 140737488355328) <| .tt <| .lt (w64 (i.1 + 1) : Int) fun z12 => .lt (List.take (List.length i.2.2.2.1) i.2.2.2.1 ++ [w64 (w64 (gi a i.1 0 - i.2.1) + 10000)] : List Int) fun z13 => .need ((((4) = (4)) ∧ (((0) = (0)) ∧ ((List.length i.2.2.2.1 + 1 = List.length z13) ∧ ((true) = (true))))) ∧ ((1 : Int) = 1) ∧ ((z12 : Int) = z12) ∧ True ∧ ((a) = (a)) ∧ ((b) = (b)) ∧ True) <| .vA (vz (vI 3 z13) True) <| .ok (.inl ((z12, 1, false, z13, ()))))
 (.need ((List.length i.2.2.2.1 + 1) * 8 ≤ 140737488355328) <| .tt <| .lt (w64 (i.1 + 1) : Int) fun z14 => .lt (List.take (List.length i.2.2.2.1) i.2.2.2.1 ++ [w64 (gi a i.1 0 - i.2.1)] : List Int) fun z15 => .need ((((4) = (4)) ∧ (((0) = (0)) ∧ ((List.length i.2.2.2.1 + 1 = List.length z15) ∧ ((true) = (true))))) ∧ ((0 : Int) = 0) ∧ ((z14 : Int) = z14) ∧ True ∧ ((a) = (a)) ∧ ((b) = (b)) ∧ True) <| .vA (vz (vI 3 z15) True) <| .ok (.inl ((z14, 0, false, z15, ()))))))
 (.call (adE (List.take (List.length i.2.2.2.1) i.2.2.2.1, ())) aDx fun y1 =>
 .ok (.inr ((y1.1, ())))))
def akG (a : List Int) (b : List Int) : TT vZ :=
 .loop 0 (.tt <| .vA (True ∧ (vL (0 : Int) (0 : Int) <| True ∧ vN a b)) <| .tr <| .ok ((0, 0, true, [], ()))) (ab9 a b)
def aBO : LTab := [(188, 58, 9217, ⟨0, (Int) × (List Int) × Unit, .dat (.s 6) vU <| .row 6 vU <| .nil, [5, 4, 0, 1], [6], 0⟩), (188, 14922, 15361, ⟨1, (Int) × (Int) × (List Int) × Unit, .dat (.s 8) vU <| .dat (.s 7) vU <| .row 6 vU <| .nil, [18, 17, 16, 15, 6, 5, 4, 0, 1], [6], 0⟩)]
def aeG (a : List Int) (b : List Int) (i : Int × List Int × Unit) (i1 : (Int) × (Int) × (List Int) × Unit) : TT (ul ⊕ uE) :=
 .ite (decide (i1.1 < len b))
 (.need (inb (w64 (i.1 + i1.1)) (↑(Int.toNat (w64 (len a + len b))) : Int)) <| .need (inb i.1 (len a)) <| .need (inb i1.1 (len b)) <| .triv (asT Int 10000 ≠ 0) zf <| .need (inb (w64 (i.1 + i1.1)) (↑(Int.toNat (w64 (len a + len b))) : Int)) <| .triv (asT Int 10000 ≠ 0) zf <| .tt <| .lt (w64 (i1.1 + 1) : Int) fun z2 => .lt (w64 (Int.tdiv (w64 (w64 (i1.2.1 + List.getD i1.2.2.1 (0 + Int.toNat (w64 (i.1 + i1.1))) 0) + w64 (gi a i.1 0 * gi b i1.1 0))) 10000) : Int) fun z3 => .lt (List.set i1.2.2.1 (0 + Int.toNat (w64 (i.1 + i1.1))) (Int.tmod (w64 (w64 (i1.2.1 + List.getD i1.2.2.1 (0 + Int.toNat (w64 (i.1 + i1.1))) 0) + w64 (gi a i.1 0 * gi b i1.1 0))) 10000) : List Int) fun z4 => .vA (vO z3 z2 (decide (i.1 < len a)) (len a) a i.1 i.1 <| (vJ 6 0 (Int.toNat (w64 (len a + len b))) true) ∧ True ∧ vN a b) <| .vA (vz (vI 3 z4) True) <| .ok (.inl ((z2, z3, z4, ()))))
 (.need (inb (w64 (i.1 + len b)) (↑(Int.toNat (w64 (len a + len b))) : Int)) <| .tt <| .lt (w64 (i.1 + 1) : Int) fun z5 => .lt (List.set i1.2.2.1 (0 + Int.toNat (w64 (i.1 + len b))) i1.2.1 : List Int) fun z6 => .vA (vD z5 <| (vJ 6 0 (Int.toNat (w64 (len a + len b))) true) ∧ True ∧ vN a b) <| .vA (vz (vI 3 z6) True) <| .ok (.inr (.inl ((z5, z6, ())))))
def ajA (a : List Int) (b : List Int) (i : (Int) × (List Int) × Unit) : TT uE :=
 .ite (decide (i.1 < len a))
 (.loop 1 (.tt <| .lt (i.2.1 : List Int) fun z1 => .vA (vO (0 : Int) (0 : Int) (decide (i.1 < len a)) (len a) a i.1 i.1 <| (vJ 6 0 (Int.toNat (w64 (len a + len b))) true) ∧ True ∧ vN a b) <| .vA (vz (vI 3 z1) True) <| .ok ((0, 0, z1, ()))) (aeG a b i))
 (.call (adE (List.take (Int.toNat (w64 (len a + len b))) i.2.1, ())) aDx fun y =>
 .ok (.inr ((y.1, ()))))
def ae5 (a : List Int) (b : List Int) : TT vZ :=
 .need (0 ≤ w64 (len a + len b) ∧ w64 (len a + len b) ≤ w64 (len a + len b) ∧ w64 (len a + len b) * (↑8 : Int) ≤ 140737488355328) <| .loop 0 (.tt <| .lt (List.replicate (Int.toNat (w64 (len a + len b))) 0 : List Int) fun z => .vA (vD (0 : Int) <| (vJ 6 0 (Int.toNat (w64 (len a + len b))) true) ∧ True ∧ vN a b) <| .vA (vz (vI 3 z) True) <| .ok ((0, z, ()))) (ajA a b)
def aJq : LTab := [(190, 122, 11265, ⟨0, (Int) × (Int) × (List Int) × Unit, .dat (.s 8) vU <| .dat (.s 7) vU <| .row 4 vU <| .nil, [6, 5, 4, 0, 1], [4], 0⟩)]
def apM (a : List Int) (d : Int) (i : (Int) × (Int) × (List Int) × Unit) : TT (ul ⊕ uU) :=
 .ite (decide (i.1 ≥ 0))
 (.need (inb i.1 (len a)) <| .need (d ≠ 0) <| .need (inb i.1 (↑(Int.toNat (len a)) : Int)) <| .need (d ≠ 0) <| .tt <| .lt (w64 (i.1 - 1) : Int) fun z2 => .lt (Int.tmod (w64 (w64 (i.2.1 * 10000) + gi a i.1 0)) d : Int) fun z3 => .lt (List.set i.2.2.1 (0 + Int.toNat i.1) (w64 (Int.tdiv (w64 (w64 (i.2.1 * 10000) + gi a i.1 0)) d)) : List Int) fun z4 => .vA (vL z3 z2 <| (vJ 4 0 (Int.toNat (len a)) true) ∧ (vD (0 : Int) <| True ∧ vN a d)) <| .vA (vz (vI 3 z4) True) <| .ok (.inl ((z2, z3, z4, ()))))
 (.call (adE (List.take (Int.toNat (len a)) i.2.2.1, ())) aDx fun y =>
 .ok (.inr ((y.1, i.2.1, ()))))
def atJ (a : List Int) (d : Int) : TT uU :=
 .need (0 ≤ len a ∧ len a ≤ len a ∧ len a * (↑8 : Int) ≤ 140737488355328) <| .loop 0 (.tt <| .lt (w64 (len a - 1) : Int) fun z => .lt (List.replicate (Int.toNat (len a)) 0 : List Int) fun z1 => .vA (vL (0 : Int) z <| (vJ 4 0 (Int.toNat (len a)) true) ∧ (vD (0 : Int) <| True ∧ vN a d)) <| .vA (vz (vI 3 z1) True) <| .ok ((z, 0, z1, ()))) (apM a d)
end
theorem af8 {l : List Int} (h : Dg 10000 l) (hl : l.length ≤ 1000000000000) {n : Nat} (hv : V 10000 l = n) : adE (l, ()) = some (dig n, ()) := by
 unfold adE
 rw [if_pos ⟨h, hl⟩]
 simp only [hv, zm]
theorem aHh (d : List Int) (y) (h : adE (d, ()) = some y) : (aFP d).toO = some y := by
 unfold adE at h
 split at h
 case isFalse => cases h
 case isTrue hp =>
 obtain ⟨hd, hl⟩ := hp
 dsimp only at hd hl h
 injection h with h
 subst h
 refine uO ((d.length : Int), ()) rfl ?_
 refine aaS (fun i : Int × Unit => ∃ k : Nat, k ≤ d.length ∧ i = ((k : Int), ()) ∧ V 10000 (d.take k) = V 10000 d) (fun i => i.1.toNat) (fun _ => (dig (V 10000 d).toNat, ())) ?_ _ ⟨_, zj _, rfl, by rw [zu]⟩
 rintro i ⟨k, h1, rfl, h2⟩
 have hn := aaO zb hd
 have fin : Cn (d.take k) → d.take k = dig (V 10000 d).toNat := fun hc => aAE (acT hd k) hc (by rw [h2]; omega)
 unfold aBT
 rcases zC k with h0 | h0
 ·right
  subst h0
  refine uF sd (uN sd ?_)
  show some (Sum.inr (d.take (Int.toNat (0 : Nat)), ())) = _
  rw [zm, fin (by simp [Cn])]
 ·have hw : w64 ((k : Int) - 1) = ((k - 1 : Nat) : Int) := by rw [aaA (x := (k : Int) - 1) zb]; omega
  have hg : d.getD (k - 1) 0 = d[k - 1] := by simp [show k - 1 < d.length by omega]
  have ht := ajX 10000 (l := d) (i := k - 1) zb
  rw [show k - 1 + 1 = k by omega] at ht
  simp only [hw, aaP, hg]
  by_cases c : d[k - 1] = 0
  ·left
   refine ⟨(((k - 1 : Nat) : Int), ()), ?_, ⟨k - 1, by omega, rfl, ?_⟩, by dsimp only; omega, zd⟩
   ·refine uT sd (uN sd (uT (by rw [c]; rfl) ?_))
    repeat refine za ?_
    rfl
   ·rw [← h2, ht, c]; simp
  ·right
   refine uT sd (uN sd (uF (by simpa using c) (uN sd ?_)))
   show some (Sum.inr (d.take (Int.toNat (k : Int)), ())) = _
   rw [zm, fin ?_]
   unfold Cn
   rw [yR, zT, yx h1, zV, if_pos zb, zJ zb]
   simpa using c
theorem aD7 (b : Bool) (d : List Int) (y) (h : abO (b, d, ()) = some y) : (aBR b d).toO = some y := by
 unfold abO at h
 split at h
 case isFalse => cases h
 case isTrue hp =>
 obtain ⟨hd, hl⟩ := hp
 dsimp only at hd hl h
 injection h with h
 subst h
 obtain ⟨n, hn⟩ := zE (aaO zb hd)
 rw [hn, zm]
 refine uC _ (af8 hd hl hn) ?_
 have e : decide (len (dig n) > 0) = decide ((n : Int) ≠ 0) := by
  refine decide_eq_decide.2 ?_
  have := dig_nil_iff (n := n)
  rw [aaI]
  constructor
  ·intro h h2
   rw [this.2 zb] at h
   simp at h
  ·intro h
   rcases zC (dig n).length with h3 | h3
   ·have := this.1 (zU.1 h3); omega
   ·omega
 cases b
 ·exact uF rfl rfl
 ·refine uT rfl ?_
  show some ((decide (len (dig n) > 0), dig n, ()), ()) = _
  rw [e]; rfl
theorem av7 {l : List Int} {b : Bool} {z : Int} (h : Dg 10000 l) (hl : l.length ≤ 1000000000000) (hv : V 10000 l = z.natAbs) (hb : z = 0 ∨ b = decide (z < 0)) : abO (b, l, ()) = some (pl z, ()) := by
 unfold abO
 rw [if_pos ⟨h, hl⟩]
 simp only [hv, zm]
 congr 2
 unfold pl
 congr 1
 by_cases h0 : z = 0
 ·subst h0; simp
 ·rw [zl (show ((z.natAbs : Int) ≠ 0) by omega), Bool.and_true]
  rcases hb with h2 | h2
  ·exact absurd h2 h0
  ·exact h2
theorem af2 {n : Nat} {b : Bool} {z : Int} (hl : (dig n).length ≤ 1000000000000) (hv : n = z.natAbs) (hb : z = 0 ∨ b = decide (z < 0)) : abO (b, dig n, ()) = some (pl z, ()) := av7 (adW n) hl (by rw [ahS, hv]) hb
theorem aMk {n : Nat} (h : n < 10000) : aoO ((n : Int), ()) = some (awU n, ()) := aaN (enc := fun x : Nat => ((x : Int), ())) n h (fun b hb => Int.ofNat.inj (Prod.mk.inj hb).1)
theorem aD8 (n : Int) (y) (h : aoO (n, ()) = some y) : (atK n).toO = some y := by
 obtain ⟨k, hk, hx, rfl⟩ := aaH h
 obtain ⟨rfl, -⟩ := Prod.mk.inj hx
 have d1 : ∀ m : Nat, 0 < m → Int.tdiv (k : Int) m = ((k / m : Nat) : Int) := fun m hm => by rw [zQ zb]; simp
 have e1 := d1 1000 zb
 have e2 := d1 100 zb
 have e3 := d1 10 zb
 have m1 : ∀ j : Nat, Int.tmod (j : Int) 10 = ((j % 10 : Nat) : Int) := fun j => by rw [yd zb]; omega
 have w1 : ∀ j : Nat, j < 10000 → w64 (j : Int) = j := fun j hj => aaA zb
 have w2 : ∀ j : Nat, j < 10 → wu8 (w64 (48 + (j : Int))) = ((48 + j : Nat) : Int) := fun j hj => by rw [aaA (x := 48 + (j : Int)) zb, acE zb]; omega
 unfold atK
 have f1 : Int.tdiv (k : Int) 1000 = ((k / 1000 : Nat) : Int) := e1
 have f2 : Int.tdiv (k : Int) 100 = ((k / 100 : Nat) : Int) := e2
 have f3 : Int.tdiv (k : Int) 10 = ((k / 10 : Nat) : Int) := e3
 refine uV (uV (uV (uV (uV (uV ?_)))))
 rw [aaQ, f1, f2, f3, w1 (k / 1000) zb, w1 (k / 100) zb, w1 (k / 10) zb, m1, m1, m1, w2 _ zb, w2 _ zb, w2 _ zb, w2 _ zb]
 rfl
theorem aqQ (a b : List Int) (h1 : Dg 10000 a) (h2 : Dg 10000 b) (h3 : a.length ≤ 1000000000000) (h4 : b.length ≤ 1000000000000) : afV (a, b, ()) = some (aPq a b, ()) := by unfold afV; rw [if_pos ⟨h1, h2, h3, h4⟩]
theorem aBQ (a b : List Int) (y) (h : afV (a, b, ()) = some y) : (apL a b).toO = some y := by
 unfold afV at h
 split at h
 case isFalse => cases h
 case isTrue hp =>
 obtain ⟨ha, hb, hl, hl2⟩ := hp
 dsimp only at ha hb hl hl2 h
 injection h with h
 subst h
 unfold apL aPq
 by_cases c : a.length = b.length
 case neg =>
  rw [if_pos c]
  refine uT sd ?_
  rw [aaQ, aaI, aaI, aaA zb]
 rw [if_neg (fun h => h c)]
 refine uF sd ?_
 refine uO ((a.length : Int) - 1, ()) ?_ ?_
 ·repeat refine za ?_
  rw [aaQ, aaI, aaA zb]
 refine aaS (fun i : Int × Unit => ∃ k : Nat, k ≤ a.length ∧ i = ((k : Int) - 1, ()) ∧ aMM a b a.length = aMM a b k) (fun i => (i.1 + 1).toNat) (fun _ => (aMM a b a.length, ())) ?_ _ ⟨_, zj _, rfl, rfl⟩
 rintro i ⟨k, h1, rfl, h2⟩
 unfold atI
 dsimp only
 cases k with
 | zero =>
  right
  refine uF sd ?_
  rw [h2]; rfl
 | succ j =>
  have e6 : ((j + 1 : Nat) : Int) - 1 = (j : Int) := zb
  simp only [e6, aaP]
  have da := aa5 zb ha j
  have db := aa5 zb hb j
  by_cases c2 : a.getD j 0 = b.getD j 0
  ·left
   refine ⟨((j : Int) - 1, ()), ?_, ⟨j, by omega, rfl, ?_⟩, by dsimp only; omega, zd⟩
   ·refine uT sd (uN sd (uN sd (uF (by rw [c2]; simp) ?_)))
    repeat refine za ?_
    rw [aaQ, aaA zb]
   ·rw [h2]; show (if _ then _ else _) = _; rw [if_neg (fun h => h c2)]
  ·right
   refine uT sd (uN sd (uN sd (uT (by simpa using c2) (uN sd (uN sd ?_)))))
   rw [aaQ, aaA zb, h2]
   show _ = some (Sum.inr (if _ then _ else _, ()))
   rw [if_pos c2]
theorem aBk {a b : List Int} (ha : Dg 10000 a) (hb : Dg 10000 b) : ∀ k, (aMM a b k < 0 ↔ V 10000 (a.take k) < V 10000 (b.take k)) ∧ (aMM a b k = 0 ↔ V 10000 (a.take k) = V 10000 (b.take k))
 | 0 => by simp [aMM]
 | k + 1 => by
  obtain ⟨i1, i2⟩ := aBk ha hb k
  have ea := aa7 10000 a k
  have eb := aa7 10000 b k
  have la := adQ zb ha k
  have lb := adQ zb hb k
  have na := aaO zb (acT ha k)
  have nb := aaO zb (acT hb k)
  unfold aMM
  rw [ea, eb]
  by_cases c : a.getD k 0 = b.getD k 0
  ·rw [if_neg (fun h => h c), c]
   omega
  ·rw [if_pos c]
   rcases zP (a.getD k 0) (b.getD k 0) with h | h
   ·have h5 : (10000 : Int) ^ k * (a.getD k 0 + 1) ≤ 10000 ^ k * b.getD k 0 := zy zb zb
    rw [wi] at h5
    omega
   ·have h5 : (10000 : Int) ^ k * (b.getD k 0 + 1) ≤ 10000 ^ k * a.getD k 0 := zy zb zb
    rw [wi] at h5
    omega
theorem aFT (m n : Nat) : (aPq (dig m) (dig n) < 0 ↔ m < n) ∧ (aPq (dig m) (dig n) = 0 ↔ m = n) := by
 unfold aPq
 by_cases c : (dig m).length = (dig n).length
 ·rw [if_neg (fun h => h c)]
  obtain ⟨h1, h2⟩ := aBk (adW m) (adW n) (dig m).length
  rw [abN _ (zj _), abN _ zb, ahS, ahS] at h1 h2
  omega
 ·rw [if_pos c]
  rcases zv (dig m).length (dig n).length with h | h
  ·have := al5 h; omega
  ·have := al5 (m := n) (n := m) zb; omega
theorem aMU {a b s : List Int} {k : Nat} {c x c' : Int} (h5 : s.length = k) (h7 : V 10000 s + 10000 ^ k * c = V 10000 (a.take k) + V 10000 (b.take k)) (hx : x + 10000 * c' = a.getD k 0 + b.getD k 0 + c) : V 10000 (s ++ [x]) + 10000 ^ (k + 1) * c' = V 10000 (a.take (k + 1)) + V 10000 (b.take (k + 1)) := by
 rw [aeL, aw1, h5, aa7, aa7, yu]
 have : (10000 : Int) ^ k * (x + 10000 * c') = 10000 ^ k * (a.getD k 0 + b.getD k 0 + c) := by rw [hx]
 grind
theorem aMT {x : Int} (h : 0 ≤ x) : Int.tdiv x 10000 = x / 10000 := zQ h
theorem aMR {x : Int} (h : 0 ≤ x) : Int.tmod x 10000 = x % 10000 := yd h
theorem aHe (m o : List Int) (y) (h : asL (m, o, ()) = some y) : (aFO m o).toO = some y := by
 obtain ⟨⟨a, b⟩, hn, hx, rfl⟩ := aaH h
 obtain ⟨rfl, hx2⟩ := Prod.mk.inj hx; obtain ⟨rfl, -⟩ := Prod.mk.inj hx2; dsimp only
 obtain ⟨la, lb⟩ := hn
 simp only at la lb
 have hda := adW a
 have hdb := adW b
 have hVa := ahS a
 have hVb := ahS b
 clear hx hx2 h
 have hca := aGp a
 have hcb := aGp b
 generalize dig a = A at *
 generalize dig b = B at *
 refine uO (0, 0, true, [], ()) rfl ?_
 refine aaS (fun i : Int × Int × Bool × List Int × Unit => ∃ k : Nat, k ≤ A.length + B.length + 1 ∧ i.1 = (k : Int) ∧ 0 ≤ i.2.1 ∧ i.2.1 ≤ 1 ∧ i.2.2.2.1.length = k ∧ Dg 10000 i.2.2.2.1 ∧ V 10000 i.2.2.2.1 + 10000 ^ k * i.2.1 = V 10000 (A.take k) + V 10000 (B.take k) ∧ (i.2.2.1 = true → i.2.2.2.1 = []) ∧ (A.length ≤ k → B.length ≤ k → i.2.1 = 0 → Cn i.2.2.2.1) ∧ (i.2.1 = 0 ∨ k ≤ A.length ∨ k ≤ B.length)) (fun i => (((A.length + B.length + 2 : Nat) : Int) - i.1).toNat) (fun _ => (dig (a + b), ())) ?_ _ ⟨0, by omega, rfl, by simp, by simp, rfl, arR _, by simp [V], fun _ => rfl, fun _ _ _ => arS, Or.inl rfl⟩
 rintro ⟨i, c, f, s, u⟩ ⟨k, h1, h2, h3, h4, h5, h6, h7, h8, h9, h10⟩
 dsimp only at h2 h3 h4 h5 h6 h7 h8 h9 h10
 subst h2
 have da := aa5 zb hda k
 have db := aa5 zb hdb k
 have hS : 0 ≤ A.getD k 0 + B.getD k 0 + c := zb
 by_cases hgo : k < A.length ∨ k < B.length ∨ 0 < c
 ·left
  have e1 := yq (A.getD k 0 + B.getD k 0 + c) 10000
  refine ⟨(((k + 1 : Nat) : Int), (A.getD k 0 + B.getD k 0 + c) / 10000, false, s ++ [(A.getD k 0 + B.getD k 0 + c) % 10000], ()), ?_, ⟨k + 1, by omega, rfl, by dsimp only; omega, by dsimp only; omega, by simp; omega, aeZ h6 (ak6 zb zb), aMU h5 h7 e1, by simp, ?_, ?_⟩, by dsimp only; omega, zd⟩
  ·have zA : ¬ k < A.length → A.getD k 0 = 0 := fun h => ahK zb 0
   have zB : ¬ k < B.length → B.getD k 0 = 0 := fun h => ahK zb 0
   have eD : ∀ x : Int, x = A.getD k 0 + B.getD k 0 + c → Int.tdiv x 10000 = (A.getD k 0 + B.getD k 0 + c) / 10000 ∧ Int.tmod x 10000 = (A.getD k 0 + B.getD k 0 + c) % 10000 := fun x hx => by rw [hx]; exact ⟨aMT hS, aMR hS⟩
   have w1 : w64 (c + A.getD k 0) = c + A.getD k 0 := aaA zb
   have w2 : w64 (c + A.getD k 0 + B.getD k 0) = c + A.getD k 0 + B.getD k 0 := aaA zb
   have w3 : w64 (c + B.getD k 0) = c + B.getD k 0 := aaA zb
   have w4 : w64 ((A.getD k 0 + B.getD k 0 + c) / 10000) = (A.getD k 0 + B.getD k 0 + c) / 10000 := aaA zb
   have w5 : w64 ((k : Int) + 1) = ((k + 1 : Nat) : Int) := by rw [aaA (x := (k : Int) + 1) zb]; omega
   cases f with
   | true =>
    obtain rfl := h8 rfl
    simp only [akF, ad2, ad3, aaP, w1, w2, w3, w5]
    by_cases cA : k < A.length <;> by_cases cB : k < B.length
    ·obtain ⟨q1, q2⟩ := eD (c + A.getD k 0 + B.getD k 0) zb
     simp only [q1, q2, w4]
     repeat refine za ?_
     rfl
    ·obtain ⟨q1, q2⟩ := eD (c + A.getD k 0) (by have := zB cB; omega)
     simp only [q1, q2, w4]
     repeat refine za ?_
     rfl
    ·obtain ⟨q1, q2⟩ := eD (c + B.getD k 0) (by have := zA cA; omega)
     simp only [q1, q2, w4]
     repeat refine za ?_
     rfl
    ·obtain ⟨q1, q2⟩ := eD c (by have := zA cA; have := zB cB; omega)
     have hc0 : 0 < c := zb
     simp only [q1, q2, w4]
     repeat refine za ?_
     rfl
   | false =>
    simp only [akF, ad2, ad3, aaP, w1, w2, w3, w5, zu]
    by_cases cA : k < A.length <;> by_cases cB : k < B.length
    ·obtain ⟨q1, q2⟩ := eD (c + A.getD k 0 + B.getD k 0) zb
     simp only [q1, q2, w4]
     repeat refine za ?_
     rfl
    ·obtain ⟨q1, q2⟩ := eD (c + A.getD k 0) (by have := zB cB; omega)
     simp only [q1, q2, w4]
     repeat refine za ?_
     rfl
    ·obtain ⟨q1, q2⟩ := eD (c + B.getD k 0) (by have := zA cA; omega)
     simp only [q1, q2, w4]
     repeat refine za ?_
     rfl
    ·obtain ⟨q1, q2⟩ := eD c (by have := zA cA; have := zB cB; omega)
     have hc0 : 0 < c := zb
     simp only [q1, q2, w4]
     repeat refine za ?_
     rfl
  ·intro g1 g2 g3
   dsimp only at g3 ⊢
   unfold Cn
   simp only [List.getLast?_concat, ne_eq, Option.some.injEq]
   intro g4
   have hz : A.getD k 0 + B.getD k 0 + c = 0 := zb
   have ca : ¬ k < A.length := by
    intro hk
    have : k = A.length - 1 := zb
    unfold Cn at hca
    rw [yR, ← this, zJ hk] at hca
    rw [ajL hk] at *
    exact hca (by congr 1; omega)
   have cb : ¬ k < B.length := by
    intro hk
    have : k = B.length - 1 := zb
    unfold Cn at hcb
    rw [yR, ← this, zJ hk] at hcb
    rw [ajL hk] at *
    exact hcb (by congr 1; omega)
   omega
  ·dsimp only
   by_cases cA : k < A.length
   ·right; left; omega
   ·by_cases cB : k < B.length
    ·right; right; omega
    ·left
     have := ahK (l := A) (k := k) zb 0
     have := ahK (l := B) (k := k) zb 0
     omega
 ·right
  have hc : c = 0 := zb
  subst hc
  rw [abN _ zb, abN _ zb, hVa, hVb] at h7
  have hs : s = dig (a + b) := aAE h6 (h9 zb zb rfl) zb
  cases f with
  | true =>
   obtain rfl := h8 rfl
   unfold akF ad2 ad3
   repeat refine za ?_
   rw [← hs]; rfl
  | false =>
   unfold akF ad2 ad3
   repeat refine za ?_
   rw [← hs, aaQ, zu]
theorem ak4 {a b : List Int} (h1 : Dg 10000 a) (h2 : Dg 10000 b) (h3 : a.length ≤ 1000000000000) (h4 : b.length ≤ a.length) (h5 : V 10000 b ≤ V 10000 a) {n : Nat} (hn : V 10000 a - V 10000 b = n) : abJ (a, b, ()) = some (dig n, ()) := by
 unfold abJ
 rw [if_pos ⟨h1, h2, h3, h4, h5⟩]
 simp only [hn, zm]
theorem aLy {a b s : List Int} {k : Nat} {c x c' : Int} (h5 : s.length = k) (h7 : V 10000 s = V 10000 (a.take k) - V 10000 (b.take k) + 10000 ^ k * c) (hx : x = a.getD k 0 - b.getD k 0 - c + 10000 * c') : V 10000 (s ++ [x]) = V 10000 (a.take (k + 1)) - V 10000 (b.take (k + 1)) + 10000 ^ (k + 1) * c' := by
 rw [aeL, aw1, h5, aa7, aa7, yu, h7, hx]
 grind
theorem apN (A B : List Int) (y) (h : abJ (A, B, ()) = some y) : (akG A B).toO = some y := by
 unfold abJ at h
 split at h
 case isFalse => cases h
 case isTrue hp =>
 obtain ⟨hda, hdb, la, lb, hle⟩ := hp
 dsimp only at hda hdb la lb hle h
 injection h with h
 subst h
 refine uO (0, 0, true, [], ()) rfl ?_
 refine aaS (fun i : Int × Int × Bool × List Int × Unit => ∃ k : Nat, k ≤ A.length ∧ i.1 = (k : Int) ∧ 0 ≤ i.2.1 ∧ i.2.1 ≤ 1 ∧ i.2.2.2.1.length = k ∧ Dg 10000 i.2.2.2.1 ∧ V 10000 i.2.2.2.1 = V 10000 (A.take k) - V 10000 (B.take k) + 10000 ^ k * i.2.1 ∧ (i.2.2.1 = true → i.2.2.2.1 = [])) (fun i => ((A.length : Int) - i.1).toNat) (fun _ => (dig (V 10000 A - V 10000 B).toNat, ())) ?_ _ ⟨0, by omega, rfl, by simp, by simp, rfl, arR _, by simp [V], fun _ => rfl⟩
 rintro ⟨i, c, f, s, u⟩ ⟨k, h1, h2, h3, h4, h5, h6, h7, h8⟩
 dsimp only at h2 h3 h4 h5 h6 h7 h8
 subst h2
 have da := aa5 zb hda k
 have db := aa5 zb hdb k
 have w5 : w64 ((k : Int) + 1) = ((k + 1 : Nat) : Int) := by rw [aaA (x := (k : Int) + 1) zb]; omega
 have w1 : w64 (A.getD k 0 - c) = A.getD k 0 - c := aaA zb
 have w2 : w64 (A.getD k 0 - c - B.getD k 0) = A.getD k 0 - c - B.getD k 0 := aaA zb
 have w3 : w64 (A.getD k 0 - c + 10000) = A.getD k 0 - c + 10000 := aaA zb
 have w4 : w64 (A.getD k 0 - c - B.getD k 0 + 10000) = A.getD k 0 - c - B.getD k 0 + 10000 := aaA zb
 rcases zv k A.length with hk | hk
 ·left
  have fin : ∀ x c' : Int, 0 ≤ x ∧ x < 10000 → 0 ≤ c' ∧ c' ≤ 1 → x = A.getD k 0 - B.getD k 0 - c + 10000 * c' → (∃ k_1 : Nat, k_1 ≤ A.length ∧ ((k + 1 : Nat) : Int) = (k_1 : Int) ∧ 0 ≤ c' ∧ c' ≤ 1 ∧ (s ++ [x]).length = k_1 ∧ Dg 10000 (s ++ [x]) ∧ V 10000 (s ++ [x]) = V 10000 (A.take k_1) - V 10000 (B.take k_1) + 10000 ^ k_1 * c' ∧ (false = true → (s ++ [x]) = [])) ∧ ((A.length : Int) - ((k + 1 : Nat) : Int)).toNat < ((A.length : Int) - (k : Int)).toNat :=
   fun x c' hx hc he => ⟨⟨k + 1, by omega, rfl, hc.1, hc.2, by simp; omega, aeZ h6 (ak6 hx.1 hx.2), aLy h5 h7 he, by simp⟩, by omega⟩
  have zB : ¬ k < B.length → B.getD k 0 = 0 := fun h => ahK zb 0
  by_cases cn : A.getD k 0 - c - B.getD k 0 < 0
  ·obtain ⟨g1, g2⟩ := fin (A.getD k 0 - c - B.getD k 0 + 10000) 1 zb zb zb
   refine ⟨(((k + 1 : Nat) : Int), 1, false, s ++ [A.getD k 0 - c - B.getD k 0 + 10000], ()), ?_, g1, g2, zd⟩
   cases f with
   | true =>
    obtain rfl := h8 rfl
    simp only [ab9, aaP, w1, w2, w3, w4, w5]
    by_cases cB : k < B.length
    ·repeat refine za ?_
     rfl
    ·have := zB cB
     rw [this, wS] at *
     repeat refine za ?_
     rfl
   | false =>
    simp only [ab9, aaP, w1, w2, w3, w4, w5, zu]
    by_cases cB : k < B.length
    ·repeat refine za ?_
     rfl
    ·have := zB cB
     rw [this, wS] at *
     repeat refine za ?_
     rfl
  ·obtain ⟨g1, g2⟩ := fin (A.getD k 0 - c - B.getD k 0) 0 zb zb zb
   refine ⟨(((k + 1 : Nat) : Int), 0, false, s ++ [A.getD k 0 - c - B.getD k 0], ()), ?_, g1, g2, zd⟩
   cases f with
   | true =>
    obtain rfl := h8 rfl
    simp only [ab9, aaP, w1, w2, w3, w4, w5]
    by_cases cB : k < B.length
    ·repeat refine za ?_
     rfl
    ·have := zB cB
     rw [this, wS] at *
     repeat refine za ?_
     rfl
   | false =>
    simp only [ab9, aaP, w1, w2, w3, w4, w5, zu]
    by_cases cB : k < B.length
    ·repeat refine za ?_
     rfl
    ·have := zB cB
     rw [this, wS] at *
     repeat refine za ?_
     rfl
 ·right
  have hkk : k = A.length := zb
  subst hkk
  rw [abN _ (zj _), abN _ lb] at h7
  have hlt := aIz zb h6
  rw [h5] at hlt
  have hc : c = 0 := by
   rcases zP 0 c with hc | hc
   ·have hc1 : c = 1 := zb
    subst hc1
    omega
   ·omega
  subst hc
  cases f with
  | true =>
   obtain rfl := h8 rfl
   unfold ab9
   refine uT rfl (uF sd (uC (dig (V 10000 A - V 10000 B).toNat, ()) (af8 h6 zh zb) rfl))
  | false =>
   unfold ab9
   dsimp only
   rw [zu]
   refine uF rfl (uF sd (uC (dig (V 10000 A - V 10000 B).toNat, ()) (af8 h6 zb zb) rfl))
theorem aIv (Vs P c A K x T X Y d e Q B : Int) (h : Vs + P * c = A + K * (x * T)) (h2 : X + B * Y = c + d + x * e) (hP : P = K * Q) : Vs + P * (X - d) + P * B * Y = A + K * (x * (T + Q * e)) := by
 subst hP
 have h3 : K * Q * (X + B * Y) = K * Q * (c + d + x * e) := by rw [h2]
 grind
theorem aHJ {a b B : Int} (ha : 0 ≤ a ∧ a < B) (hb : 0 ≤ b ∧ b < B) : 0 ≤ a * b ∧ a * b ≤ (B - 1) * (B - 1) := by
 refine ⟨xr ha.1 hb.1, ?_⟩
 have h1 : a * b ≤ a * (B - 1) := zy zb ha.1
 have h2 : a * (B - 1) ≤ (B - 1) * (B - 1) := zI zb zb
 omega
theorem ak3 {a b : List Int} (h1 : Dg 10000 a) (h2 : Dg 10000 b ∨ b = [10000]) (h3 : a.length ≤ 400000000000) (h4 : b.length ≤ 400000000000) {n : Nat} (hn : V 10000 a * V 10000 b = n) : ab5 (a, b, ()) = some (dig n, ()) := by
 unfold ab5
 rw [if_pos ⟨h1, h2, h3, h4⟩]
 simp only [hn, zm]
theorem az0 (A D : List Int) (hda : Dg 10000 A) (hdb : Dg 10000 D) (la : A.length ≤ 400000000000) (lb : D.length ≤ 400000000000) : (ae5 A D).toO = some (dig (V 10000 A * V 10000 D).toNat, ()) := by
 have nb := aaO zb hdb
 have hw : w64 (len A + len D) = ((A.length + D.length : Nat) : Int) := by
  simp only [aaI]; rw [aaA (x := (A.length : Int) + D.length) zb]; omega
 unfold ae5
 simp only [hw]
 refine uN zb ?_
 refine uO (0, List.replicate (A.length + D.length) 0, ()) ?_ ?_
 ·repeat refine za ?_
  simp (disch := omega) only [aaQ, aaA, aaM, aa4, acE, aaP, zp, zm, aaI, zu]
 have hBb : V 10000 D < 10000 ^ D.length := aIz zb hdb
 refine aaS (fun i => ∃ k : Nat, k ≤ A.length ∧ i.1 = (k : Int) ∧ i.2.1.length = A.length + D.length ∧ Dg 10000 i.2.1 ∧ V 10000 i.2.1 = V 10000 (A.take k) * V 10000 D) (fun i => ((A.length : Int) - i.1).toNat) (fun _ => (dig (V 10000 A * V 10000 D).toNat, ())) ?_ _ ⟨0, zL _, rfl, by simp, agZ zb _, by simp [V, av0]⟩
 rintro ⟨i, s, u⟩ ⟨k, h1, h2, h3, h4, h5⟩
 simp only at h2 h3 h4 h5
 subst h2
 simp only [ajA, aaP, hw]
 have ea := aa7 10000 A k
 have da := aa5 zb hda k
 rcases zv k A.length with hk | hk
 ·left
  have hs : V 10000 s < 10000 ^ (k + D.length) := by
   rw [h5, xP]
   have e1 := adQ zb hda k
   have e2 := aaO zb (acT hda k)
   have e3 : V 10000 (A.take k) * V 10000 D ≤ V 10000 (A.take k) * 10000 ^ D.length := zy zb e2
   have e4 : V 10000 (A.take k) * 10000 ^ D.length < 10000 ^ k * 10000 ^ D.length := Int.mul_lt_mul_of_pos_right e1 (yM zb)
   omega
  have hz := akP zb h4 hs
  obtain ⟨r, hin, s', rfl, q1, q2, q3⟩ : ∃ r : ((Int × List Int × Unit) ⊕ (List Int × Unit)), abX (fun i1 => (aeG A D ((k : Int), s, ()) i1).toO) (0, 0, s, ()) = some r ∧ ∃ s', r = Sum.inl (((k + 1 : Nat) : Int), s', ()) ∧ s'.length = A.length + D.length ∧ Dg 10000 s' ∧ V 10000 s' = V 10000 (A.take (k + 1)) * V 10000 D := by
   refine aiQ (fun j => ∃ q : Nat, q ≤ D.length ∧ j.1 = (q : Int) ∧ 0 ≤ j.2.1 ∧ j.2.1 < 10000 ∧ j.2.2.1.length = A.length + D.length ∧ Dg 10000 j.2.2.1 ∧ (∀ t, k + D.length ≤ t → j.2.2.1.getD t 0 = 0) ∧ V 10000 j.2.2.1 + 10000 ^ (k + q) * j.2.1 = V 10000 (A.take k) * V 10000 D + 10000 ^ k * (A.getD k 0 * V 10000 (D.take q))) (fun j => ((D.length : Int) - j.1).toNat) _ ?_ _ ⟨0, zL _, rfl, by simp, by simp, h3, h4, hz, by simp [V, h5]⟩
   rintro ⟨j, c, s1, u1⟩ ⟨q, g1, g2, g3, g4, g5, g6, g7, g8⟩
   simp only at g2 g3 g4 g5 g6 g7 g8
   subst g2
   have hkq : w64 ((k : Int) + q) = ((k + q : Nat) : Int) := by rw [aaA (x := (k : Int) + q) zb]; omega
   have hkl : w64 ((k : Int) + len D) = ((k + D.length : Nat) : Int) := by rw [aaI, aaA (x := (k : Int) + (D.length : Int)) zb]; omega
   simp only [aeG, aaP, hw, hkq, hkl, zm, zp]
   have eb := aa7 10000 D q
   have db := aa5 zb hdb q
   have ds := aa5 zb g6 (k + q)
   have hm := aHJ da db
   rcases zv q D.length with hq | hq
   ·left
    have hsum : 0 ≤ c + s1.getD (k + q) 0 + A.getD k 0 * D.getD q 0 := zb
    have e1 := yq (c + s1.getD (k + q) 0 + A.getD k 0 * D.getD q 0) 10000
    have ww : w64 (w64 (c + s1.getD (k + q) 0) + w64 (A.getD k 0 * D.getD q 0)) = c + s1.getD (k + q) 0 + A.getD k 0 * D.getD q 0 := by
     rw [aaA (x := c + s1.getD (k + q) 0) zb, aaA (x := A.getD k 0 * D.getD q 0) zb, aaA zb]
    simp only [ww]
    have e2 : 0 ≤ (c + s1.getD (k + q) 0 + A.getD k 0 * D.getD q 0) % 10000 ∧ (c + s1.getD (k + q) 0 + A.getD k 0 * D.getD q 0) % 10000 < 10000 := zb
    have e3 : 0 ≤ (c + s1.getD (k + q) 0 + A.getD k 0 * D.getD q 0) / 10000 ∧ (c + s1.getD (k + q) 0 + A.getD k 0 * D.getD q 0) / 10000 < 10000 := zb
    refine ⟨(((q + 1 : Nat) : Int), (c + s1.getD (k + q) 0 + A.getD k 0 * D.getD q 0) / 10000, s1.set (k + q) ((c + s1.getD (k + q) 0 + A.getD k 0 * D.getD q 0) % 10000), ()), ?_, ⟨q + 1, by omega, rfl, e3.1, e3.2, by simp; omega, ai5 g6 e2 _, ?_, ?_⟩, by simp only; omega⟩
    ·repeat refine za ?_
     rw [yd hsum, zQ hsum, aaA (x := (q : Int) + 1) zb, aaA (x := (c + s1.getD (k + q) 0 + A.getD k 0 * D.getD q 0) / 10000) zb]
     rfl
    ·intro t ht
     rw [amT _ zb]; exact g7 t ht
    ·simp only
     rw [aw0 _ zb, eb, show k + (q + 1) = k + q + 1 by omega, yu]
     exact aIv _ _ _ _ _ _ _ _ _ _ _ _ _ g8 e1 (xP _ _ _)
   ·right
    have hqq : q = D.length := zb
    subst hqq
    rw [abN _ (zj _)] at g8
    refine ⟨.inl (((k + 1 : Nat) : Int), s1.set (k + D.length) c, ()), ?_, _, rfl, by simp; omega, ai5 g6 ⟨g3, g4⟩ _, ?_⟩
    ·repeat refine za ?_
     rw [aaA (x := (k : Int) + 1) zb]
     rfl
    ·rw [aw0 _ zb, g7 _ zb, ea, Int.add_mul]
     simp only [wS]
     rw [g8]
     grind
  refine ⟨(((k + 1 : Nat) : Int), s', ()), ?_, ⟨k + 1, by omega, rfl, q1, q2, q3⟩, by simp only; omega, zd⟩
  refine uT sd ?_
  refine uO (0, 0, s, ()) ?_ ?_
  ·repeat refine za ?_
   rfl
  ·exact hin
 ·right
  have hkk : k = A.length := zb
  rw [hkk, abN _ (zj _)] at h5
  have hnn := aaO zb h4
  refine uF sd ?_
  refine uC (dig (V 10000 A * V 10000 D).toNat, ()) ?_ ?_
  ·rw [zr zg]
   exact af8 h4 zb zb
  ·rfl
theorem atG (A : List Int) (hda : Dg 10000 A) (la : A.length ≤ 400000000000) : (ae5 A [10000]).toO = some (dig (V 10000 A * V 10000 [10000]).toNat, ()) := by
 have na := aaO zb hda
 have hV1 : V 10000 [10000] = 10000 := by simp [V]
 have hw : w64 (len A + len [(10000 : Int)]) = ((A.length + 1 : Nat) : Int) := by
  simp only [aaI, yo]; rw [aaA zb]; omega
 unfold ae5
 simp only [hw]
 refine uN zb ?_
 refine uO (0, List.replicate (A.length + 1) 0, ()) ?_ ?_
 ·repeat refine za ?_
  simp (disch := omega) only [aaQ, aaA, aaM, aa4, acE, aaP, zp, zm, aaI, zu]
 refine aaS (fun i => ∃ k : Nat, k ≤ A.length ∧ i.1 = (k : Int) ∧ i.2.1 = ((0 :: A.take k) ++ List.replicate (A.length - k) 0)) (fun i => ((A.length : Int) - i.1).toNat) (fun _ => (dig (V 10000 A * V 10000 [10000]).toNat, ())) ?_ _ ⟨0, zL _, rfl, by simp [xe]⟩
 rintro ⟨i, s, u⟩ ⟨k, h1, h2, h3⟩
 simp only at h2 h3
 subst h2 h3
 simp only [ajA, aaP, hw]
 have da := aa5 zb hda k
 rcases zv k A.length with hk | hk
 ·left
  have hrep : List.replicate (A.length - k) (0 : Int) = 0 :: List.replicate (A.length - (k + 1)) 0 := by
   rw [show A.length - k = (A.length - (k + 1)) + 1 by omega, xe]
  have hset : ((0 :: A.take k) ++ List.replicate (A.length - k) 0).set (k + 1) A[k] = ((0 :: A.take (k + 1)) ++ List.replicate (A.length - (k + 1)) 0) := by
   rw [hrep, List.set_append_right _ _ zg]
   have : k + 1 - (0 :: A.take k).length = 0 := zg
   rw [this, List.set_cons_zero]
   simp only [xu, zN hk, zY, yX]
  have hcur : 0 ≤ ((0 :: A.take k) ++ List.replicate (A.length - k) 0).getD k 0 ∧ ((0 :: A.take k) ++ List.replicate (A.length - k) 0).getD k 0 < 10000 := by
   refine aa5 zb (aeZ (aA8 zb (acT hda k)) (agZ zb _)) k
  have hlen : ((0 :: A.take k) ++ List.replicate (A.length - k) 0).length = A.length + 1 := zg
  generalize ((0 :: A.take k) ++ List.replicate (A.length - k) 0) = s at *
  generalize hd : s.getD k 0 = d at hcur
  have hg : A.getD k 0 = A[k] := by simp [hk]
  rw [hg] at da
  refine ⟨(((k + 1 : Nat) : Int), ((0 :: A.take (k + 1)) ++ List.replicate (A.length - (k + 1)) 0), ()), ?_, ⟨k + 1, by omega, rfl, rfl⟩, by simp only; omega, zd⟩
  refine uT sd ?_
  refine uO (0, 0, s, ()) ?_ ?_
  ·repeat refine za ?_
   rfl
  have hk0 : w64 ((k : Int) + 0) = ((k : Nat) : Int) := by rw [aaA zb]; omega
  have hkl : w64 ((k : Int) + len [(10000 : Int)]) = ((k + 1 : Nat) : Int) := by rw [aaI, yo, aaA zb]; omega
  have hsum : w64 (w64 (0 + d) + w64 (A[k] * 10000)) = d + A[k] * 10000 := by
   rw [aaA (x := 0 + d) zb, aaA (x := A[k] * 10000) zb, aaA zb]; omega
  have s1 : (aeG A [10000] ((k : Int), s, ()) (0, 0, s, ())).toO = some (.inl (1, A[k], s, ())) := by
   simp only [aeG, aaP, hw, hk0, zm, zp, hd, hg]
   have hgi : gi [(10000 : Int)] 0 0 = 10000 := rfl
   simp only [hgi, hsum]
   refine uT (by (try simp only [zX, xj, yA, xn, beq_eq_false_iff_ne, bne_eq_false_iff_eq, yh, xz]) <;> (try simp only [aaI, inb, inc, ge_iff_le, gt_iff_lt, zm, asT, ne_eq]) <;> simp) (uN sd (uN sd (uN (by (try simp only [aaI, inb, inc, ge_iff_le, gt_iff_lt, zm, asT, ne_eq]); simp) ?_)))
   repeat refine za ?_
   rw [yd zb, zQ zb]
   have m1 : (d + A[k] * 10000) % 10000 = d := zb
   have m2 : (d + A[k] * 10000) / 10000 = A[k] := zb
   have m3 : s.set k d = s := by
    rw [← hd, ajL zb]
    exact List.set_getElem_self zb
   rw [m1, m2, m3, aaA (x := A[k]) zb]
   rfl
  rw [ab0 s1]
  refine acY ?_
  simp only [aeG, hw, hkl, zm, zp]
  refine uF (by (try simp only [zX, xj, yA, xn, beq_eq_false_iff_ne, bne_eq_false_iff_eq, yh, xz]) <;> (try simp only [aaI, inb, inc, ge_iff_le, gt_iff_lt, zm, asT, ne_eq]) <;> simp) (uN sd ?_)
  repeat refine za ?_
  rw [hset, aaA (x := (k : Int) + 1) zb]
  rfl
 ·right
  have hkk : k = A.length := zb
  subst hkk
  rw [Nat.sub_self, List.replicate_zero, xH, zu]
  refine uF sd ?_
  refine uC (dig (V 10000 A * V 10000 [10000]).toNat, ()) ?_ ?_
  ·rw [zr zh]
   refine af8 (aA8 zb hda) zg ?_
   rw [hV1]
   show 0 + 10000 * V 10000 A = _
   omega
  ·rfl
theorem awP (A D : List Int) (y) (h : ab5 (A, D, ()) = some y) : (ae5 A D).toO = some y := by
 unfold ab5 at h
 split at h
 case isFalse => cases h
 case isTrue hp =>
 obtain ⟨hda, hdb, la, lb⟩ := hp
 dsimp only at hda hdb la lb h
 injection h with h
 subst h
 rcases hdb with hdb | rfl
 ·exact az0 A D hda hdb la lb
 ·exact atG A hda la
theorem aMj {a d : Nat} (h1 : (dig a).length ≤ 1000000000000) (h2 : 0 < d) (h3 : d < 10000) : aoN (dig a, (d : Int), ()) = some (dig (a / d), ((a % d : Nat) : Int), ()) := by
 refine aaN (enc := fun p : Nat × Nat => (dig p.1, (p.2 : Int), ())) (a, d) ⟨h1, h2, h3⟩ (fun b hb => ?_)
 obtain ⟨e1, e2⟩ := Prod.mk.inj hb
 obtain ⟨e2, -⟩ := Prod.mk.inj e2
 exact Prod.ext (avA e1) (Int.ofNat.inj e2)
theorem aIw (Vm Vq P d R m X Y B W : Int) (h : Vm = Vq * d + R) (h2 : Y + d * X = R * B + m) (hW : W = m + B * Vm) (hP : P = X + B * Vq) : W = P * d + Y := by
 subst hW hP h
 grind
theorem aD6 (m : List Int) (d : Int) (y) (h : aoN (m, d, ()) = some y) : (atJ m d).toO = some y := by
 obtain ⟨⟨a, e⟩, hn, hx, rfl⟩ := aaH h
 obtain ⟨rfl, hx2⟩ := Prod.mk.inj hx; obtain ⟨rfl, -⟩ := Prod.mk.inj hx2; dsimp only
 obtain ⟨la, he, he2⟩ := hn
 simp only at la he he2
 have hda := adW a
 have hVa := ahS a
 unfold atJ
 refine uN sn ?_
 refine uO (((dig a).length : Int) - 1, 0, List.replicate (dig a).length 0, ()) ?_ ?_
 ·repeat refine za ?_
  simp only [aaI]
  rw [aaA (x := ((dig a).length : Int) - 1) zb]
  rfl
 refine aaS (fun i : Int × Int × List Int × Unit => ∃ k : Nat, k ≤ (dig a).length ∧ i.1 = (k : Int) - 1 ∧ 0 ≤ i.2.1 ∧ i.2.1 < e ∧ i.2.2.1.length = (dig a).length ∧ Dg 10000 i.2.2.1 ∧ V 10000 ((dig a).drop k) = V 10000 (i.2.2.1.drop k) * e + i.2.1) (fun i => (i.1 + 1).toNat) (fun _ => (dig (a / e), ((a % e : Nat) : Int), ())) ?_ _ ⟨_, zj _, rfl, by simp, by simp; omega, by simp, agZ zb _, by rw [adK _ (zj _), adK _ zh]; simp⟩
 rintro ⟨i, r, q, u⟩ ⟨k, h1, h2, h3, h4, h5, h6, h7⟩
 simp only at h2 h3 h4 h5 h6 h7
 subst h2
 rcases zC k with h0 | h0
 ·subst h0
  right
  simp only [yE, hVa] at h7
  obtain ⟨v, hv⟩ := zE (aaO zb h6)
  obtain ⟨r', rfl⟩ := zE h3
  rw [hv] at h7
  have h8 : a = v * e + r' := by
   have : (a : Int) = ((v * e + r' : Nat) : Int) := by simpa using h7
   exact Int.ofNat.inj this
  have h9 : a / e = v := by rw [h8, yO, wz _ _ he, yQ zb, zp]
  have h10 : a % e = r' := by rw [h8, yO, xM, yv zb]
  simp only [apM]
  refine uF sd ?_
  refine uC (dig v, ()) ?_ ?_
  ·rw [zr (by simp [len]; omega)]
   exact af8 h6 zb hv
  ·rw [aaQ, h9, h10]
 ·left
  obtain ⟨j, rfl⟩ : ∃ j, k = j + 1 := ⟨k - 1, by omega⟩
  have e6 : ((j + 1 : Nat) : Int) - 1 = (j : Int) := zb
  rw [e6]
  simp only [apM, aaP]
  have e1 := aaR 10000 (dig a) j
  have e2 := aa5 zb hda j
  have g1 : 0 ≤ r * 10000 + (dig a).getD j 0 := zb
  have g0 : (0 : Int) < e := zb
  have g2 := yq (r * 10000 + (dig a).getD j 0) e
  have g3 := xE (r * 10000 + (dig a).getD j 0) (show (e : Int) ≠ 0 by omega)
  have g4 := xy (r * 10000 + (dig a).getD j 0) g0
  have g5 : 0 ≤ (r * 10000 + (dig a).getD j 0) / e := xK g1 zb
  have g6 : (r * 10000 + (dig a).getD j 0) / e < 10000 := by
   refine Int.ediv_lt_of_lt_mul g0 ?_
   have : (r + 1) * 10000 ≤ e * 10000 := zI zb zb
   omega
  have hw1 : w64 (w64 (r * 10000) + (dig a).getD j 0) = r * 10000 + (dig a).getD j 0 := by
   rw [aaA (x := r * 10000) zb, aaA zb]
  simp only [hw1]
  refine ⟨((j : Int) - 1, (r * 10000 + (dig a).getD j 0) % e, q.set j ((r * 10000 + (dig a).getD j 0) / e), ()), ?_, ⟨j, by omega, rfl, g3, g4, by simp; omega, ai5 h6 ⟨g5, g6⟩ _, ?_⟩, by simp only; omega, zd⟩
  ·repeat refine za ?_
   rw [yd g1, zQ g1]
   rw [aaA (x := (r * 10000 + (dig a).getD j 0) / e) zb]
   simp (disch := omega) only [aaQ, aaA, aaM, aa4, acE, aaP, zp, zm, aaI, zu]
  ·simp only
   refine aIw _ _ _ _ _ _ _ _ 10000 _ h7 g2 e1 ?_
   rw [aaR 10000 (q.set j _) j, amU zb, ahN _ zb]
end Go.Vs
