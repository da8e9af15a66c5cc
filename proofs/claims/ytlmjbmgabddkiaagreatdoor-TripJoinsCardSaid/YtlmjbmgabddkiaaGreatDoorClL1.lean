/-
  Trees of what the functions compute, and their laws. Own work; no condition.
-/
import Derived.Test.YtlmjbmgabddkiaaGreatDoorClX1
import Derived.Test.YtlmjbmgabddkiaaGreatDoorProg
set_option linter.unusedVariables false
set_option linter.unusedSimpArgs false
set_option maxRecDepth 100000
namespace Go.Vs
open Go Go.Vg Go.Proofs
noncomputable section
def aFa (n : Int) : TT tg :=
 .call (aAY (n, 1, ())) af9 fun y =>
 .ok (((y.1.1, y.1.2.1, ()), ()))
end
set_option maxRecDepth 100000
open Go Go.Vg Go.Proofs
noncomputable section
def aME : LTab := [(178, 7, 9217, ⟨0, (Bool) × Unit, .dat (.s 3) (Ty.bool) <| .nil, [5, 4, 2], [0], 0⟩), (178, 122, 12289, ⟨1, (Int) × Unit, .dat (.s 23) vU <| .nil, [22, 5, 4, 2], [0], 0⟩)]
def aBe (a : List UInt8) (y : List UInt8 × Bool × Unit) (j : Bool × Unit) (i : (Int) × Unit) : TT (um ⊕ (vW × Bool × Unit)) :=
 .ite (decide (i.1 < len y.1))
 (.need (inb i.1 (len y.1)) <| .ite (decide ((↑(UInt8.toNat (gi y.1 i.1 0)) : Int) < 48))
 (.ok (.inr ((([], false, ()), false, ()))))
 (.need (inb i.1 (len y.1)) <| .ite (decide ((↑(UInt8.toNat (gi y.1 i.1 0)) : Int) > 57))
 (.ok (.inr ((([], false, ()), false, ()))))
 (.tt <| .lt (w64 (i.1 + 1) : Int) fun z => .vA (vB z (len y.1) y.2.1 y.1 <| ub ∧ True) <| .vA uM <| .ok (.inl ((z, ()))))))
 (.need (asT Int 0 ≤ 0 ∧ 0 < len y.1) <| .ite ((↑(UInt8.toNat (gi y.1 0 0)) : Int) == 48)
 (.ite (y.2.1)
 (.ok (.inr ((([], false, ()), false, ()))))
 (.ite (decide (len y.1 > 1))
 (.ok (.inr ((([], false, ()), false, ()))))
 (.call (aiV (y.1, ())) Dd0 fun y1 =>
 .ok (.inr (((y1.1, y.2.1, ()), true, ()))))))
 (.call (aiV (y.1, ())) Dd0 fun y2 =>
 .ok (.inr (((y2.1, y.2.1, ()), true, ())))))
def aIL (a : List UInt8) (y : List UInt8 × Bool × Unit) (j : (Bool) × Unit) : TT (vW × Bool × Unit) :=
 .loop 1 (.tt <| .vA (vB (0 : Int) (len y.1) y.2.1 y.1 <| ub ∧ True) <| .vA uM <| .ok ((0, ()))) (aBe a y j)
def azD (a : List UInt8) : TT (vW × Bool × Unit) :=
 .call (acB (a, #[45].toList, ())) Dd7 fun y =>
 .join 0 (ι := (Bool) × Unit) (.ite (len y.1 == 0)
 (.ok (.inr ((([], false, ()), false, ()))))
 (.ite (decide (len y.1 > 600))
 (.ok (.inr ((([], false, ()), false, ()))))
 (.tt <| .vA (vF false y.2.1 y.1 <| ub ∧ True) <| .vA uM <| .ok (.inl ((false, ())))))) (aIL a y)
def aIN : LTab := []
def asP (a : List UInt8) : TT ue :=
 .call (ajY (a, ())) Dd9 fun y =>
 .ite (!y.2.1)
 (.ok ((10, ())))
 (.ok ((0, ())))
def aRj : LTab := []
def aON (n : Int) : TT uq :=
 .call (ak1 (n, ())) Dd2 fun y =>
 .ok ((y.1, ()))
def aIM (a : List UInt8) (b : List UInt8) : TT uf :=
 .tt <| .tt <| .call (asK (a, b, ())) aTV fun y =>
 .ite (y.2.2.1 != 0)
 (.ok ((#[].toList, y.2.2.1, ())))
 (.triv (asT Int 0 ≤ 2 ∧ 2 < (↑4 : Int)) zf <| .call (arO ((y.1.1, y.1.2.1, ()), (y.2.1.1, y.2.1.2.1, ()), ())) Dd5 fun y1 =>
 .call (aDl (y1.1, ())) aA9 fun y2 =>
 .ok ((y2.1, y2.2.1, ())))
def aOj : LTab := []
def aAt (a : List UInt8 × List UInt8 × Unit) : TT ((vW × List Int × Unit) × Bool × Unit) :=
 .call (agK (a.1, ())) Dd6 fun y =>
 .ite (y.1 != 0)
 (.ok (((([], false, ()), [], ()), false, ())))
 (.call (agK (a.2.1, ())) Dd6 fun y1 =>
 .ite (y1.1 != 0)
 (.ok (((([], false, ()), [], ()), false, ())))
 (.call (afZ (a.1, ())) Dd5 fun y2 =>
 .call (afZ (a.2.1, ())) Dd5 fun y3 =>
 .call (ai4 ((y3.1.1, y3.1.2.1, ()), ())) Dd6 fun y4 =>
 .ite (decide (y4.1 < 1))
 (.ok (((([], false, ()), [], ()), false, ())))
 (.call (agW (y2.1.1, y3.1.1, ())) Dd0 fun y5 =>
 .call (aeC (y5.1, [1], ())) Dd6 fun y6 =>
 .ite (y6.1 != 0)
 (.ok (((([], false, ()), [], ()), false, ())))
 (.ok ((((y2.1.1, y2.1.2.1, ()), y3.1.1, ()), true, ()))))))
def aLg : LTab := []
def au1 (a : List UInt8 × List UInt8 × Unit) : TT ue :=
 .call (acV ((a.1, a.2.1, ()), ())) aMs fun y =>
 .ite (!y.2.1)
 (.ok ((20, ())))
 (.ok ((0, ())))
def aOn : LTab := []
def aAx (n : List UInt8) (d : List UInt8) : TT uv :=
 .call (agK (n, ())) Dd6 fun y =>
 .ite (y.1 != 0)
 (.ok (((#[].toList, #[].toList, ()), 10, ())))
 (.call (agK (d, ())) Dd6 fun y1 =>
 .ite (y1.1 != 0)
 (.ok (((#[].toList, #[].toList, ()), 10, ())))
 (.call (afZ (n, ())) Dd5 fun y2 =>
 .call (afZ (d, ())) Dd5 fun y3 =>
 .call (adR (y3.1.1, ())) Dd1 fun y4 =>
 .ite (y4.1)
 (.ok (((#[].toList, #[].toList, ()), 7, ())))
 (.call (abH (y2.1.1, !y2.1.2.1 == y3.1.2.1, ())) Dd5 fun y5 =>
 .call (aj2 (y5.1, y3.1.1, ())) Dd8 fun y6 =>
 .call (afX (y6.1, ())) afP fun y7 =>
 .ok (((y7.1.1, y7.1.2.1, ()), y7.2.1, ())))))
def aSk : LTab := []
def aPA (n : Int) (d : Int) : TT uv :=
 .call (av1 (n, ())) Dd2 fun y =>
 .call (av1 (d, ())) Dd2 fun y1 =>
 .call (aoU (y.1, y1.1, ())) afP fun y2 =>
 .ok (((y2.1.1, y2.1.2.1, ()), y2.2.1, ()))
def aOl : LTab := []
def aAw (a : List UInt8 × List UInt8 × Unit) : TT uk :=
 .call (acV ((a.1, a.2.1, ()), ())) aMs fun y =>
 .ite (!y.2.1)
 (.ok ((0, 20, ())))
 (.call (ai4 ((y.1.1.1, y.1.1.2.1, ()), ())) Dd6 fun y1 =>
 .ok ((y1.1, 0, ())))
def aQD : LTab := []
def aEQ (a : List UInt8 × List UInt8 × Unit) (b : List UInt8 × List UInt8 × Unit) : TT uk :=
 .tt <| .tt <| .call (acV ((a.1, a.2.1, ()), ())) aMs fun y =>
 .call (acV ((b.1, b.2.1, ()), ())) aMs fun y1 =>
 .ite (!y.2.1)
 (.ok ((0, 20, ())))
 (.ite (!y1.2.1)
 (.ok ((0, 20, ())))
 (.call (alR (((y.1.1.1, y.1.1.2.1, ()), y.1.2.1, ()), ((y1.1.1.1, y1.1.1.2.1, ()), y1.1.2.1, ()), ())) Dd6 fun y2 =>
 .ok ((y2.1, 0, ()))))
def aQE : LTab := []
def aES (a : List UInt8 × List UInt8 × Unit) (b : List UInt8 × List UInt8 × Unit) : TT uv :=
 .tt <| .tt <| .call (acV ((a.1, a.2.1, ()), ())) aMs fun y =>
 .call (acV ((b.1, b.2.1, ()), ())) aMs fun y1 =>
 .ite (!y.2.1)
 (.tt <| .tt <| .ok (((#[].toList, #[].toList, ()), 20, ())))
 (.ite (!y1.2.1)
 (.tt <| .tt <| .ok (((#[].toList, #[].toList, ()), 20, ())))
 (.call (aoR (((y.1.1.1, y.1.1.2.1, ()), y.1.2.1, ()), ((y1.1.1.1, y1.1.1.2.1, ()), y1.1.2.1, ()), ())) Dd8 fun y2 =>
 .tt <| .tt <| .call (afX (((y2.1.1.1, y2.1.1.2.1, ()), y2.1.2.1, ()), ())) afP fun y3 =>
 .ok (((y3.1.1, y3.1.2.1, ()), y3.2.1, ()))))
def aQB : LTab := []
def aEO (a : List UInt8 × List UInt8 × Unit) (b : List UInt8 × List UInt8 × Unit) : TT uv :=
 .tt <| .tt <| .call (acV ((a.1, a.2.1, ()), ())) aMs fun y =>
 .call (acV ((b.1, b.2.1, ()), ())) aMs fun y1 =>
 .ite (!y.2.1)
 (.tt <| .tt <| .ok (((#[].toList, #[].toList, ()), 20, ())))
 (.ite (!y1.2.1)
 (.tt <| .tt <| .ok (((#[].toList, #[].toList, ()), 20, ())))
 (.call (aoQ (((y.1.1.1, y.1.1.2.1, ()), y.1.2.1, ()), ((y1.1.1.1, y1.1.1.2.1, ()), y1.1.2.1, ()), ())) Dd8 fun y2 =>
 .tt <| .tt <| .call (afX (((y2.1.1.1, y2.1.1.2.1, ()), y2.1.2.1, ()), ())) afP fun y3 =>
 .ok (((y3.1.1, y3.1.2.1, ()), y3.2.1, ()))))
def aQC : LTab := []
def aEP (a : List UInt8 × List UInt8 × Unit) (b : List UInt8 × List UInt8 × Unit) : TT uv :=
 .call (acV ((a.1, a.2.1, ()), ())) aMs fun y =>
 .call (acV ((b.1, b.2.1, ()), ())) aMs fun y1 =>
 .ite (!y.2.1)
 (.ok (((#[].toList, #[].toList, ()), 20, ())))
 (.ite (!y1.2.1)
 (.ok (((#[].toList, #[].toList, ()), 20, ())))
 (.call (adR (y1.1.1.1, ())) Dd1 fun y2 =>
 .ite (y2.1)
 (.ok (((#[].toList, #[].toList, ()), 7, ())))
 (.call (ah9 (((y1.1.1.1, y1.1.1.2.1, ()), y1.1.2.1, ()), ())) Dd8 fun y3 =>
 .call (aoQ (((y.1.1.1, y.1.1.2.1, ()), y.1.2.1, ()), y3.1, ())) Dd8 fun y4 =>
 .call (afX (y4.1, ())) afP fun y5 =>
 .ok (((y5.1.1, y5.1.2.1, ()), y5.2.1, ())))))
end
set_option maxRecDepth 100000
open Go Go.Vg Go.Proofs
noncomputable section
def aH2 : LTab := []
def ayI (m : List Int) (negative : Bool) : TT uW :=
 .ite (negative)
 (.call (adR (m, ())) Dd1 fun y =>
 .ok (((m, !y.1, ()), ())))
 (.ok (((m, false, ()), ())))
def aAr : LTab := []
def an6 (n : List Int × Bool × Unit) : TT uW :=
 .call (abH (n.1, !n.2.1, ())) Dd5 fun y =>
 .ok (((y.1.1, y.1.2.1, ()), ()))
def aLb : LTab := []
def auX (n : List Int × Bool × Unit) : TT ue :=
 .call (adR (n.1, ())) Dd1 fun y =>
 .ite (y.1)
 (.ok ((0, ())))
 (.ite (n.2.1)
 (.ok ((-1, ())))
 (.ok ((1, ()))))
def aLa : LTab := []
def auW (n : List Int × Bool × Unit) : TT uq :=
 .ite (n.2.1)
 (.call (afY (n.1, ())) Dd2 fun y =>
 .need (List.length #[45].toList + List.length y.1 ≤ lim) <| .ok ((#[45].toList ++ y.1, ())))
 (.call (afY (n.1, ())) Dd2 fun y1 =>
 .ok ((y1.1, ())))
def aOi : LTab := []
def aAp (n : List Int × Bool × Unit) (o : List Int × Bool × Unit) : TT uW :=
 .ite (n.2.1 == o.2.1)
 (.call (ak2 (n.1, o.1, ())) Dd0 fun y =>
 .call (abH (y.1, n.2.1, ())) Dd5 fun y1 =>
 .ok (((y1.1.1, y1.1.2.1, ()), ())))
 (.call (aeC (n.1, o.1, ())) Dd6 fun y2 =>
 .ite (decide (y2.1 < 0))
 (.call (ai3 (o.1, n.1, ())) Dd0 fun y3 =>
 .call (abH (y3.1, o.2.1, ())) Dd5 fun y4 =>
 .ok (((y4.1.1, y4.1.2.1, ()), ())))
 (.call (ai3 (n.1, o.1, ())) Dd0 fun y5 =>
 .call (abH (y5.1, n.2.1, ())) Dd5 fun y6 =>
 .ok (((y6.1.1, y6.1.2.1, ()), ()))))
def aEM : LTab := []
def amZ (n : List Int × Bool × Unit) (m : List Int) : TT uW :=
 .call (ac0 (n.1, m, ())) Dd0 fun y =>
 .call (abH (y.1, n.2.1, ())) Dd5 fun y1 =>
 .ok (((y1.1.1, y1.1.2.1, ()), ()))
def aH1 : LTab := []
def aqB (n : List Int × Bool × Unit) (d : List Int) : TT uW :=
 .call (abK (n.1, d, ())) Dd4 fun y =>
 .ite (n.2.1)
 (.call (adR (y.2.1, ())) Dd1 fun y1 =>
 .ite (!y1.1)
 (.call (ak2 (y.1, [1], ())) Dd0 fun y2 =>
 .call (abH (y2.1, n.2.1, ())) Dd5 fun y3 =>
 .ok (((y3.1.1, y3.1.2.1, ()), ())))
 (.call (abH (y.1, n.2.1, ())) Dd5 fun y4 =>
 .ok (((y4.1.1, y4.1.2.1, ()), ()))))
 (.call (abH (y.1, n.2.1, ())) Dd5 fun y5 =>
 .ok (((y5.1.1, y5.1.2.1, ()), ())))
def aH4 : LTab := []
def ayJ (a : List UInt8) : TT uW :=
 .call (acB (a, #[45].toList, ())) Dd7 fun y =>
 .call (af0 (y.1, ())) Dd0 fun y1 =>
 .ok (((y1.1, y.2.1, ()), ()))
def aE2 : LTab := []
def am5 (s : List UInt8) (prefix0 : List UInt8) : TT (List UInt8 × Bool × Unit) :=
 .tt <| .tt <| .tt <| .tt <| .ite (decide (len s ≥ len prefix0))
 (.need (inc (len prefix0) (len s)) <| .ite (!List.take (Int.toNat (len prefix0)) s == prefix0)
 (.ok ((s, false, ())))
 (.need (inc (len prefix0) (len s)) <| .ok ((List.take (List.length s - Int.toNat (len prefix0)) (List.drop (Int.toNat (len prefix0)) s), true, ()))))
 (.ok ((s, false, ())))
def aHR : LTab := []
def ap3 (x : vW × List Int × Unit) : TT uv :=
 .call (ahT (x.1.1, ())) Dd6 fun y =>
 .ite (decide (y.1 > 600))
 (.ok (((#[].toList, #[].toList, ()), 6, ())))
 (.call (ahT (x.2.1, ())) Dd6 fun y1 =>
 .ite (decide (y1.1 > 600))
 (.ok (((#[].toList, #[].toList, ()), 6, ())))
 (.call (aoS ((x.1.1, x.1.2.1, ()), ())) Dd2 fun y2 =>
 .call (afY (x.2.1, ())) Dd2 fun y3 =>
 .ok (((y2.1, y3.1, ()), 0, ()))))
def aEN : LTab := []
def am0 (n : List Int × Bool × Unit) (d : List Int) : TT uz :=
 .call (agW (n.1, d, ())) Dd0 fun y =>
 .call (abK (n.1, y.1, ())) Dd4 fun y1 =>
 .call (abK (d, y.1, ())) Dd4 fun y2 =>
 .call (abH (y1.1, n.2.1, ())) Dd5 fun y3 =>
 .ok ((((y3.1.1, y3.1.2.1, ()), y2.1, ()), ()))
def aOd : LTab := []
def aAk (x : vW × List Int × Unit) (y : vW × List Int × Unit) : TT uz :=
 .call (agW (x.2.1, y.2.1, ())) Dd0 fun y1 =>
 .call (abK (y.2.1, y1.1, ())) Dd4 fun y2 =>
 .call (abK (x.2.1, y1.1, ())) Dd4 fun y3 =>
 .call (aeD ((x.1.1, x.1.2.1, ()), y2.1, ())) Dd5 fun y4 =>
 .call (aeD ((y.1.1, y.1.2.1, ()), y3.1, ())) Dd5 fun y5 =>
 .call (alT (y4.1, y5.1, ())) Dd5 fun y6 =>
 .call (agW (y6.1.1, y1.1, ())) Dd0 fun y7 =>
 .call (abK (y6.1.1, y7.1, ())) Dd4 fun y8 =>
 .call (abK (y.2.1, y7.1, ())) Dd4 fun y9 =>
 .call (abH (y8.1, y6.1.2.1, ())) Dd5 fun y10 =>
 .call (ac0 (y3.1, y9.1, ())) Dd0 fun y11 =>
 .ok ((((y10.1.1, y10.1.2.1, ()), y11.1, ()), ()))
def aOb (x : vW × List Int × Unit) (y : vW × List Int × Unit) : TT uz :=
 .call (arP (((y.1.1, y.1.2.1, ()), y.2.1, ()), ())) Dd8 fun y1 =>
 .call (aoR (((x.1.1, x.1.2.1, ()), x.2.1, ()), y1.1, ())) Dd8 fun y2 =>
 .ok ((((y2.1.1.1, y2.1.1.2.1, ()), y2.1.2.1, ()), ()))
def aOc : LTab := []
def aAj (x : vW × List Int × Unit) (y : vW × List Int × Unit) : TT uz :=
 .call (agW (x.1.1, y.2.1, ())) Dd0 fun y1 =>
 .call (agW (y.1.1, x.2.1, ())) Dd0 fun y2 =>
 .call (abK (x.1.1, y1.1, ())) Dd4 fun y3 =>
 .call (abK (x.2.1, y2.1, ())) Dd4 fun y4 =>
 .call (abK (y.1.1, y2.1, ())) Dd4 fun y5 =>
 .call (abK (y.2.1, y1.1, ())) Dd4 fun y6 =>
 .call (ac0 (y3.1, y5.1, ())) Dd0 fun y7 =>
 .call (abH (y7.1, !x.1.2.1 == y.1.2.1, ())) Dd5 fun y8 =>
 .call (ac0 (y4.1, y6.1, ())) Dd0 fun y9 =>
 .ok ((((y8.1.1, y8.1.2.1, ()), y9.1, ()), ()))
def aCC : LTab := []
def aq9 (x : vW × List Int × Unit) : TT uz :=
 .call (abH (x.2.1, x.1.2.1, ())) Dd5 fun y =>
 .ok ((((y.1.1, y.1.2.1, ()), x.1.1, ()), ()))
def aHS : LTab := []
def ap4 (x : vW × List Int × Unit) (y : vW × List Int × Unit) : TT ue :=
 .call (aeD ((x.1.1, x.1.2.1, ()), y.2.1, ())) Dd5 fun y1 =>
 .call (aeD ((y.1.1, y.1.2.1, ()), x.2.1, ())) Dd5 fun y2 =>
 .call (agX (y2.1, ())) Dd5 fun y3 =>
 .call (alT (y1.1, y3.1, ())) Dd5 fun y4 =>
 .call (ai4 (y4.1, ())) Dd6 fun y5 =>
 .ok ((y5.1, ()))
def aKV : LTab := []
def auJ (x : vW × List Int × Unit) (scale : List Int) : TT uW :=
 .call (ac0 (scale, [2], ())) Dd0 fun y =>
 .call (aeD ((x.1.1, x.1.2.1, ()), y.1, ())) Dd5 fun y1 =>
 .call (abH (x.2.1, false, ())) Dd5 fun y2 =>
 .call (alT (y1.1, y2.1, ())) Dd5 fun y3 =>
 .call (ac0 (x.2.1, [2], ())) Dd0 fun y4 =>
 .call (alU ((y3.1.1, y3.1.2.1, ()), y4.1, ())) Dd5 fun y5 =>
 .ok (((y5.1.1, y5.1.2.1, ()), ()))
end
set_option maxRecDepth 100000
open Go Go.Vg Go.Proofs
noncomputable section
def aK0 : LTab := []
def auK (m : List Int) : TT uG :=
 .ok ((len m == 0, ()))
def aK1 : LTab := [(132, 12, 1025, ⟨0, (List Int) × Unit, .dat (.s 0) uJ <| .nil, [2], [], 0⟩)]
def ayC (m : List Int) (i : (List Int) × Unit) : TT (((List Int) × Unit) ⊕ vZ) :=
 .ite (decide (len i.1 > 0))
 (.need (inb (w64 (len i.1 - 1)) (len i.1)) <| .ite (gi i.1 (w64 (len i.1 - 1)) 0 == 0)
 (.need (inc (w64 (len i.1 - 1)) (len i.1)) <| .tt <| .lt (List.take (Int.toNat (w64 (len i.1 - 1))) i.1 : List Int) fun z => .vA (vD z <| True ∧ True) <| .tr <| .ok (.inl ((z, ()))))
 (.ok (.inr ((i.1, ())))))
 (.ok (.inr ((i.1, ()))))
def auL (m : List Int) : TT vZ :=
 .loop 0 (.tt <| .vA (vD m <| True ∧ True) <| .tr <| .ok ((m, ()))) (ayC m)
def aHW : LTab := [(180, 58, 6144, ⟨0, (Int) × (Int) × Unit, .dat (.s 4) vU <| .dat (.s 3) uo <| .nil, [2, 0], [], 0⟩)]
def auO (m : List Int) (i : (Int) × (Int) × Unit) : TT (uj ⊕ ue) :=
 .ite (decide (i.1 ≥ 0))
 (.need (inb i.1 (len m)) <| .tt <| .lt (w64 (i.1 - 1) : Int) fun z1 => .lt (ab6 (ab6 (i.2.1 * 1000000000) + ab6 (gi m i.1 0)) : Int) fun z2 => .vA (vG z2 z1 (0 : Int) m) <| .tr <| .ok (.inl ((z1, z2, ()))))
 (.ok (.inr ((i.2.1, ()))))
def ayD (m : List Int) : TT ue :=
 .loop 0 (.tt <| .lt (w64 (len m - 1) : Int) fun z => .vA (vG (0 : Int) z (0 : Int) m) <| .tr <| .ok ((z, 0, ()))) (auO m)
def aCK : LTab := [(126, 58, 10240, ⟨0, (Int) × Unit, .dat (.s 5) vU <| .nil, [0, 1], [], 0⟩)]
def an5 (m : List Int) (o : List Int) (i : (Int) × Unit) : TT (um ⊕ ue) :=
 .ite (decide (i.1 ≥ 0))
 (.need (inb i.1 (len m)) <| .need (inb i.1 (len o)) <| .ite (gi m i.1 0 != gi o i.1 0)
 (.need (inb i.1 (len m)) <| .need (inb i.1 (len o)) <| .tt <| .tt <| .tt <| .tt <| .tt <| .tt <| .ite (gi m i.1 0 != gi m i.1 0)
 (.ite (gi o i.1 0 != gi o i.1 0)
 (.ok (.inr ((0, ()))))
 (.ok (.inr ((-1, ())))))
 (.ite (gi o i.1 0 != gi o i.1 0)
 (.ok (.inr ((1, ()))))
 (.ite (decide (gi m i.1 0 < gi o i.1 0))
 (.ok (.inr ((-1, ()))))
 (.ite (decide (gi m i.1 0 > gi o i.1 0))
 (.ok (.inr ((1, ()))))
 (.ok (.inr ((0, ()))))))))
 (.tt <| .lt (w64 (i.1 - 1) : Int) fun z1 => .vA (vH z1 m o) <| .tr <| .ok (.inl ((z1, ())))))
 (.ok (.inr ((0, ()))))
def akQ (m : List Int) (o : List Int) : TT ue :=
 .ite (len m != len o)
 (.tt <| .tt <| .tt <| .tt <| .tt <| .tt <| .ite (len m != len m)
 (.ite (len o != len o)
 (.ok ((0, ())))
 (.ok ((-1, ()))))
 (.ite (len o != len o)
 (.ok ((1, ())))
 (.ite (decide (len m < len o))
 (.ok ((-1, ())))
 (.ite (decide (len m > len o))
 (.ok ((1, ())))
 (.ok ((0, ())))))))
 (.loop 0 (.tt <| .lt (w64 (len m - 1) : Int) fun z => .vA (vH z m o) <| .tr <| .ok ((z, ()))) (an5 m o))
def aK2 : LTab := [(184, 3, 1025, ⟨0, (List Int) × (List Int) × Unit, .dat (.s 0) uJ <| .dat (.s 1) uJ <| .nil, [4], [], 0⟩), (184, 250, 10241, ⟨1, (Int) × (Int) × (List Int) × Unit, .dat (.s 22) vU <| .dat (.s 6) vV <| .app (.s 5) 10 180 vV <| .nil, [21, 20, 1, 4], [], 1⟩)]
def ayE (m : List Int) (o : List Int) (j : List Int × List Int × Unit) (i : (Int) × (Int) × (List Int) × Unit) : TT (ul ⊕ vZ) :=
 .ite (decide (i.1 < len j.1))
 (.need (inb i.1 (len j.1)) <| .ite (decide (i.1 < len j.2.1))
 (.need (inb i.1 (len j.2.1)) <| .ite (decide (aeP (aeP (gi j.1 i.1 0 + i.2.1) + gi j.2.1 i.1 0) ≥ 1000000000))
 (.need ((List.length i.2.2.1 + 1) * 4 ≤ 140737488355328) <| .tt <| .lt (w64 (i.1 + 1) : Int) fun z1 => .lt (List.take (List.length i.2.2.1) i.2.2.1 ++ [aeP (aeP (aeP (gi j.1 i.1 0 + i.2.1) + gi j.2.1 i.1 0) - 1000000000)] : List Int) fun z2 => .need ((((10) = (10)) ∧ (((0) = (0)) ∧ ((List.length i.2.2.1 + 1 = List.length z2) ∧ ((true) = (true))))) ∧ ((1 : Int) = 1) ∧ ((z1 : Int) = z1) ∧ ((len j.1 : Int) = len j.1) ∧ ((j.1 : List Int) = j.1) ∧ ((j.2.1 : List Int) = j.2.1) ∧ True ∧ True) <| .vA (vz (vI 180 z2) True) <| .ok (.inl ((z1, 1, z2, ()))))
 (.need ((List.length i.2.2.1 + 1) * 4 ≤ 140737488355328) <| .tt <| .lt (w64 (i.1 + 1) : Int) fun z3 => .lt (List.take (List.length i.2.2.1) i.2.2.1 ++ [aeP (aeP (gi j.1 i.1 0 + i.2.1) + gi j.2.1 i.1 0)] : List Int) fun z4 => .need ((((10) = (10)) ∧ (((0) = (0)) ∧ ((List.length i.2.2.1 + 1 = List.length z4) ∧ ((true) = (true))))) ∧ ((0 : Int) = 0) ∧ ((z3 : Int) = z3) ∧ ((len j.1 : Int) = len j.1) ∧ ((j.1 : List Int) = j.1) ∧ ((j.2.1 : List Int) = j.2.1) ∧ True ∧ True) <| .vA (vz (vI 180 z4) True) <| .ok (.inl ((z3, 0, z4, ())))))
 (.ite (decide (aeP (gi j.1 i.1 0 + i.2.1) ≥ 1000000000))
 (.need ((List.length i.2.2.1 + 1) * 4 ≤ 140737488355328) <| .tt <| .lt (w64 (i.1 + 1) : Int) fun z5 => .lt (List.take (List.length i.2.2.1) i.2.2.1 ++ [aeP (aeP (gi j.1 i.1 0 + i.2.1) - 1000000000)] : List Int) fun z6 => .need ((((10) = (10)) ∧ (((0) = (0)) ∧ ((List.length i.2.2.1 + 1 = List.length z6) ∧ ((true) = (true))))) ∧ ((1 : Int) = 1) ∧ ((z5 : Int) = z5) ∧ ((len j.1 : Int) = len j.1) ∧ ((j.1 : List Int) = j.1) ∧ ((j.2.1 : List Int) = j.2.1) ∧ True ∧ True) <| .vA (vz (vI 180 z6) True) <| .ok (.inl ((z5, 1, z6, ()))))
 (.need ((List.length i.2.2.1 + 1) * 4 ≤ 140737488355328) <| .tt <| .lt (w64 (i.1 + 1) : Int) fun z7 => .lt (List.take (List.length i.2.2.1) i.2.2.1 ++ [aeP (gi j.1 i.1 0 + i.2.1)] : List Int) fun z8 => .need ((((10) = (10)) ∧ (((0) = (0)) ∧ ((List.length i.2.2.1 + 1 = List.length z8) ∧ ((true) = (true))))) ∧ ((0 : Int) = 0) ∧ ((z7 : Int) = z7) ∧ ((len j.1 : Int) = len j.1) ∧ ((j.1 : List Int) = j.1) ∧ ((j.2.1 : List Int) = j.2.1) ∧ True ∧ True) <| .vA (vz (vI 180 z8) True) <| .ok (.inl ((z7, 0, z8, ()))))))
 (.ite (decide (i.2.1 > 0))
 (.need ((List.length i.2.2.1 + 1) * 4 ≤ 140737488355328) <| .ok (.inr ((List.take (List.length i.2.2.1 + 1) (List.take (List.length i.2.2.1) i.2.2.1 ++ [i.2.1]), ()))))
 (.ok (.inr ((List.take (List.length i.2.2.1) i.2.2.1, ())))))
def ap7 (m : List Int) (o : List Int) (j : (List Int) × (List Int) × Unit) : TT vZ :=
 .need (asT Int 0 ≤ 0 ∧ 0 ≤ w64 (len j.1 + 1) ∧ w64 (len j.1 + 1) * (↑4 : Int) ≤ 140737488355328) <| .loop 1 (.tt <| .lt (List.replicate (Int.toNat 0) 0 : List Int) fun z => .vA ((vJ 10 0 0 true) ∧ (vK (0 : Int) (0 : Int) (len j.1) j.1 j.2.1 <| True ∧ True)) <| .vA (vz (vI 180 z) True) <| .ok ((0, 0, z, ()))) (ayE m o j)
def auP (m : List Int) (o : List Int) : TT vZ :=
 .join 0 (ι := (List Int) × (List Int) × Unit) (.ite (decide (len m < len o))
 (.tt <| .vA (vL m o <| True ∧ True) <| .tr <| .ok (.inl ((o, m, ()))))
 (.tt <| .vA (vL o m <| True ∧ True) <| .tr <| .ok (.inl ((m, o, ()))))) (ap7 m o)
def aHY : LTab := [(185, 122, 9217, ⟨0, (Int) × (Int) × (List Int) × Unit, .dat (.s 15) vU <| .dat (.s 6) vV <| .row 3 vV <| .nil, [14, 13, 5, 4, 1], [3], 0⟩)]
def auQ (m : List Int) (o : List Int) (i : (Int) × (Int) × (List Int) × Unit) : TT (ul ⊕ vZ) :=
 .ite (decide (i.1 < len m))
 (.need (inb i.1 (len m)) <| .ite (decide (i.1 < len o))
 (.need (inb i.1 (len o)) <| .ite (decide (gi m i.1 0 < aeP (i.2.1 + gi o i.1 0)))
 (.need (inb i.1 (↑(Int.toNat (len m)) : Int)) <| .tt <| .lt (w64 (i.1 + 1) : Int) fun z1 => .lt (List.set i.2.2.1 (0 + Int.toNat i.1) (aeP (aeP (gi m i.1 0 + 1000000000) - aeP (i.2.1 + gi o i.1 0))) : List Int) fun z2 => .vA (vB (1 : Int) z1 (len m) m <| (vJ 3 0 (Int.toNat (len m)) true) ∧ True ∧ vE o) <| .vA (vz (vI 180 z2) True) <| .ok (.inl ((z1, 1, z2, ()))))
 (.need (inb i.1 (↑(Int.toNat (len m)) : Int)) <| .tt <| .lt (w64 (i.1 + 1) : Int) fun z3 => .lt (List.set i.2.2.1 (0 + Int.toNat i.1) (aeP (gi m i.1 0 - aeP (i.2.1 + gi o i.1 0))) : List Int) fun z4 => .vA (vB (0 : Int) z3 (len m) m <| (vJ 3 0 (Int.toNat (len m)) true) ∧ True ∧ vE o) <| .vA (vz (vI 180 z4) True) <| .ok (.inl ((z3, 0, z4, ())))))
 (.ite (decide (gi m i.1 0 < i.2.1))
 (.need (inb i.1 (↑(Int.toNat (len m)) : Int)) <| .tt <| .lt (w64 (i.1 + 1) : Int) fun z5 => .lt (List.set i.2.2.1 (0 + Int.toNat i.1) (aeP (aeP (gi m i.1 0 + 1000000000) - i.2.1)) : List Int) fun z6 => .vA (vB (1 : Int) z5 (len m) m <| (vJ 3 0 (Int.toNat (len m)) true) ∧ True ∧ vE o) <| .vA (vz (vI 180 z6) True) <| .ok (.inl ((z5, 1, z6, ()))))
 (.need (inb i.1 (↑(Int.toNat (len m)) : Int)) <| .tt <| .lt (w64 (i.1 + 1) : Int) fun z7 => .lt (List.set i.2.2.1 (0 + Int.toNat i.1) (aeP (gi m i.1 0 - i.2.1)) : List Int) fun z8 => .vA (vB (0 : Int) z7 (len m) m <| (vJ 3 0 (Int.toNat (len m)) true) ∧ True ∧ vE o) <| .vA (vz (vI 180 z8) True) <| .ok (.inl ((z7, 0, z8, ()))))))
 (.call (ac5 (List.take (Int.toNat (len m)) i.2.2.1, ())) Dd0 fun y =>
 .ok (.inr ((y.1, ()))))
def ap8 (m : List Int) (o : List Int) : TT vZ :=
 .need (0 ≤ len m ∧ len m ≤ len m ∧ len m * (↑4 : Int) ≤ 140737488355328) <| .loop 0 (.tt <| .lt (List.replicate (Int.toNat (len m)) 0 : List Int) fun z => .vA (vB (0 : Int) (0 : Int) (len m) m <| (vJ 3 0 (Int.toNat (len m)) true) ∧ True ∧ vE o) <| .vA (vz (vI 180 z) True) <| .ok ((0, 0, z, ()))) (auQ m o)
def aHV : LTab := [(128, 58, 11265, ⟨0, (Int) × (List Int) × Unit, .dat (.s 19) vU <| .row 6 vV <| .nil, [18, 17, 5, 4, 1], [6], 0⟩), (128, 59802, 21505, ⟨1, (Int) × (Int) × (List Int) × Unit, .dat (.s 26) vU <| .dat (.s 8) uo <| .row 6 vV <| .nil, [25, 24, 7, 6, 23, 22, 21, 20, 19, 18, 17, 5, 4, 1], [6], 0⟩)]
def amV (m : List Int) (o : List Int) (i : Int × List Int × Unit) (i1 : (Int) × (Int) × (List Int) × Unit) : TT (ul ⊕ uE) :=
 .ite (decide (i1.1 < len o))
 (.need (inb i1.1 (len o)) <| .need (inb (w64 (i.1 + i1.1)) (↑(Int.toNat (w64 (len m + len o))) : Int)) <| .triv (asT Int 1000000000 ≠ 0) zf <| .need (inb (w64 (i.1 + i1.1)) (↑(Int.toNat (w64 (len m + len o))) : Int)) <| .triv (asT Int 1000000000 ≠ 0) zf <| .tt <| .lt (w64 (i1.1 + 1) : Int) fun z2 => .lt (ab6 (Int.tdiv (ab6 (i1.2.1 + ab6 (ab6 (List.getD i1.2.2.1 (0 + Int.toNat (w64 (i.1 + i1.1))) 0) + ab6 (ab6 (gi m i.1 0) * ab6 (gi o i1.1 0))))) 1000000000) : Int) fun z3 => .lt (List.set i1.2.2.1 (0 + Int.toNat (w64 (i.1 + i1.1))) (aeP (Int.tmod (ab6 (i1.2.1 + ab6 (ab6 (List.getD i1.2.2.1 (0 + Int.toNat (w64 (i.1 + i1.1))) 0) + ab6 (ab6 (gi m i.1 0) * ab6 (gi o i1.1 0))))) 1000000000)) : List Int) fun z4 => .vA (vM z3 z2 (len o) o (gi m i.1 0) i.1 (gi m i.1 0) (gi m i.1 0) <| vK i.1 (decide (i.1 < len m)) i.1 (len m) m <| (vJ 6 0 (Int.toNat (w64 (len m + len o))) true) ∧ True ∧ vE o) <| .vA (vz (vI 180 z4) True) <| .ok (.inl ((z2, z3, z4, ()))))
 (.need (inb (w64 (i.1 + len o)) (↑(Int.toNat (w64 (len m + len o))) : Int)) <| .tt <| .lt (w64 (i.1 + 1) : Int) fun z5 => .lt (List.set i1.2.2.1 (0 + Int.toNat (w64 (i.1 + len o))) (aeP i1.2.1) : List Int) fun z6 => .vA (vF z5 (len m) m <| (vJ 6 0 (Int.toNat (w64 (len m + len o))) true) ∧ True ∧ vE o) <| .vA (vz (vI 180 z6) True) <| .ok (.inr (.inl ((z5, z6, ())))))
def auN (m : List Int) (o : List Int) (i : (Int) × (List Int) × Unit) : TT uE :=
 .ite (decide (i.1 < len m))
 (.need (inb i.1 (len m)) <| .loop 1 (.tt <| .lt (i.2.1 : List Int) fun z1 => .vA (vM (0 : Int) (0 : Int) (len o) o (gi m i.1 0) i.1 (gi m i.1 0) (gi m i.1 0) <| vK i.1 (decide (i.1 < len m)) i.1 (len m) m <| (vJ 6 0 (Int.toNat (w64 (len m + len o))) true) ∧ True ∧ vE o) <| .vA (vz (vI 180 z1) True) <| .ok ((0, 0, z1, ()))) (amV m o i))
 (.call (ac5 (List.take (Int.toNat (w64 (len m + len o))) i.2.1, ())) Dd0 fun y =>
 .ok (.inr ((y.1, ()))))
def ap5 (m : List Int) (o : List Int) : TT vZ :=
 .need (0 ≤ w64 (len m + len o) ∧ w64 (len m + len o) ≤ w64 (len m + len o) ∧ w64 (len m + len o) * (↑4 : Int) ≤ 140737488355328) <| .loop 0 (.tt <| .lt (List.replicate (Int.toNat (w64 (len m + len o))) 0 : List Int) fun z => .vA (vF (0 : Int) (len m) m <| (vJ 6 0 (Int.toNat (w64 (len m + len o))) true) ∧ True ∧ vE o) <| .vA (vz (vI 180 z) True) <| .ok ((0, z, ()))) (auN m o)
def aHX : LTab := [(195, 122, 11265, ⟨0, (Int) × (Int) × (List Int) × Unit, .dat (.s 8) vU <| .dat (.s 7) uo <| .row 4 vV <| .nil, [6, 5, 4, 0, 1], [4], 0⟩)]
def amW (m : List Int) (d : Int) (i : (Int) × (Int) × (List Int) × Unit) : TT (ul ⊕ uU) :=
 .ite (decide (i.1 ≥ 0))
 (.need (inb i.1 (len m)) <| .need (ab6 d ≠ 0) <| .need (inb i.1 (↑(Int.toNat (len m)) : Int)) <| .need (ab6 d ≠ 0) <| .tt <| .lt (w64 (i.1 - 1) : Int) fun z2 => .lt (Int.tmod (ab6 (ab6 (i.2.1 * 1000000000) + ab6 (gi m i.1 0))) (ab6 d) : Int) fun z3 => .lt (List.set i.2.2.1 (0 + Int.toNat i.1) (aeP (ab6 (Int.tdiv (ab6 (ab6 (i.2.1 * 1000000000) + ab6 (gi m i.1 0))) (ab6 d)))) : List Int) fun z4 => .vA (vL z3 z2 <| (vJ 4 0 (Int.toNat (len m)) true) ∧ (vD (0 : Int) <| True ∧ vN m d)) <| .vA (vz (vI 180 z4) True) <| .ok (.inl ((z2, z3, z4, ()))))
 (.call (ac5 (List.take (Int.toNat (len m)) i.2.2.1, ())) Dd0 fun y =>
 .ok (.inr ((y.1, aeP i.2.1, ()))))
def ap6 (m : List Int) (d : Int) : TT uU :=
 .need (0 ≤ len m ∧ len m ≤ len m ∧ len m * (↑4 : Int) ≤ 140737488355328) <| .loop 0 (.tt <| .lt (w64 (len m - 1) : Int) fun z => .lt (List.replicate (Int.toNat (len m)) 0 : List Int) fun z1 => .vA (vL (0 : Int) z <| (vJ 4 0 (Int.toNat (len m)) true) ∧ (vD (0 : Int) <| True ∧ vN m d)) <| .vA (vz (vI 180 z1) True) <| .ok ((z, 0, z1, ()))) (amW m d)
def aAu : LTab := [(181, 28, 2050, ⟨0, Bool × (List Int) × (Int) × Unit, .appN (.s 3) 2 180 vV <| .dat (.s 0) uo <| .nil, [2], [], 1⟩)]
def aeU (v : Int) (i : Bool × (List Int) × (Int) × Unit) : TT ((Bool × (List Int) × (Int) × Unit) ⊕ vZ) :=
 .ite (i.1)
 (.ite (decide (i.2.2.1 > 0))
 (.triv (asT Int 1000000000 ≠ 0) zf <| .need (1 * 4 ≤ 140737488355328) <| .triv (asT Int 1000000000 ≠ 0) zf <| .tt <| .lt ([aeP (Int.tmod i.2.2.1 1000000000)] : List Int) fun z => .lt (ab6 (Int.tdiv i.2.2.1 1000000000) : Int) fun z1 => .vA (vD z1 <| (vJ 2 0 1 true) ∧ True ∧ True) <| .vA (vz (vI 180 z) True) <| .ok (.inl ((false, z, z1, ()))))
 (.ok (.inr (([], ())))))
 (.ite (decide (i.2.2.1 > 0))
 (.triv (asT Int 1000000000 ≠ 0) zf <| .need ((List.length i.2.1 + 1) * 4 ≤ 140737488355328) <| .triv (asT Int 1000000000 ≠ 0) zf <| .tt <| .lt (List.take (List.length i.2.1) i.2.1 ++ [aeP (Int.tmod i.2.2.1 1000000000)] : List Int) fun z2 => .lt (ab6 (Int.tdiv i.2.2.1 1000000000) : Int) fun z3 => .need (((z3 : Int) = z3) ∧ (((2) = (2)) ∧ (((0) = (0)) ∧ ((List.length i.2.1 + 1 = List.length z2) ∧ ((true) = (true))))) ∧ True ∧ True) <| .vA (vz (vI 180 z2) True) <| .ok (.inl ((false, z2, z3, ()))))
 (.ok (.inr ((List.take (List.length i.2.1) i.2.1, ())))))
def an7 (v : Int) : TT vZ :=
 .loop 0 (.tt <| .vA (vD v <| True ∧ True ∧ True) <| .tr <| .ok ((true, [], v, ()))) (aeU v)
def aH5 : LTab := [(74, 218, 5122, ⟨0, (Int) × Bool × (List Int) × Unit, .dat (.s 4) vU <| .appN (.s 3) 5 180 vV <| .nil, [2, 0], [], 1⟩), (74, 55834, 13314, ⟨1, (Int) × (Int) × Unit, .dat (.s 7) vU <| .dat (.s 6) vV <| .nil, [15, 5, 14, 13, 12, 3, 4, 2, 0], [], 0⟩), (74, 55834, 13313, ⟨2, (Int) × (Int) × Unit, .dat (.s 7) vU <| .dat (.s 6) vV <| .nil, [15, 5, 14, 13, 12, 3, 4, 2, 0], [5], 0⟩)]
def ajO (digits : List UInt8) (i : Int × Bool × List Int × Unit) (i1 : (Int) × (Int) × Unit) : TT (uj ⊕ (uu ⊕ vZ)) :=
 .ite (decide (i1.1 < i.1))
 (.need (inb i1.1 (len digits)) <| .tt <| .lt (w64 (i1.1 + 1) : Int) fun z1 => .lt (aeP (aeP (i1.2.1 * 10) + aeP (wu8 ((↑(UInt8.toNat (gi digits i1.1 0)) : Int) - 48))) : Int) fun z2 => .vA (vO z2 z1 (if 0 > w64 (i.1 - 9) then 0 else w64 (i.1 - 9) : Int) (if 0 > w64 (i.1 - 9) then 0 else w64 (i.1 - 9) : Int) (if 0 > w64 (i.1 - 9) then 0 else w64 (i.1 - 9) : Int) (w64 (i.1 - 9)) i.1 <| True ∧ (vD i.1 <| True ∧ vE digits)) <| .tr <| .ok (.inl ((z1, z2, ()))))
 (.need (1 * 4 ≤ 140737488355328) <| .ite ((if 0 > w64 (i.1 - 9) then 0 else w64 (i.1 - 9)) == 0)
 (.call (ac5 ([i1.2.1], ())) Dd0 fun y =>
 .ok (.inr (.inr ((y.1, ())))))
 (.tt <| .lt (w64 (i.1 - 9) : Int) fun z3 => .lt ([i1.2.1] : List Int) fun z4 => .vA ((vJ 5 0 1 true) ∧ (vD z3 <| True ∧ vE digits)) <| .vA (vz (vI 180 z4) True) <| .ok (.inr (.inl ((z3, false, z4, ()))))))
def ajN (digits : List UInt8) (i : Int × Bool × List Int × Unit) (i2 : (Int) × (Int) × Unit) : TT (uj ⊕ (uu ⊕ vZ)) :=
 .ite (decide (i2.1 < i.1))
 (.need (inb i2.1 (len digits)) <| .tt <| .lt (w64 (i2.1 + 1) : Int) fun z6 => .lt (aeP (aeP (i2.2.1 * 10) + aeP (wu8 ((↑(UInt8.toNat (gi digits i2.1 0)) : Int) - 48))) : Int) fun z7 => .vA (vO z7 z6 (if 0 > w64 (i.1 - 9) then 0 else w64 (i.1 - 9) : Int) (if 0 > w64 (i.1 - 9) then 0 else w64 (i.1 - 9) : Int) (if 0 > w64 (i.1 - 9) then 0 else w64 (i.1 - 9) : Int) (w64 (i.1 - 9)) i.1 <| (vJ 5 0 (List.length i.2.2.1) true) ∧ (vD i.1 <| True ∧ vE digits)) <| .vA (vz (vI 180 i.2.2.1) True) <| .ok (.inl ((z6, z7, ()))))
 (.need ((List.length i.2.2.1 + 1) * 4 ≤ 140737488355328) <| .ite ((if 0 > w64 (i.1 - 9) then 0 else w64 (i.1 - 9)) == 0)
 (.call (ac5 (List.take (List.length i.2.2.1 + 1) (List.take (List.length i.2.2.1) i.2.2.1 ++ [i2.2.1]), ())) Dd0 fun y1 =>
 .ok (.inr (.inr ((y1.1, ())))))
 (.tt <| .lt (w64 (i.1 - 9) : Int) fun z8 => .lt (List.take (List.length i.2.2.1) i.2.2.1 ++ [i2.2.1] : List Int) fun z9 => .need ((((5) = (5)) ∧ (((0) = (0)) ∧ ((List.length i.2.2.1 + 1 = List.length z9) ∧ ((true) = (true))))) ∧ ((z8 : Int) = z8) ∧ True ∧ ((digits) = (digits)) ∧ True) <| .vA (vz (vI 180 z9) True) <| .ok (.inr (.inl ((z8, false, z9, ()))))))
def am1 (digits : List UInt8) (i : (Int) × Bool × (List Int) × Unit) : TT (uu ⊕ vZ) :=
 .ite (i.2.1)
 (.loop 1 (.tt <| .lt (if 0 > w64 (i.1 - 9) then 0 else w64 (i.1 - 9) : Int) fun z => .vA (vO (0 : Int) z z z z (w64 (i.1 - 9)) i.1 <| True ∧ (vD i.1 <| True ∧ vE digits)) <| .tr <| .ok ((z, 0, ()))) (ajO digits i))
 (.loop 2 (.tt <| .lt (if 0 > w64 (i.1 - 9) then 0 else w64 (i.1 - 9) : Int) fun z5 => .vA (vO (0 : Int) z5 z5 z5 z5 (w64 (i.1 - 9)) i.1 <| (vJ 5 0 (List.length i.2.2.1) true) ∧ (vD i.1 <| True ∧ vE digits)) <| .vA (vz (vI 180 i.2.2.1) True) <| .ok ((z5, 0, ()))) (ajN digits i))
def aqC (digits : List UInt8) : TT vZ :=
 .loop 0 (.tt <| .vA (True ∧ (vD (len digits) <| True ∧ vE digits)) <| .tr <| .ok ((len digits, true, [], ()))) (am1 digits)
def aEG : LTab := []
def amX (m : List Int) : TT ue :=
 .call (adR (m, ())) Dd1 fun y =>
 .ite (y.1)
 (.ok ((1, ())))
 (.need (inb (w64 (len m - 1)) (len m)) <| .call (ak1 (w64 (gi m (w64 (len m - 1)) 0), ())) Dd2 fun y1 =>
 .ok ((w64 (w64 (w64 (len m - 1) * 9) + len y1.1), ())))
def aOe : LTab := [(125, 12, 1025, ⟨0, (List Int) × (List Int) × Unit, .dat (.s 0) uJ <| .dat (.s 1) uJ <| .nil, [], [], 0⟩), (125, 196, 4096, ⟨1, (Bool) × Unit, .dat (.s 19) (Ty.bool) <| .nil, [1, 0], [], 0⟩), (125, 6292, 10240, ⟨2, (Int) × (Int) × Unit, .dat (.s 6) uo <| .dat (.s 5) uo <| .nil, [23, 22, 21, 20, 19, 1, 0], [], 0⟩)]
def aCI (m : List Int) (o : List Int) (i : List Int × List Int × Unit) (y : Bool × Unit) (j : Bool × Unit) (y1 : Int × Unit) (y2 : Int × Unit) (i1 : (Int) × (Int) × Unit) : TT (uj ⊕ (uH ⊕ vZ)) :=
 .ite (decide (i1.1 > 0))
 (.need (i1.1 ≠ 0) <| .tt <| .lt (Int.tmod i1.2.1 i1.1 : Int) fun z1 => .vA (vM i1.1 z1 y2.1 i.2.1 y1.1 i.1 j.1 i.2.1 <| vE i.1) <| .tr <| .ok (.inl ((z1, i1.1, ()))))
 (.call (adO (i1.2.1, ())) Dd0 fun y3 =>
 .ok (.inr (.inr ((y3.1, ())))))
def auR (m : List Int) (o : List Int) (i : List Int × List Int × Unit) (y : Bool × Unit) (j : (Bool) × Unit) : TT (uH ⊕ vZ) :=
 .ite (j.1)
 (.call (alS (i.1, ())) Dd3 fun y1 =>
 .call (alS (i.2.1, ())) Dd3 fun y2 =>
 .loop 2 (.tt <| .vA (vM y1.1 y2.1 y2.1 i.2.1 y1.1 i.1 j.1 i.2.1 <| vE i.1) <| .tr <| .ok ((y2.1, y1.1, ()))) (aCI m o i y j y1 y2))
 (.call (abK (i.1, i.2.1, ())) Dd4 fun y4 =>
 .tt <| .lt (i.2.1 : List Int) fun z2 => .lt (y4.2.1 : List Int) fun z3 => .vA (vN z3 z2) <| .tr <| .ok (.inl ((z2, z3, ()))))
def aCJ (m : List Int) (o : List Int) (i : (List Int) × (List Int) × Unit) : TT (uH ⊕ vZ) :=
 .call (adR (i.2.1, ())) Dd1 fun y =>
 .ite (!y.1)
 (.join 1 (ι := (Bool) × Unit) (.ite (decide (len i.1 ≤ 2))
 (.tt <| .lt (decide (len i.2.1 ≤ 2) : Bool) fun z => .vA (vH z i.2.1 i.1) <| .tr <| .ok (.inl ((z, ()))))
 (.tt <| .vA (vH false i.2.1 i.1) <| .tr <| .ok (.inl ((false, ()))))) (auR m o i y))
 (.ok (.inr ((i.1, ()))))
def aAm (m : List Int) (o : List Int) : TT vZ :=
 .loop 0 (.tt <| .vA (vN o m) <| .tr <| .ok ((m, o, ()))) (aCJ m o)
end
open Go Go.Vg
theorem asS {l : List Int} (h : Dg 1000000000 l) (hl : l.length ≤ 2000000000000) {n : Nat} (hv : V 1000000000 l = n) : ac5 (l, ()) = some (mag n, ()) := by
 unfold ac5
 rw [if_pos ⟨h, hl⟩]
 simp only [hv, zm]
theorem aCH (m o : List Int) (y) (h : ai3 (m, o, ()) = some y) : (ap8 m o).toO = some y := by
 obtain ⟨⟨a, b⟩, hn, hx, rfl⟩ := aaH h
 obtain ⟨rfl, hx2⟩ := Prod.mk.inj hx; obtain ⟨rfl, -⟩ := Prod.mk.inj hx2; dsimp only
 obtain ⟨la, hba⟩ := hn
 simp only at la hba
 have hda := ahG a
 have hdb := ahG b
 have hVa := anA a
 have hVb := anA b
 have hl := ab3 hba
 unfold ap8
 refine uN sn ?_
 refine uO (0, 0, List.replicate (mag a).length 0, ()) ?_ ?_
 ·repeat refine za ?_
  simp (disch := omega) only [aaQ, aaA, aaM, aa4, acE, aaP, zp, zm, aaI, zu]
 refine aaS (fun i => ∃ k : Nat, k ≤ (mag a).length ∧ i.1 = (k : Int) ∧ 0 ≤ i.2.1 ∧ i.2.1 ≤ 1 ∧ i.2.2.1.length = (mag a).length ∧ Dg 1000000000 i.2.2.1 ∧ V 1000000000 (i.2.2.1.take k) = V 1000000000 ((mag a).take k) - V 1000000000 ((mag b).take k) + 1000000000 ^ k * i.2.1) (fun i => (((mag a).length : Int) - i.1).toNat) (fun _ => (mag (a - b), ())) ?_ _ ⟨0, zL _, rfl, by simp, by simp, by simp, agZ zb _, by simp [V]⟩
 rintro ⟨i, c, s, u⟩ ⟨k, h1, h2, h3, h4, h5, h6, h7⟩
 simp only at h2 h3 h4 h5 h6 h7
 subst h2
 simp only [auQ, aaP]
 have ea := aa7 1000000000 (mag a) k
 have eb := aa7 1000000000 (mag b) k
 have da := aa5 zb hda k
 have db := aa5 zb hdb k
 rcases zv k (mag a).length with hk | hk
 ·left
  have fin : ∀ x c' : Int, 0 ≤ x ∧ x < 1000000000 → 0 ≤ c' ∧ c' ≤ 1 → x = (mag a).getD k 0 - (mag b).getD k 0 - c + 1000000000 * c' → (∃ k_1 : Nat, k_1 ≤ (mag a).length ∧ ((k + 1 : Nat) : Int) = (k_1 : Int) ∧ 0 ≤ c' ∧ c' ≤ 1 ∧ (s.set k x).length = (mag a).length ∧ Dg 1000000000 (s.set k x) ∧ V 1000000000 ((s.set k x).take k_1) = V 1000000000 ((mag a).take k_1) - V 1000000000 ((mag b).take k_1) + 1000000000 ^ k_1 * c') ∧ (((mag a).length : Int) - ((k + 1 : Nat) : Int)).toNat < (((mag a).length : Int) - (k : Int)).toNat := by
   intro x c' hx hc he
   refine ⟨⟨k + 1, by omega, rfl, hc.1, hc.2, by simp; omega, ai5 h6 hx _, ?_⟩, by omega⟩
   rw [aIy _ zb, h7, ea, eb, yu, he]
   grind
  rcases zv k (mag b).length with hkb | hkb
  ·rcases zP ((mag a).getD k 0) (c + (mag b).getD k 0) with hc | hc
   ·obtain ⟨g1, g2⟩ := fin ((mag a).getD k 0 + 1000000000 - (c + (mag b).getD k 0)) 1 zb zb zb
    refine ⟨(((k + 1 : Nat) : Int), 1, s.set k ((mag a).getD k 0 + 1000000000 - (c + (mag b).getD k 0)), ()), ?_, g1, g2, trivial⟩
    repeat refine za ?_
    simp (disch := omega) only [aaQ, aaA, aaM, aa4, acE, aaP, zp, zm, aaI, zu]
    rfl
   ·obtain ⟨g1, g2⟩ := fin ((mag a).getD k 0 - (c + (mag b).getD k 0)) 0 zb zb zb
    refine ⟨(((k + 1 : Nat) : Int), 0, s.set k ((mag a).getD k 0 - (c + (mag b).getD k 0)), ()), ?_, g1, g2, trivial⟩
    repeat refine za ?_
    simp (disch := omega) only [aaQ, aaA, aaM, aa4, acE, aaP, zp, zm, aaI, zu]
    rfl
  ·have hz : (mag b).getD k 0 = 0 := ahK hkb 0
   rcases zP ((mag a).getD k 0) c with hc | hc
   ·obtain ⟨g1, g2⟩ := fin ((mag a).getD k 0 + 1000000000 - c) 1 zb zb zb
    refine ⟨(((k + 1 : Nat) : Int), 1, s.set k ((mag a).getD k 0 + 1000000000 - c), ()), ?_, g1, g2, trivial⟩
    repeat refine za ?_
    simp (disch := omega) only [aaQ, aaA, aaM, aa4, acE, aaP, zp, zm, aaI, zu]
    rfl
   ·obtain ⟨g1, g2⟩ := fin ((mag a).getD k 0 - c) 0 zb zb zb
    refine ⟨(((k + 1 : Nat) : Int), 0, s.set k ((mag a).getD k 0 - c), ()), ?_, g1, g2, trivial⟩
    repeat refine za ?_
    simp (disch := omega) only [aaQ, aaA, aaM, aa4, acE, aaP, zp, zm, aaI, zu]
    rfl
 ·right
  have hkk : k = (mag a).length := zb
  rw [hkk, abN _ zb, abN _ (zj _), abN _ hl, hVa, hVb] at h7
  have hlt := aIz zb h6
  rw [h5] at hlt
  have hc : c = 0 := by
   rcases zP 0 c with hc | hc
   ·have hc1 : c = 1 := zb
    subst hc1
    omega
   ·omega
  subst hc
  refine uF sd ?_
  refine uC (mag (a - b), ()) ?_ ?_
  ·rw [zr (by simp [len]; omega)]
   exact asS h6 zb zb
  ·rfl
theorem aFy {p q : Int × Int} (h : (sg p.1, sg p.2, ()) = (sg q.1, sg q.2, ())) : p = q := by
 obtain ⟨h1, h2⟩ := Prod.mk.inj h
 obtain ⟨h2, -⟩ := Prod.mk.inj h2
 exact Prod.ext (aqW h1) (aqW h2)
theorem aDP {p q : Int × Nat} (h : (sg p.1, mag p.2, ()) = (sg q.1, mag q.2, ())) : p = q := by
 obtain ⟨h1, h2⟩ := Prod.mk.inj h
 obtain ⟨h2, -⟩ := Prod.mk.inj h2
 exact Prod.ext (aqW h1) (agP h2)
theorem azS {p q : Rat × Rat} (h : (rt p.1, rt p.2, ()) = (rt q.1, rt q.2, ())) : p = q := by
 obtain ⟨h1, h2⟩ := Prod.mk.inj h
 obtain ⟨h2, -⟩ := Prod.mk.inj h2
 exact Prod.ext (axB h1) (axB h2)
theorem aP4 {p q : Rat × Nat} (h : (rt p.1, mag p.2, ()) = (rt q.1, mag q.2, ())) : p = q := by
 obtain ⟨h1, h2⟩ := Prod.mk.inj h
 obtain ⟨h2, -⟩ := Prod.mk.inj h2
 exact Prod.ext (axB h1) (agP h2)
theorem aCN (m : List Int) (negative : Bool) (y) (h : abH (m, negative, ()) = some y) : (ayI m negative).toO = some y := by
 injection h with h
 subst h
 cases negative
 ·rfl
 ·exact uT rfl (uC (len m == 0, ()) rfl rfl)
theorem ab8 {n : Nat} {b : Bool} {w : Int} (hn : n = w.natAbs) (hb : w = 0 ∨ b = decide (w < 0)) : abH (mag n, b, ()) = some (sg w, ()) := by
 subst hn
 unfold abH sg
 rcases hb with rfl | rfl
 ·simp [mag_zero, len]
 ·by_cases h0 : w = 0
  ·subst h0; simp
  ·have : (len (mag w.natAbs) == 0) = false := by
    have h1 : mag w.natAbs ≠ [] := fun h2 => by have := mag_nil_iff.1 h2; omega
    have h3 : (mag w.natAbs).length ≠ 0 := fun h2 => h1 (zU.1 h2)
    rw [aaI, beq_eq_false_iff_ne]; omega
   simp only [this, Bool.not_false, Bool.and_true]
theorem aA7 {a : Int} (h1 : Bd 8 a.natAbs) : agX (sg a, ()) = some (sg (-a), ()) := aaN (enc := fun x : Int => (sg x, ())) a h1 (fun b hb => aqW (Prod.mk.inj hb).1)
theorem aA6 {a b : Int} (h1 : Bd 7 a.natAbs) (h2 : Bd 7 b.natAbs) : alT (sg a, sg b, ()) = some (sg (a + b), ()) := aaN (enc := fun x : Int × Int => (sg x.1, sg x.2, ())) (a, b) ⟨h1, h2⟩ (fun b hb => aFy hb)
theorem auY (n : SgT) (y) (h : agX (n, ()) = some y) : (an6 n).toO = some y := by
 obtain ⟨a, hp, hx, rfl⟩ := aaH h
 obtain ⟨rfl, -⟩ := Prod.mk.inj hx
 refine uC (sg (-a), ()) (ab8 zb ?_) rfl
 by_cases h0 : a = 0
 ·left; omega
 ·right
  show (!decide (a < 0)) = decide (-a < 0)
  by_cases h1 : a < 0
  ·rw [zl h1, zk zb]; rfl
  ·rw [zk h1, zl zb]; rfl
theorem aH0 (n o : SgT) (y) (h : alT (n, o, ()) = some y) : (aAp n o).toO = some y := by
 obtain ⟨⟨a, b⟩, hp, hx, rfl⟩ := aaH h
 obtain ⟨rfl, hx2⟩ := Prod.mk.inj hx; obtain ⟨rfl, -⟩ := Prod.mk.inj hx2; dsimp only
 obtain ⟨l1, l2⟩ := hp
 simp only at l1 l2
 unfold aAp
 dsimp only
 by_cases hs : (decide (a < 0) == decide (b < 0)) = true
 ·refine uT hs ?_
  have hs' : (a < 0 ↔ b < 0) := by simpa using hs
  refine uC _ (aDr (aaG l1 zb) (aaG l2 zb)) ?_
  refine uC (sg (a + b), ()) (ab8 zb (Or.inr ?_)) rfl
  exact decide_eq_decide.2 zb
 ·have hs' : ¬ (a < 0 ↔ b < 0) := by simpa using hs
  refine uF (by simpa using hs) ?_
  refine uC _ (arQ (aaG l1 zb) (aaG l2 zb)) ?_
  by_cases hc : a.natAbs < b.natAbs
  ·refine uT ?_ ?_
   ·unfold awY; rw [if_pos zb]; rfl
   ·refine uC _ (ay7 (aaG l2 zb) zb) ?_
    refine uC (sg (a + b), ()) (ab8 zb (Or.inr ?_)) rfl
    exact decide_eq_decide.2 zb
  ·refine uF ?_ ?_
   ·unfold awY
    rw [if_neg zb]
    split <;> rfl
   ·refine uC _ (ay7 (aaG l1 zb) zb) ?_
    refine uC (sg (a + b), ()) (ab8 zb ?_) rfl
    by_cases h0 : a + b = 0
    ·exact Or.inl h0
    ·exact Or.inr (decide_eq_decide.2 zb)
theorem awC {a : Int} (h1 : Bd 8 a.natAbs) : ai4 (sg a, ()) = some (a.sign, ()) := aaN (enc := fun x : Int => (sg x, ())) a h1 (fun b hb => aqW (Prod.mk.inj hb).1)
theorem aEL (n : SgT) (y) (h : ai4 (n, ()) = some y) : (auX n).toO = some y := by
 obtain ⟨a, hp, hx, rfl⟩ := aaH h
 obtain ⟨rfl, -⟩ := Prod.mk.inj hx
 unfold auX
 dsimp only
 refine uC _ (aoX _) ?_
 rcases wk a 0 with h0 | h0 | h0
 ·refine uF zg (uT zg ?_)
  rw [xc h0]; rfl
 ·subst h0; exact uT zh rfl
 ·refine uF zg (uF zg ?_)
  rw [xl h0]; rfl
theorem aMm {a : Int} (h1 : Bd 0 a.natAbs) : aoS (sg a, ()) = some (dec a, ()) := aaN (enc := fun x : Int => (sg x, ())) a h1 (fun b hb => aqW (Prod.mk.inj hb).1)
theorem aOy {n : Nat} (h : Bd 0 n) : (aa3 n).length ≤ 9000001 := by
 have := aeV (k := 1000000 * 4 ^ 0) h
 omega
theorem aEK (n : SgT) (y) (h : aoS (n, ()) = some y) : (auW n).toO = some y := by
 obtain ⟨a, hp, hx, rfl⟩ := aaH h
 obtain ⟨rfl, -⟩ := Prod.mk.inj hx
 unfold auW
 dsimp only
 have hl := aOy hp
 by_cases h0 : a < 0
 ·refine uT zg (uC _ (aj3 hp) (uN ?_ ?_))
  ·show 1 + (aa3 a.natAbs).length ≤ lim
   unfold lim; omega
  ·rw [aiG h0]; rfl
 ·refine uF zg (uC _ (aj3 hp) ?_)
  rw [acK zb]; rfl
theorem ahV {a : Int} {b : Nat} (h1 : Bd 7 a.natAbs) (h2 : Bd 7 b) : aeD (sg a, mag b, ()) = some (sg (a * b), ()) := aaN (enc := fun x : Int × Nat => (sg x.1, mag x.2, ())) (a, b) ⟨h1, h2⟩ (fun b hb => aDP hb)
theorem aAq (n : SgT) (m : List Int) (y) (h : aeD (n, m, ()) = some y) : (amZ n m).toO = some y := by
 obtain ⟨⟨a, b⟩, hp, hx, rfl⟩ := aaH h
 obtain ⟨rfl, hx2⟩ := Prod.mk.inj hx; obtain ⟨rfl, -⟩ := Prod.mk.inj hx2; dsimp only
 obtain ⟨l1, l2⟩ := hp
 simp only at l1 l2
 unfold amZ
 dsimp only
 refine uC _ (ag7 (aaG l1 zb) (aaG l2 zb)) ?_
 refine uC (sg (a * b), ()) (ab8 (by rw [yp]; rfl) ?_) rfl
 rcases zC b with h0 | h0
 ·left; subst h0; simp
 ·right
  refine decide_eq_decide.2 ⟨fun h => wN h zb, fun h => ?_⟩
  rcases zP a 0 with h2 | h2
  ·exact h2
  ·have := xr h2 (show (0 : Int) ≤ b by omega); omega
theorem ayF {a : Int} {d : Nat} (ha : a < 0) (hd : d ≠ 0) : a / (d : Int) = -((if a.natAbs % d = 0 then a.natAbs / d else a.natAbs / d + 1 : Nat) : Int) := by
 obtain ⟨n, hn⟩ : ∃ n : Nat, a = -(n : Int) := ⟨a.natAbs, by omega⟩
 subst hn
 rw [wV, yc]
 have e := vl n d
 have hlt := yy n (show 0 < d by omega)
 generalize hq : n / d = q at e
 generalize hr : n % d = r at e hlt
 by_cases h0 : r = 0
 ·rw [if_pos h0]
  have : -(n : Int) = -(q : Int) * d := by
   rw [← e, h0]; simp; grind
  rw [this, Int.mul_ediv_cancel _ zb]
 ·rw [if_neg h0]
  have h1 : -(n : Int) = ((d : Int) - r) + (-((q + 1 : Nat) : Int)) * d := by
   rw [← e]; simp; grind
  rw [h1, Int.add_mul_ediv_right _ _ zb, xm zb zb, vw]
theorem aID {a : Int} {b : Nat} (h1 : Bd 7 a.natAbs) (h2 : Bd 7 b) (h3 : b ≠ 0) : alU (sg a, mag b, ()) = some (sg (a / b), ()) := aaN (enc := fun x : Int × Nat => (sg x.1, mag x.2, ())) (a, b) ⟨h1, h2, h3⟩ (fun b hb => aDP hb)
theorem aAd : mag 1 = [1] := an0 zb zb
theorem aQq : mag 2 = [2] := an0 zb zb
theorem aCM (n : SgT) (d : List Int) (y) (h : alU (n, d, ()) = some y) : (aqB n d).toO = some y := by
 obtain ⟨⟨a, b⟩, hp, hx, rfl⟩ := aaH h
 obtain ⟨rfl, hx2⟩ := Prod.mk.inj hx; obtain ⟨rfl, -⟩ := Prod.mk.inj hx2; dsimp only
 obtain ⟨l1, l2, l3⟩ := hp
 simp only at l1 l2 l3
 unfold aqB
 dsimp only
 refine uC _ (acS (aaG l1 zb) (aaG l2 zb) l3) ?_
 by_cases ha : a < 0
 ·refine uT zg ?_
  refine uC _ (aoX _) ?_
  have hf := ayF ha l3
  have hbd := aaL b l1
  generalize a.natAbs / b = q at hf hbd
  generalize hrr : a.natAbs % b = r at hf
  by_cases hr : r = 0
  ·rw [if_pos hr] at hf
   refine uF zg ?_
   refine uC (sg (a / b), ()) (ab8 (n := q) zb ?_) rfl
   by_cases h0 : a / (b : Int) = 0
   ·exact Or.inl h0
   ·exact Or.inr (decide_eq_decide.2 zb)
  ·rw [if_neg hr] at hf
   refine uT zg ?_
   have := aDr (a := q) (b := 1) (aaG hbd zb) (aaG (aaD zb) zb)
   rw [aAd] at this
   refine uC _ this ?_
   refine uC (sg (a / b), ()) (ab8 (n := q + 1) zb (Or.inr (decide_eq_decide.2 zb))) rfl
 ·refine uF zg ?_
  obtain ⟨n, rfl⟩ := zE (show 0 ≤ a by omega)
  have hdv : ((n : Int) / (b : Int)) = ((n / b : Nat) : Int) := zh
  rw [hdv]
  refine uC (sg ((n / b : Nat) : Int), ()) (ab8 (n := n / b) rfl (Or.inr (decide_eq_decide.2 ?_))) rfl
  generalize n / b = q
  omega
theorem aAH (s p : List UInt8) (hs : s.length ≤ 4611686018427387904) (y) (h : acB (s, p, ()) = some y) : (am5 s p).toO = some y := by
 injection h with h
 subst h
 unfold am5
 dsimp only
 rcases zv s.length p.length with hl | hl
 ·repeat refine za ?_
  have : p.isPrefixOf s = false := by
   cases hp : p.isPrefixOf s with
   | false => rfl
   | true => have := (wJ.1 hp).length_le; omega
  simp [this, aaQ]
 ·refine uV (uV (uV (uV (uT sd (uN sd ?_)))))
  simp only [aaI, zm]
  by_cases hp : p.isPrefixOf s = true
  ·have h2 := List.prefix_iff_eq_take.1 (wJ.1 hp)
   refine uF (by rw [← h2]; simp) (uN sd ?_)
   rw [if_pos hp, zr zh]; rfl
  ·refine uT ?_ ?_
   ·simp only [yh, beq_eq_false_iff_ne]
    intro h2
    exact hp (wJ.2 (List.prefix_iff_eq_take.2 h2.symm))
   ·rw [if_neg hp]; rfl
theorem aDs (z : Int) : acB (dec z, #[45].toList, ()) = some (aa3 z.natAbs, decide (z < 0), ()) := by
 unfold acB
 show some (if [45].isPrefixOf (dec z) = true then _ else _) = _
 by_cases h : z < 0
 ·rw [aiG h, zl h]
  simp [List.isPrefixOf]
 ·rw [acK zb, zk h]
  have : [45].isPrefixOf (aa3 z.natAbs) = false := by
   have := adX z.natAbs
   cases hd : aa3 z.natAbs with
   | nil => rfl
   | cons a l =>
    rw [hd] at this
    simp only [vq, ne_eq, Option.some.injEq] at this
    simp [List.isPrefixOf, Ne.symm this]
  rw [this]; simp
theorem alX {z : Int} (h : Bd 7 z.natAbs) : afZ (dec z, ()) = some (sg z, ()) := aaN (enc := fun x : Int => (dec x, ())) z h (fun b hb => am4 (Prod.mk.inj hb).1)
theorem aCO (a : List UInt8) (y) (h : afZ (a, ()) = some y) : (ayJ a).toO = some y := by
 obtain ⟨z, hp, hx, rfl⟩ := aaH h
 obtain ⟨rfl, -⟩ := Prod.mk.inj hx
 exact uC _ (aDs z) (uC _ (ay8 (aaG hp zb)) rfl)
theorem aoZ {q : Rat} (h : aiB q) : wrF q = (fx q, 0, ()) := if_pos h
theorem azC {q : Rat} (h : ¬ aiB q) : wrF q = (([], [], ()), 6, ()) := if_neg h
theorem asO {z : Int} (h : Fit z) : wrW z = (dec z, 0, ()) := if_pos h
theorem azB {z : Int} (h : ¬ Fit z) : wrW z = ([], 6, ()) := if_neg h
theorem aMd {z : Int} (h : Bd 8 z.natAbs) : aDl (sg z, ()) = some (wrW z) := aaN (enc := fun x : Int => (sg x, ())) z h (fun b hb => aqW (Prod.mk.inj hb).1)
theorem alV {q : Rat} (h : BdQ 8 q) : afX (rt q, ()) = some (wrF q) := aaN (enc := fun x : Rat => (rt x, ())) q h (fun b hb => axB (Prod.mk.inj hb).1)
theorem aCA (x : RtT) (y) (h : afX (x, ()) = some y) : (ap3 x).toO = some y := by
 obtain ⟨q, hp, hx, rfl⟩ := aaH h
 obtain ⟨rfl, -⟩ := Prod.mk.inj hx
 obtain ⟨h1, h2⟩ := hp
 unfold ap3
 dsimp only
 refine uC _ (awB h1) ?_
 by_cases hf : Fit q.num
 ·have hf' : (aa3 q.num.natAbs).length ≤ 600 := hf
  refine uF zg ?_
  refine uC _ (awB h2) ?_
  by_cases hg : Fit q.den
  ·have hg' : (aa3 q.den).length ≤ 600 := hg
   rw [aoZ ⟨hf, hg⟩]
   refine uF zg ?_
   exact uC _ (aMm (aoF hf)) (uC _ (aj3 (aoF hg)) rfl)
  ·have hg' : ¬ (aa3 q.den).length ≤ 600 := hg
   rw [azC (fun h => hg h.2)]
   exact uT zg rfl
 ·have hf' : ¬ (aa3 q.num.natAbs).length ≤ 600 := hf
  rw [azC (fun h => hf h.1)]
  exact uT zg rfl
theorem ai6 {g : Nat} {t n : Int} (h : n = g * t) (g0 : g ≠ 0) : (n < 0 ↔ t < 0) ∧ (n = 0 ↔ t = 0) := by
 subst h
 rcases wk t 0 with h | h | h
 ·have := wO (show (0 : Int) < g by omega) h
  omega
 ·subst h; simp
 ·have := Int.mul_pos (show (0 : Int) < g by omega) h
  omega
theorem adJ {g : Nat} {t n : Int} (h : n = g * t) (g0 : g ≠ 0) : n.natAbs / g = t.natAbs := by
 rw [h, yp, yc, yn _ zb]
theorem aFl {n : Int} {d : Nat} (h1 : Bd 7 n.natAbs) (h2 : Bd 7 d) (h3 : d ≠ 0) : aj2 (sg n, mag d, ()) = some (rt (mkRat n d), ()) := aaN (enc := fun x : Int × Nat => (sg x.1, mag x.2, ())) (n, d) ⟨h1, h2, h3⟩ (fun b hb => aDP hb)
theorem aAs (n : SgT) (d : List Int) (y) (h : aj2 (n, d, ()) = some y) : (am0 n d).toO = some y := by
 obtain ⟨⟨a, b⟩, hp, hx, rfl⟩ := aaH h
 obtain ⟨rfl, hx2⟩ := Prod.mk.inj hx; obtain ⟨rfl, -⟩ := Prod.mk.inj hx2; dsimp only
 obtain ⟨l1, l2, l3⟩ := hp
 simp only at l1 l2 l3
 obtain ⟨g, t, hg, g0, hn, e1, e2⟩ := ae1 a l3
 have hs := ai6 hn g0
 have ha := adJ hn g0
 unfold am0
 dsimp only
 have bg : Bd 7 g := by rw [hg]; repeat (first | assumption | exact aaG ze zb | exact aaD zb | refine aaY ?_ ?_ | refine aaL _ ?_ | refine aa0 _ ?_ | refine aaC ?_ ?_ | refine aaB ?_ ?_ | refine aaT ?_ | refine aaU ?_ ?_ | refine aa1 ?_ ?_ | refine aaK ?_)
 refine uC (mag g, ()) (by rw [alW zc zc, hg]) ?_
 refine uC _ (acS zc zc g0) ?_
 refine uC _ (acS zc zc g0) ?_
 refine uC (sg t, ()) (ab8 ha (Or.inr (decide_eq_decide.2 hs.1))) ?_
 show some (((sg t), mag (b / g), ()), ()) = some (rt (mkRat a b), ())
 unfold rt
 rw [e1, e2]
theorem aDp {q : Rat} (h : BdQ 7 q) : arP (rt q, ()) = some (rt (-q), ()) := aaN (enc := fun x : Rat => (rt x, ())) q h (fun b hb => axB (Prod.mk.inj hb).1)
theorem aDq {q : Rat} (h : BdQ 7 q) (h0 : q ≠ 0) : ah9 (rt q, ()) = some (rt q⁻¹, ()) := aaN (enc := fun x : Rat => (rt x, ())) q ⟨h, h0⟩ (fun b hb => axB (Prod.mk.inj hb).1)
theorem aF1 {q : Rat} (h : q ≠ 0) : q.num ≠ 0 := fun h2 => h (Rat.num_eq_zero.1 h2)
theorem aCq {q : Rat} (h : q ≠ 0) : (q⁻¹).num.natAbs = q.den ∧ ((q⁻¹).num < 0 ↔ q.num < 0) ∧ (q⁻¹).den = q.num.natAbs := by
 have h1 := aF1 h
 have h2 := q.den_pos
 rw [Rat.num_inv, Rat.den_inv, if_neg h1]
 rcases zP q.num 0 with h3 | h3
 ·rw [xc h3]; omega
 ·rw [xl zb]; omega
theorem awT (x : RtT) (y) (h : ah9 (x, ()) = some y) : (aq9 x).toO = some y := by
 obtain ⟨q, hp, hx, rfl⟩ := aaH h
 obtain ⟨rfl, -⟩ := Prod.mk.inj hx
 obtain ⟨e1, e2, e3⟩ := aCq hp.2
 refine uC (sg (q⁻¹).num, ()) (ab8 e1.symm (Or.inr (decide_eq_decide.2 e2.symm))) ?_
 show some ((sg (q⁻¹).num, mag q.num.natAbs, ()), ()) = some (rt q⁻¹, ())
 unfold rt
 rw [e3]
theorem aGD {p q : Rat} (h : BdQ 3 p) (h2 : BdQ 3 q) : aoR (rt p, rt q, ()) = some (rt (p + q), ()) := aaN (enc := fun x : Rat × Rat => (rt x.1, rt x.2, ())) (p, q) ⟨h, h2⟩ (fun b hb => azS hb)
theorem aHU (x x' : RtT) (y) (h : aoR (x, x', ()) = some y) : (aAk x x').toO = some y := by
 obtain ⟨⟨p, q⟩, hp, hx, rfl⟩ := aaH h
 obtain ⟨rfl, hx2⟩ := Prod.mk.inj hx; obtain ⟨rfl, -⟩ := Prod.mk.inj hx2; dsimp only
 obtain ⟨⟨p1, p2⟩, q1, q2⟩ := hp
 simp only at p1 p2 q1 q2
 obtain ⟨g, h', top, t, hg, ht, hh, g0, h0, htt, e1, e2⟩ := aDg p q
 have hs := ai6 htt h0
 have ha := adJ htt h0
 have bg : Bd 3 g := by rw [hg]; repeat (first | assumption | exact aaG ze zb | exact aaD zb | refine aaY ?_ ?_ | refine aaL _ ?_ | refine aa0 _ ?_ | refine aaC ?_ ?_ | refine aaB ?_ ?_ | refine aaT ?_ | refine aaU ?_ ?_ | refine aa1 ?_ ?_ | refine aaK ?_)
 have bt : Bd 5 top.natAbs := by
  rw [ht]
  refine aaC (aaB ?_ (aaK ?_)) (aaB ?_ (aaK ?_)) <;> repeat (first | assumption | exact aaG ze zb | exact aaD zb | refine aaY ?_ ?_ | refine aaL _ ?_ | refine aa0 _ ?_ | refine aaC ?_ ?_ | refine aaB ?_ ?_ | refine aaT ?_ | refine aaU ?_ ?_ | refine aa1 ?_ ?_ | refine aaK ?_)
 have bh : Bd 5 h' := by rw [hh]; repeat (first | assumption | exact aaG ze zb | exact aaD zb | refine aaY ?_ ?_ | refine aaL _ ?_ | refine aa0 _ ?_ | refine aaC ?_ ?_ | refine aaB ?_ ?_ | refine aaT ?_ | refine aaU ?_ ?_ | refine aa1 ?_ ?_ | refine aaK ?_)
 unfold aAk
 dsimp only
 refine uC (mag g, ()) (by rw [alW zc zc, hg]) ?_
 refine uC _ (acS zc zc g0) ?_
 refine uC _ (acS zc zc g0) ?_
 refine uC _ (ahV zc zc) ?_
 refine uC _ (ahV zc zc) ?_
 refine uC (sg top, ()) (by rw [aA6 zc zc, ht]) ?_
 refine uC (mag h', ()) (by rw [alW zc zc, hh]) ?_
 refine uC _ (acS zc zc h0) ?_
 refine uC _ (acS zc zc h0) ?_
 refine uC (sg t, ()) (ab8 ha (Or.inr (decide_eq_decide.2 hs.1))) ?_
 refine uC _ (ag7 zc zc) ?_
 show some ((sg t, mag (p.den / g * (q.den / h')), ()), ()) = some (rt (p + q), ())
 unfold rt
 rw [e1, e2]
theorem aRc (x x' : RtT) (y) (h : aOI (x, x', ()) = some y) : (aOb x x').toO = some y := by
 obtain ⟨⟨p, q⟩, hp, hx, rfl⟩ := aaH h
 obtain ⟨rfl, hx2⟩ := Prod.mk.inj hx; obtain ⟨rfl, -⟩ := Prod.mk.inj hx2; dsimp only
 obtain ⟨bp, bq⟩ := hp
 refine uC _ (aDp ⟨aaG bq.1 zb, aaG bq.2 zb⟩) ?_
 refine uC _ (aGD bp ⟨aaT bq.1, bq.2⟩) ?_
 rw [Rat.sub_eq_add_neg]; rfl
theorem aGC {p q : Rat} (h : BdQ 3 p) (h2 : BdQ 3 q) : aoQ (rt p, rt q, ()) = some (rt (p * q), ()) := aaN (enc := fun x : Rat × Rat => (rt x.1, rt x.2, ())) (p, q) ⟨h, h2⟩ (fun b hb => azS hb)
theorem aHT (x x' : RtT) (y) (h : aoQ (x, x', ()) = some y) : (aAj x x').toO = some y := by
 obtain ⟨⟨p, q⟩, hp, hx, rfl⟩ := aaH h
 obtain ⟨rfl, hx2⟩ := Prod.mk.inj hx; obtain ⟨rfl, -⟩ := Prod.mk.inj hx2; dsimp only
 obtain ⟨⟨p1, p2⟩, q1, q2⟩ := hp
 simp only at p1 p2 q1 q2
 obtain ⟨g, h', s, t, hg, hh, g0, h0, hs, ht, e1, e2⟩ := aCl p q
 have as1 := adJ hs g0
 have at' := adJ ht h0
 have ss := ai6 hs g0
 have st := ai6 ht h0
 have bg : Bd 3 g := by rw [hg]; repeat (first | assumption | exact aaG ze zb | exact aaD zb | refine aaY ?_ ?_ | refine aaL _ ?_ | refine aa0 _ ?_ | refine aaC ?_ ?_ | refine aaB ?_ ?_ | refine aaT ?_ | refine aaU ?_ ?_ | refine aa1 ?_ ?_ | refine aaK ?_)
 have bh : Bd 3 h' := by rw [hh]; repeat (first | assumption | exact aaG ze zb | exact aaD zb | refine aaY ?_ ?_ | refine aaL _ ?_ | refine aa0 _ ?_ | refine aaC ?_ ?_ | refine aaB ?_ ?_ | refine aaT ?_ | refine aaU ?_ ?_ | refine aa1 ?_ ?_ | refine aaK ?_)
 unfold aAj
 dsimp only
 refine uC (mag g, ()) (by rw [alW zc zc, hg]) ?_
 refine uC (mag h', ()) (by rw [alW zc zc, hh]) ?_
 refine uC _ (acS zc zc g0) ?_
 refine uC _ (acS zc zc h0) ?_
 refine uC _ (acS zc zc h0) ?_
 refine uC _ (acS zc zc g0) ?_
 refine uC _ (ag7 zc zc) ?_
 refine uC (sg (s * t), ()) (ab8 (n := p.num.natAbs / g * (q.num.natAbs / h')) (by rw [as1, at', yp]) ?_) ?_
 ·by_cases hz : s * t = 0
  ·exact Or.inl hz
  ·right
   show (!(decide (p.num < 0) == decide (q.num < 0))) = decide (s * t < 0)
   have z1 : s ≠ 0 := fun h => hz (by rw [h]; simp)
   have z2 : t ≠ 0 := fun h => hz (by rw [h]; simp)
   rcases zP s 0 with c1 | c1 <;> rcases zP t 0 with c2 | c2
   ·have := Int.mul_pos_of_neg_of_neg c1 c2
    rw [zl (ss.1.2 c1), zl (st.1.2 c2), zk zb]; rfl
   ·have := wN c1 (show 0 < t by omega)
    rw [zl (ss.1.2 c1), zk zb, zl zb]; rfl
   ·have := wO (show 0 < s by omega) c2
    rw [zk zb, zl (st.1.2 c2), zl zb]; rfl
   ·have := Int.mul_pos (show 0 < s by omega) (show 0 < t by omega)
    rw [zk zb, zk zb, zk zb]; rfl
 refine uC _ (ag7 zc zc) ?_
 show some ((sg (s * t), mag (p.den / h' * (q.den / g)), ()), ()) = some (rt (p * q), ())
 unfold rt
 rw [e1, e2]
theorem aIC {p q : Rat} (h : BdQ 3 p) (h2 : BdQ 3 q) : alR (rt p, rt q, ()) = some (aDu p q, ()) := aaN (enc := fun x : Rat × Rat => (rt x.1, rt x.2, ())) (p, q) ⟨h, h2⟩ (fun b hb => azS hb)
theorem aCB (x x' : RtT) (y) (h : alR (x, x', ()) = some y) : (ap4 x x').toO = some y := by
 obtain ⟨⟨p, q⟩, hp, hx, rfl⟩ := aaH h
 obtain ⟨rfl, hx2⟩ := Prod.mk.inj hx; obtain ⟨rfl, -⟩ := Prod.mk.inj hx2; dsimp only
 obtain ⟨⟨p1, p2⟩, q1, q2⟩ := hp
 simp only at p1 p2 q1 q2
 unfold ap4
 dsimp only
 refine uC _ (ahV zc zc) ?_
 refine uC _ (ahV zc zc) ?_
 refine uC _ (aA7 (aaG (aaB q1 (aaK p2)) zb)) ?_
 refine uC _ (aA6 (aaG (aaB p1 (aaK q2)) zb) (aaT (aaG (aaB q1 (aaK p2)) zb))) ?_
 refine uC _ (awC (aaG (aaC (aaB p1 (aaK q2)) (aaT (aaB q1 (aaK p2)))) zb)) ?_
 rw [aEj]; rfl
theorem aMl {q : Rat} {s : Nat} (h : BdQ 1 q) (h2 : Bd 1 s) : aoP (rt q, mag s, ()) = some (sg (aj6 q s), ()) := aaN (enc := fun x : Rat × Nat => (rt x.1, mag x.2, ())) (q, s) ⟨h, h2⟩ (fun b hb => aP4 hb)
theorem aED (x : RtT) (sc : List Int) (y) (h : aoP (x, sc, ()) = some y) : (auJ x sc).toO = some y := by
 obtain ⟨⟨q, s⟩, hp, hx, rfl⟩ := aaH h
 obtain ⟨rfl, hx2⟩ := Prod.mk.inj hx; obtain ⟨rfl, -⟩ := Prod.mk.inj hx2; dsimp only
 obtain ⟨⟨p1, p2⟩, bs⟩ := hp
 simp only at p1 p2 bs
 have b2 : Bd 1 2 := aaG (aaD zb) zb
 unfold auJ
 dsimp only
 have t1 := ag7 (a := s) (b := 2) zc zc
 have t2 := ag7 (a := q.den) (b := 2) zc zc
 rw [aQq] at t1 t2
 refine uC _ t1 ?_
 refine uC _ (ahV zc zc) ?_
 refine uC (sg (q.den : Int), ()) (ab8 (w := (q.den : Int)) zh (Or.inr (by rw [zk zb]))) ?_
 refine uC _ (aA6 (aaG (aaB (aaG p1 (show 1 ≤ 2 by omega)) (aaK (aaU bs b2))) zb) zc) ?_
 refine uC _ t2 ?_
 refine uC _ (aID zc zc (yP q.den_nz zb)) ?_
 rw [aEs]; rfl
theorem aJd {s t : List UInt8} {b : Bool} (hc : acB (s, #[45].toList, ()) = some (t, b, ())) (h : ¬ (isD t ∧ t ≠ [] ∧ t.length ≤ 600 ∧ (t.head? = some 48 → b = false ∧ t.length = 1))) : rdW s = none := by
 refine aM4 fun z hz he => h ?_
 rw [← he, aDs] at hc
 injection hc with hc
 obtain ⟨rfl, h2⟩ := Prod.mk.inj hc
 obtain ⟨rfl, -⟩ := Prod.mk.inj h2
 refine ⟨aoB _, ahP _, hz, fun h0 => ?_⟩
 by_cases hn : z.natAbs = 0
 ·rw [hn, ab2 zb]
  exact ⟨zk zb, rfl⟩
 ·exact absurd h0 (aLE hn)
theorem aJc {s t : List UInt8} {b : Bool} (hc : acB (s, #[45].toList, ()) = some (t, b, ())) (h1 : isD t) (h2 : t ≠ []) (h3 : t.length ≤ 600) (h4 : t.head? = some 48 → b = false ∧ t.length = 1) : ∃ z : Int, rdW s = some z ∧ z.natAbs = num t ∧ decide (z < 0) = b := by
 have hu : t = aa3 (num t) := aC0 h1 h2 (by
  by_cases h0 : t.head? = some 48
  ·exact Or.inr (h4 h0).2
  ·exact Or.inl h0)
 have hs : s = if b then 45 :: t else t := by
  injection hc with hc
  simp only at hc
  split at hc
  ·rename_i hp
   obtain ⟨e1, e2⟩ := Prod.mk.inj hc
   obtain ⟨rfl, -⟩ := Prod.mk.inj e2
   cases s with
   | nil => cases hp
   | cons c s =>
    have : c = 45 := by
     have h5 : ([45] : List UInt8).isPrefixOf (c :: s) = true := hp
     simp [List.isPrefixOf] at h5
     exact h5.symm
    rw [this, ← e1]; rfl
  ·obtain ⟨e1, e2⟩ := Prod.mk.inj hc
   obtain ⟨rfl, -⟩ := Prod.mk.inj e2
   rw [← e1]; rfl
 cases b
 ·refine ⟨(num t : Int), ?_, by simp, by simp⟩
  have : s = dec (num t : Int) := by rw [ajR, ← hu, hs]; rfl
  rw [this, apB (show (aa3 (num t : Int).natAbs).length ≤ 600 by simp; rw [← hu]; exact h3)]
 ·have hn : num t ≠ 0 := by
   intro h0
   rw [h0, ab2 zb] at hu
   have := h4 (by rw [hu]; rfl)
   cases this.1
  refine ⟨-(num t : Int), ?_, by simp, by simp; omega⟩
  have : s = dec (-(num t : Int)) := by rw [aiG zb, wV, yc, ← hu, hs]; rfl
  rw [this, apB (show (aa3 (-(num t : Int)).natAbs).length ≤ 600 by simp; rw [← hu]; exact h3)]
noncomputable def aQ9 (s : List UInt8) : SgT × Bool × Unit := match rdW s with | some z => (sg z, true, ()) | none => (([], false, ()), false, ())
theorem aGH (a : List UInt8) (y) (h : ajY (a, ()) = some y) : (azD a).toO = some y := by
 have hy : y = aQ9 a := by injection h with h; exact h.symm
 clear h
 subst hy
 obtain ⟨t, b, hc⟩ : ∃ t b, acB (a, #[45].toList, ()) = some (t, b, ()) := ⟨_, _, rfl⟩
 have hnot : ¬ (isD t ∧ t ≠ [] ∧ t.length ≤ 600 ∧ (t.head? = some 48 → b = false ∧ t.length = 1)) → aQ9 a = (([], false, ()), false, ()) := fun h => by unfold aQ9; rw [aJd hc h]
 have hyes : isD t → t ≠ [] → t.length ≤ 600 → (t.head? = some 48 → b = false ∧ t.length = 1) → aiV (t, ()) = some (mag (num t), ()) ∧ aQ9 a = ((mag (num t), b, ()), true, ()) := fun h1 h2 h3 h4 => by
  obtain ⟨z, e1, e2, e3⟩ := aJc hc h1 h2 h3 h4
  refine ⟨?_, ?_⟩
  ·unfold aiV
   rw [if_pos ⟨h1, h2, by simp only; omega⟩]
  ·unfold aQ9
   rw [e1]
   show ((mag z.natAbs, decide (z < 0), ()), true, ()) = _
   rw [e2, e3]
 unfold azD
 refine uC (t, b, ()) hc ?_
 by_cases h1 : t = []
 ·rw [hnot (fun h => h.2.1 h1)]
  refine uR _ (uT (by simp [h1, len]) rfl)
 have hlen : 1 ≤ t.length := zM.2 h1
 by_cases h2 : t.length ≤ 600
 case neg =>
  rw [hnot (fun h => h2 h.2.2.1)]
  refine uR _ (uF sd (uT sd rfl))
 refine uL (false, ()) (uF sd (uF sd rfl)) ?_
 refine uO (0, ()) rfl ?_
 refine aaS (fun i : Int × Unit => ∃ k : Nat, i.1 = (k : Int) ∧ k ≤ t.length ∧ isD (t.take k)) (fun i => ((t.length : Int) - i.1).toNat) (fun _ => aQ9 a) ?_ _ ⟨0, rfl, by omega, by simp [isD]⟩
 rintro ⟨i, u⟩ ⟨k, h3, h4, h5⟩
 simp only at h3
 subst h3
 simp only [aBe, aaP]
 rcases zv k t.length with hk | hk
 ·have e1 : t.getD k 0 = t[k] := by simp [hk]
  simp only [e1]
  by_cases c1 : t[k].toNat < 48
  ·right
   rw [hnot (fun h => by have := h.1 t[k] (yl hk); omega)]
   repeat refine za ?_
   rfl
  by_cases c2 : t[k].toNat > 57
  ·right
   rw [hnot (fun h => by have := h.1 t[k] (yl hk); omega)]
   repeat refine za ?_
   rfl
  ·left
   refine ⟨(((k + 1 : Nat) : Int), ()), ?_, ⟨k + 1, rfl, by omega, ?_⟩, by simp only; omega, zd⟩
   ·repeat refine za ?_
    simp (disch := omega) only [aaQ, aaA, aaM, aa4, acE, aaP, zp, zm, aaI, zu]
    rfl
   ·rw [zN hk, isD_append]
    refine ⟨h5, fun c hc => ?_⟩
    have := yj.1 hc
    subst this
    omega
 ·right
  have hd : isD t := by rwa [zr hk] at h5
  refine uF sd (uN ⟨by simp [asT], by exact sn⟩ ?_)
  cases ht : t with
  | nil => exact absurd ht h1
  | cons c r =>
   rw [← ht]
   have hg : gi t 0 0 = c := by rw [ht]; rfl
   simp only [hg]
   have hh : t.head? = some c := by rw [ht]; rfl
   by_cases c0 : c = 48
   ·subst c0
    refine uT (by rfl) ?_
    cases b
    ·refine uF rfl ?_
     by_cases hl : t.length = 1
     ·obtain ⟨g1, g2⟩ := hyes hd h1 h2 (fun _ => ⟨rfl, hl⟩)
      rw [g2]
      exact uF sd (uC _ g1 rfl)
     ·rw [hnot (fun h => hl (h.2.2.2 hh).2)]
      exact uT sd rfl
    ·rw [hnot (fun h => by have := (h.2.2.2 hh).1; cases this)]
     exact uT rfl rfl
   ·obtain ⟨g1, g2⟩ := hyes hd h1 h2 (fun h => by rw [hh] at h; injection h with h; exact absurd h c0)
    rw [g2]
    refine uF ?_ (uC _ g1 rfl)
    rw [beq_eq_false_iff_ne]
    intro h
    exact c0 (UInt8.toNat_inj.1 (Int.ofNat.inj h))
theorem aA0 {s : List UInt8} {z : Int} (h : rdW s = some z) : ajY (s, ()) = some (sg z, true, ()) := by unfold ajY; rw [h]
theorem aA1 {s : List UInt8} (h : rdW s = none) : ajY (s, ()) = some (([], false, ()), false, ()) := by unfold ajY; rw [h]
theorem aDz (a : List UInt8) (y) (h : agK (a, ()) = some y) : (asP a).toO = some y := by
 unfold agK at h
 unfold asP
 cases hr : rdW a with
 | none =>
  simp only [hr] at h
  exact uC _ (aA1 hr) (uT rfl h)
 | some z =>
  simp only [hr] at h
  exact uC _ (aA0 hr) (uF rfl h)
theorem aMF (n : Int) (y) (h : av1 (n, ()) = some y) : (aON n).toO = some y := by
 unfold av1 at h
 split at h
 ·rename_i hp
  exact uC (dec n, ()) (by unfold ak1; exact if_pos hp) h
 ·cases h
theorem aPK {n : Int} (h : aeI n) : av1 (n, ()) = some (dec n, ()) := by unfold av1; rw [if_pos h]
theorem aDm {a b : Int} (h1 : Bd 7 a.natAbs) (h2 : Bd 7 b.natAbs) : arO (sg a, sg b, ()) = some (sg (a * b), ()) := aaN (enc := fun x : Int × Int => (sg x.1, sg x.2, ())) (a, b) ⟨h1, h2⟩ (fun b hb => aFy hb)
theorem axF {s : List UInt8} {z : Int} (h : rdW s = some z) : Bd 0 z.natAbs := aoF (agR h).1
theorem aRk (a b : List UInt8) (y) (h : aMb (a, b, ()) = some y) : (aIM a b).toO = some y := by
 unfold aMb at h
 unfold aIM
 refine uV (uV ?_)
 cases hr : rdW a with
 | none =>
  simp only [hr] at h
  refine uC (([], false, ()), ([], false, ()), 10, ()) (by unfold asK; simp only [hr]) (uT rfl h)
 | some z =>
  cases hb : rdW b with
  | none =>
   simp only [hr, hb] at h
   refine uC (([], false, ()), ([], false, ()), 10, ()) (by unfold asK; simp only [hr, hb]) (uT rfl h)
  | some w =>
   simp only [hr, hb] at h
   have b1 := axF hr
   have b2 := axF hb
   refine uC (sg z, sg w, 0, ()) (by unfold asK; simp only [hr, hb]) (uF rfl (uV ?_))
   refine uC _ (aDm (aaG b1 zb) (aaG b2 zb)) ?_
   refine uC _ (aMd (aaG (aaB b1 b2) zb)) ?_
   exact h
theorem aeY (s : List UInt8) : agK (s, ()) = some (if (rdW s).isSome then 0 else 10, ()) := rfl
theorem aLN (n : Nat) : awY n 1 = 0 ↔ n = 1 := by
 unfold awY
 split
 ·omega
 ·split <;> omega
theorem aH3 (a : FxT) (y) (h : acV (a, ()) = some y) : (aAt a).toO = some y := by
 obtain ⟨s, t, u⟩ := a
 have hs := aOW s t
 unfold acV at h
 dsimp only at h
 unfold aAt
 dsimp only
 cases hn : rdW s with
 | none =>
  rw [hn] at hs
  have hs' : rdF (s, t, u) = none := hs
  rw [hs'] at h
  refine uC _ (aeY s) (uT (by rw [hn]; rfl) h)
 | some n =>
  cases hd : rdW t with
  | none =>
   rw [hn, hd] at hs
   have hs' : rdF (s, t, u) = none := hs
   rw [hs'] at h
   refine uC _ (aeY s) (uF (by rw [hn]; rfl) (uC _ (aeY t) (uT (by rw [hd]; rfl) h)))
  | some d =>
   rw [hn, hd] at hs
   dsimp only at hs
   obtain ⟨f1, e1⟩ := agR hn
   obtain ⟨f2, e2⟩ := agR hd
   have b1 := axF hn
   have b2 := axF hd
   refine uC _ (aeY s) (uF (by rw [hn]; rfl) (uC _ (aeY t) (uF (by rw [hd]; rfl) ?_)))
   refine uC (sg n, ()) (by rw [e1]; exact alX (aaG b1 zb)) ?_
   refine uC (sg d, ()) (by rw [e2]; exact alX (aaG b2 zb)) ?_
   refine uC _ (awC (aaG b2 zb)) ?_
   by_cases hp : 0 < d
   ·refine uF ?_ ?_
    ·rw [xl hp]; rfl
    have hg := alW (a := n.natAbs) (b := d.natAbs) (aaG b1 zb) (aaG b2 zb)
    refine uC _ hg ?_
    have hc := arQ (a := Nat.gcd n.natAbs d.natAbs) (b := 1) (aaG (aaY b1 b2) zb) (aaG (aaD zb) zb)
    rw [aAd] at hc
    refine uC _ hc ?_
    by_cases hcop : n.natAbs.Coprime d.natAbs
    ·rw [dif_pos ⟨hp, hcop⟩] at hs
     have hs' : rdF (s, t, u) = some ⟨n, d.natAbs, by omega, hcop⟩ := hs
     rw [hs'] at h
     refine uF ?_ h
     have : awY (Nat.gcd n.natAbs d.natAbs) 1 = 0 := (aLN _).2 hcop
     show (awY (Nat.gcd n.natAbs d.natAbs) 1 != 0) = false
     rw [this]; rfl
    ·rw [dif_neg (fun h => hcop h.2)] at hs
     have hs' : rdF (s, t, u) = none := hs
     rw [hs'] at h
     refine uT ?_ h
     show (awY (Nat.gcd n.natAbs d.natAbs) 1 != 0) = true
     rw [xn]
     exact fun h2 => hcop ((aLN _).1 h2)
   ·rw [dif_neg (fun h => hp h.1)] at hs
    have hs' : rdF (s, t, u) = none := hs
    rw [hs'] at h
    refine uT ?_ h
    rcases zP d 0 with h0 | h0
    ·rw [xc h0]; rfl
    ·have : d = 0 := zb
     rw [this]; rfl
theorem aaV {s : FxT} {q : Rat} (h : rdF s = some q) : acV (s, ()) = some (rt q, true, ()) := by unfold acV; dsimp only; rw [h]
theorem aaW {s : FxT} (h : rdF s = none) : acV (s, ()) = some ((([], false, ()), [], ()), false, ()) := by unfold acV; dsimp only; rw [h]
theorem acR {k j : Nat} {q : Rat} (h : BdQ k q) (hk : k ≤ j) : BdQ j q := ⟨aaG h.1 hk, aaG h.2 hk⟩
theorem afG {s : FxT} {q : Rat} (h : rdF s = some q) : BdQ 0 q := by
 obtain ⟨h1, h2⟩ := (ac1 h).1
 exact ⟨aoF h1, aoF h2⟩
theorem aFe {k : Nat} {p q : Rat} (h1 : BdQ k p) (h2 : BdQ k q) : BdQ (k + 2) (p + q) := by
 obtain ⟨g, h', top, t, hg, ht, hh, g0, h0, htt, e1, e2⟩ := aDg p q
 refine ⟨?_, ?_⟩
 ·rw [e1, ← adJ htt h0]
  refine aaL _ ?_
  rw [ht]
  exact aaC (aaB h1.1 (aaK (aaL _ h2.2))) (aaB h2.1 (aaK (aaL _ h1.2)))
 ·rw [e2]
  exact aaG (aaU (aaL _ h1.2) (aaL _ h2.2)) zb
theorem avT {k : Nat} {p q : Rat} (h1 : BdQ k p) (h2 : BdQ k q) : BdQ (k + 2) (p * q) := by
 obtain ⟨g, h', s, t, hg, hh, g0, h0, hs, ht, e1, e2⟩ := aCl p q
 refine ⟨?_, ?_⟩
 ·rw [e1]
  refine aaG (aaB (k := k) ?_ ?_) zb
  ·rw [← adJ hs g0]; exact aaL _ h1.1
  ·rw [← adJ ht h0]; exact aaL _ h2.1
 ·rw [e2]
  exact aaG (aaU (aaL _ h1.2) (aaL _ h2.2)) zb
theorem aFd {k : Nat} {p : Rat} (h : BdQ k p) (h0 : p ≠ 0) : BdQ k p⁻¹ := by
 obtain ⟨e1, e2, e3⟩ := aCq h0
 exact ⟨by rw [e1]; exact h.2, by rw [e3]; exact h.1⟩
theorem aLh (a b : FxT) (y) (h : aiJ (a, b, ()) = some y) : (aES a b).toO = some y := by
 unfold aiJ aPs at h
 dsimp only at h
 unfold aES
 refine uV (uV ?_)
 cases ha : rdF a with
 | none =>
  simp only [ha] at h
  cases hb : rdF b with
  | none => exact uC _ (aaW ha) (uC _ (aaW hb) (uT rfl (uV (uV h))))
  | some q => exact uC _ (aaW ha) (uC _ (aaV hb) (uT rfl (uV (uV h))))
 | some p =>
  cases hb : rdF b with
  | none =>
   simp only [ha, hb] at h
   exact uC _ (aaV ha) (uC _ (aaW hb) (uF rfl (uT rfl (uV (uV h)))))
  | some q =>
   simp only [ha, hb] at h
   have b1 := afG ha
   have b2 := afG hb
   refine uC _ (aaV ha) (uC _ (aaV hb) (uF rfl (uF rfl ?_)))
   refine uC _ (aGD (acR b1 zb) (acR b2 zb)) (uV (uV ?_))
   exact uC _ (alV (acR (aFe b1 b2) zb)) h
theorem aLd (a b : FxT) (y) (h : af1 (a, b, ()) = some y) : (aEO a b).toO = some y := by
 unfold af1 aPs at h
 dsimp only at h
 unfold aEO
 refine uV (uV ?_)
 cases ha : rdF a with
 | none =>
  simp only [ha] at h
  cases hb : rdF b with
  | none => exact uC _ (aaW ha) (uC _ (aaW hb) (uT rfl (uV (uV h))))
  | some q => exact uC _ (aaW ha) (uC _ (aaV hb) (uT rfl (uV (uV h))))
 | some p =>
  cases hb : rdF b with
  | none =>
   simp only [ha, hb] at h
   exact uC _ (aaV ha) (uC _ (aaW hb) (uF rfl (uT rfl (uV (uV h)))))
  | some q =>
   simp only [ha, hb] at h
   have b1 := afG ha
   have b2 := afG hb
   refine uC _ (aaV ha) (uC _ (aaV hb) (uF rfl (uF rfl ?_)))
   refine uC _ (aGC (acR b1 zb) (acR b2 zb)) (uV (uV ?_))
   exact uC _ (alV (acR (avT b1 b2) zb)) h
theorem aLe (a b : FxT) (y) (h : aiI (a, b, ()) = some y) : (aEP a b).toO = some y := by
 unfold aiI at h
 dsimp only at h
 unfold aEP
 cases ha : rdF a with
 | none =>
  simp only [ha] at h
  cases hb : rdF b with
  | none => exact uC _ (aaW ha) (uC _ (aaW hb) (uT rfl h))
  | some q => exact uC _ (aaW ha) (uC _ (aaV hb) (uT rfl h))
 | some p =>
  cases hb : rdF b with
  | none =>
   simp only [ha, hb] at h
   exact uC _ (aaV ha) (uC _ (aaW hb) (uF rfl (uT rfl h)))
  | some q =>
   simp only [ha, hb] at h
   have b1 := afG ha
   have b2 := afG hb
   refine uC _ (aaV ha) (uC _ (aaV hb) (uF rfl (uF rfl ?_)))
   refine uC _ (aoX _) ?_
   by_cases h0 : q = 0
   ·rw [if_pos h0] at h
    exact uT (zl (by rw [h0]; rfl)) h
   ·rw [if_neg h0] at h
    have := aF1 h0
    refine uF sd ?_
    refine uC _ (aDq (acR b2 zb) h0) ?_
    refine uC _ (aGC (acR b1 zb) (acR (aFd b2 h0) zb)) ?_
    exact uC _ (alV (acR (avT b1 (aFd b2 h0)) zb)) h
theorem aLf (a b : FxT) (y) (h : ae4 (a, b, ()) = some y) : (aEQ a b).toO = some y := by
 unfold ae4 at h
 dsimp only at h
 unfold aEQ
 refine uV (uV ?_)
 cases ha : rdF a with
 | none =>
  simp only [ha] at h
  cases hb : rdF b with
  | none => exact uC _ (aaW ha) (uC _ (aaW hb) (uT rfl h))
  | some q => exact uC _ (aaW ha) (uC _ (aaV hb) (uT rfl h))
 | some p =>
  cases hb : rdF b with
  | none =>
   simp only [ha, hb] at h
   exact uC _ (aaV ha) (uC _ (aaW hb) (uF rfl (uT rfl h)))
  | some q =>
   simp only [ha, hb] at h
   have b1 := afG ha
   have b2 := afG hb
   exact uC _ (aaV ha) (uC _ (aaV hb) (uF rfl (uF rfl (uC _ (aIC (acR b1 zb) (acR b2 zb)) h))))
theorem aER (a : FxT) (y) (h : adS (a, ()) = some y) : (au1 a).toO = some y := by
 unfold adS at h
 dsimp only at h
 unfold au1
 cases ha : rdF a with
 | none =>
  simp only [ha] at h
  exact uC _ (aaW ha) (uT rfl h)
 | some q =>
  simp only [ha] at h
  exact uC _ (aaV ha) (uF rfl h)
theorem aH7 (a : FxT) (y) (h : agY (a, ()) = some y) : (aAw a).toO = some y := by
 unfold agY at h
 dsimp only at h
 unfold aAw
 cases ha : rdF a with
 | none =>
  simp only [ha] at h
  exact uC _ (aaW ha) (uT rfl h)
 | some q =>
  simp only [ha] at h
  exact uC _ (aaV ha) (uF rfl (uC _ (awC (aaG (afG ha).1 zb)) h))
theorem aSB {n : Nat} (h : (mag n).length ≤ 1000000) : Bd 0 n := h
theorem aSe {a : Int} {d : Nat} {k : Nat} (h : (mag a.natAbs).length ≤ k) (hk : 1 ≤ k) : (mag (a / (d : Int)).natAbs).length ≤ k + 1 := by
 rcases zC d with h0 | h0
 ·subst h0
  simp only [Int.natCast_zero, Int.ediv_zero, wg, mag_zero]
  simp
 ·have hle : (a / (d : Int)).natAbs ≤ a.natAbs + 1 := by
   rcases zP a 0 with h1 | h1
   ·rw [ayF h1 zb, wV, yc]
    have := xp a.natAbs d
    split <;> omega
   ·obtain ⟨n, rfl⟩ := zE h1
    have : ((n : Int) / (d : Int)) = ((n / d : Nat) : Int) := zh
    rw [this, yc]
    have := xp n d
    omega
  have h2 := ab3 hle
  have h3 := aiF a.natAbs 1
  have h4 : (mag 1).length = 1 := by rw [aAd]; rfl
  omega
theorem aH8 (n d : List UInt8) (y) (h : aoU (n, d, ()) = some y) : (aAx n d).toO = some y := by
 unfold aoU at h
 dsimp only at h
 unfold aAx
 cases hn : rdW n with
 | none =>
  simp only [hn] at h
  exact uC _ (aeY n) (uT (by rw [hn]; rfl) h)
 | some a =>
  cases hd : rdW d with
  | none =>
   simp only [hn, hd] at h
   exact uC _ (aeY n) (uF (by rw [hn]; rfl) (uC _ (aeY d) (uT (by rw [hd]; rfl) h)))
  | some b =>
   simp only [hn, hd] at h
   have b1 := axF hn
   have b2 := axF hd
   refine uC _ (aeY n) (uF (by rw [hn]; rfl) (uC _ (aeY d) (uF (by rw [hd]; rfl) ?_)))
   refine uC (sg a, ()) (by rw [(agR hn).2]; exact alX (aaG b1 zb)) ?_
   refine uC (sg b, ()) (by rw [(agR hd).2]; exact alX (aaG b2 zb)) ?_
   refine uC _ (aoX _) ?_
   unfold ofQ at h
   by_cases h0 : b = 0
   ·rw [if_pos h0] at h
    exact uT sd h
   ·rw [if_neg h0] at h
    refine uF sd ?_
    obtain ⟨s, hs, hv⟩ : ∃ s : Int, s.natAbs = a.natAbs ∧ (s = 0 ∨ (!(decide (a < 0) == decide (b < 0))) = decide (s < 0)) ∧ Rat.divInt a b = mkRat s b.natAbs := by
     rcases zP b 0 with c | c
     ·refine ⟨-a, by omega, ?_, ?_⟩
      ·by_cases ha : a = 0
       ·left; omega
       ·right
        rw [zl c]
        rcases zP a 0 with c2 | c2
        ·rw [zl c2, zk zb]; rfl
        ·rw [zk zb, zl zb]; rfl
      ·rw [← Rat.neg_divInt_neg, ← xw]
       congr 1; omega
     ·refine ⟨a, rfl, ?_, ?_⟩
      ·right
       rw [zk (show ¬ b < 0 by omega)]
       cases decide (a < 0) <;> rfl
      ·rw [← xw]
       congr 1; omega
    obtain ⟨hv1, hv2⟩ := hv
    rw [hv2] at h
    refine uC (sg s, ()) (ab8 hs.symm hv1) ?_
    refine uC _ (aFl (by rw [hs]; exact aaG b1 zb) (aaG b2 zb) zb) ?_
    refine uC _ (alV ?_) h
    obtain ⟨g, t, hg, g0, e0, e1, e2⟩ := ae1 s (d := b.natAbs) zb
    refine ⟨?_, ?_⟩
    ·rw [e1, ← adJ e0 g0, hs]; exact aaG (aaL _ b1) zb
    ·rw [e2]; exact aaG (aaL _ b2) zb
theorem agG {z : Int} (h : aeI z) : Fit z := by
 unfold aeI at h
 have : (aa3 z.natAbs).length ≤ 20 := (aaZ zb).2 zb
 unfold Fit; omega
theorem aOm (n d : Int) (y) (h : aoT (n, d, ()) = some y) : (aPA n d).toO = some y := by
 unfold aoT at h
 split at h
 ·rename_i hp
  refine uC _ (aPK hp.1) (uC _ (aPK hp.2) ?_)
  refine uC (ofQ n d) ?_ h
  unfold aoU
  simp only [apB (agG hp.1), apB (agG hp.2)]
 ·cases h
theorem ax4 {z : Int} (h : Fit z) : (mag z.natAbs).length ≤ 67 := by
 have hl : (aa3 z.natAbs).length ≤ 600 := h
 obtain ⟨L, hL⟩ : ∃ L : Nat, L = 67 := ⟨_, rfl⟩
 rw [← hL, mag_length_le_iff]
 have h1 := ahH z.natAbs
 have h3 : (10 : Nat) ^ (9 * L) = 1000000000 ^ L := by rw [Nat.pow_mul]
 have h2 : (10 : Nat) ^ (aa3 z.natAbs).length ≤ 10 ^ (9 * L) := zO zb zb
 omega
theorem auT {a b : Int} (h : Fit b) (hab : a.natAbs ≤ b.natAbs) : Fit a := by
 unfold Fit at *
 rw [aaZ zb] at *
 omega
theorem al1 (n : Nat) : ∀ k : Nat, (mag (n ^ k)).length ≤ k * (mag n).length + 1
 | 0 => by simp [aAd]
 | k + 1 => by
  have h1 := al1 n k
  have h2 := af5 (n ^ k) n
  rw [yw, ym]
  rcases zC (mag n).length with h3 | h3
  ·have : n = 0 := mag_nil_iff.1 (zU.1 h3)
   subst this
   simp [mag_zero]
  ·omega
theorem aSz {a n : Nat} (h1 : Bd 2 a) (h2 : n ≤ 40) : Bd 7 (a ^ n) := by
 have h3 := al1 a n
 unfold Bd at *
 have h4 : n * (mag a).length ≤ 40 * (1000000 * 4 ^ 2) := Nat.mul_le_mul h2 h1
 omega
end Go.Vs
