/-
  Trees of what the functions compute, and their laws. Own work; no condition.
-/
import Derived.Test.YtlmjbmgabddkiaaGreatDoorClX1
import Derived.Test.YtlmjbmgabddkiaaGreatDoorProg
set_option linter.unusedVariables false
set_option linter.unusedSimpArgs false
set_option maxRecDepth 100000
namespace Go.Vs
open Go Go.Vg Go.Proofs
noncomputable section
def aBE (n : Int) : TT (vF × Unit) :=
 .call (aw4 (n, 1, ())) aKB fun y =>
 .ok (((y.1.1, y.1.2.1, ()), ()))
end
set_option maxRecDepth 100000
open Go Go.Vg Go.Proofs
noncomputable section
def aIF : LTab := [(178, 7, 9217, ⟨0, (Bool) × Unit, .dat (.s 3) (Ty.bool) <| .nil, [5, 4, 2], [0], 0⟩), (178, 122, 12289, ⟨1, (Int) × Unit, .dat (.s 23) vG <| .nil, [22, 5, 4, 2], [0], 0⟩)]
def axF (a : List UInt8) (y : List UInt8 × Bool × Unit) (j : Bool × Unit) (i : (Int) × Unit) : TT (ua ⊕ (vM × Bool × Unit)) :=
 .ite (decide (i.1 < len y.1))
 (.need (inb i.1 (len y.1)) <| .ite (decide ((↑(UInt8.toNat (gi y.1 i.1 0)) : Int) < 48))
 (.ok (.inr ((([], false, ()), false, ()))))
 (.need (inb i.1 (len y.1)) <| .ite (decide ((↑(UInt8.toNat (gi y.1 i.1 0)) : Int) > 57))
 (.ok (.inr ((([], false, ()), false, ()))))
 (.tt <| .lt (w64 (i.1 + 1) : Int) fun z => .wZ (ve z (len y.1) y.2.1 y.1 <| vO ∧ True) <| .wZ ul <| .ok (.inl ((z, ()))))))
 (.need (asT Int 0 ≤ 0 ∧ 0 < len y.1) <| .ite ((↑(UInt8.toNat (gi y.1 0 0)) : Int) == 48)
 (.ite (y.2.1)
 (.ok (.inr ((([], false, ()), false, ()))))
 (.ite (decide (len y.1 > 1))
 (.ok (.inr ((([], false, ()), false, ()))))
 (.call (ag2 (y.1, ())) Dd0 fun y1 =>
 .ok (.inr (((y1.1, y.2.1, ()), true, ()))))))
 (.call (ag2 (y.1, ())) Dd0 fun y2 =>
 .ok (.inr (((y2.1, y.2.1, ()), true, ())))))
def aEZ (a : List UInt8) (y : List UInt8 × Bool × Unit) (j : (Bool) × Unit) : TT (vM × Bool × Unit) :=
 .loop 1 (.tt <| .wZ (ve (0 : Int) (len y.1) y.2.1 y.1 <| vO ∧ True) <| .wZ ul <| .ok ((0, ()))) (axF a y j)
def au6 (a : List UInt8) : TT (vM × Bool × Unit) :=
 .call (abN (a, #[45].toList, ())) Dd7 fun y =>
 .join 0 (ι := (Bool) × Unit) (.ite (len y.1 == 0)
 (.ok (.inr ((([], false, ()), false, ()))))
 (.ite (decide (len y.1 > 600))
 (.ok (.inr ((([], false, ()), false, ()))))
 (.tt <| .wZ (vl false y.2.1 y.1 <| vO ∧ True) <| .wZ ul <| .ok (.inl ((false, ())))))) (aEZ a y)
def aE1 : LTab := []
def ao5 (a : List UInt8) : TT vS :=
 .call (ahW (a, ())) Dd9 fun y =>
 .ite (!y.2.1)
 (.ok ((10, ())))
 (.ok ((0, ())))
def aE0 (a : List UInt8) (b : List UInt8) : TT uh :=
 .tt <| .tt <| .call (ao0 (a, b, ())) aPu fun y =>
 .ite (y.2.2.1 != 0)
 (.ok ((#[].toList, y.2.2.1, ())))
 (.triv (asT Int 0 ≤ 2 ∧ 2 < (↑4 : Int)) ze <| .call (aoC ((y.1.1, y.1.2.1, ()), (y.2.1.1, y.2.1.2.1, ()), ())) Dd5 fun y1 =>
 .call (aAb (y1.1, ())) aMV fun y2 =>
 .ok ((y2.1, y2.2.1, ())))
def aKa : LTab := []
def av9 (a : List UInt8 × List UInt8 × Unit) : TT ((vM × List Int × Unit) × Bool × Unit) :=
 .call (ag3 (a.1, ())) Dd6 fun y =>
 .ite (y.1 != 0)
 (.ok (((([], false, ()), [], ()), false, ())))
 (.call (ag3 (a.2.1, ())) Dd6 fun y1 =>
 .ite (y1.1 != 0)
 (.ok (((([], false, ()), [], ()), false, ())))
 (.call (ahA (a.1, ())) Dd5 fun y2 =>
 .call (ahA (a.2.1, ())) Dd5 fun y3 =>
 .call (ag9 ((y3.1.1, y3.1.2.1, ()), ())) Dd6 fun y4 =>
 .ite (decide (y4.1 < 1))
 (.ok (((([], false, ()), [], ()), false, ())))
 (.call (ao2 (y2.1.1, y3.1.1, ())) Dd0 fun y5 =>
 .call (ac5 (y5.1, [1], ())) Dd6 fun y6 =>
 .ite (y6.1 != 0)
 (.ok (((([], false, ()), [], ()), false, ())))
 (.ok ((((y2.1.1, y2.1.2.1, ()), y3.1.1, ()), true, ()))))))
def aHk : LTab := []
def aq8 (a : List UInt8 × List UInt8 × Unit) : TT vS :=
 .call (acU ((a.1, a.2.1, ()), ())) aMK fun y =>
 .ite (!y.2.1)
 (.ok ((20, ())))
 (.ok ((0, ())))
def aKc : LTab := []
def awC (a : List UInt8 × List UInt8 × Unit) : TT vP :=
 .call (acU ((a.1, a.2.1, ()), ())) aMK fun y =>
 .ite (!y.2.1)
 (.ok ((0, 20, ())))
 (.call (ag9 ((y.1.1.1, y.1.1.2.1, ()), ())) Dd6 fun y1 =>
 .ok ((y1.1, 0, ())))
def aMi : LTab := []
def aBj (a : List UInt8 × List UInt8 × Unit) (b : List UInt8 × List UInt8 × Unit) : TT vP :=
 .tt <| .tt <| .call (acU ((a.1, a.2.1, ()), ())) aMK fun y =>
 .call (acU ((b.1, b.2.1, ()), ())) aMK fun y1 =>
 .ite (!y.2.1)
 (.ok ((0, 20, ())))
 (.ite (!y1.2.1)
 (.ok ((0, 20, ())))
 (.call (ajI (((y.1.1.1, y.1.1.2.1, ()), y.1.2.1, ()), ((y1.1.1.1, y1.1.1.2.1, ()), y1.1.2.1, ()), ())) Dd6 fun y2 =>
 .ok ((y2.1, 0, ()))))
def aHl (a : List UInt8 × List UInt8 × Unit) (b : List UInt8 × List UInt8 × Unit) : TT uo :=
 .tt <| .tt <| .call (acU ((a.1, a.2.1, ()), ())) aMK fun y =>
 .call (acU ((b.1, b.2.1, ()), ())) aMK fun y1 =>
 .ite (!y.2.1)
 (.tt <| .tt <| .ok (((#[].toList, #[].toList, ()), 20, ())))
 (.ite (!y1.2.1)
 (.tt <| .tt <| .ok (((#[].toList, #[].toList, ()), 20, ())))
 (.call (aw1 (((y.1.1.1, y.1.1.2.1, ()), y.1.2.1, ()), ((y1.1.1.1, y1.1.1.2.1, ()), y1.1.2.1, ()), ())) Dd8 fun y2 =>
 .tt <| .tt <| .call (auW (((y2.1.1.1, y2.1.1.2.1, ()), y2.1.2.1, ()), ())) aMU fun y3 =>
 .ok (((y3.1.1, y3.1.2.1, ()), y3.2.1, ()))))
end
set_option maxRecDepth 100000
open Go Go.Vg Go.Proofs
noncomputable section
def aEc : LTab := []
def auF (m : List Int) (negative : Bool) : TT ut :=
 .ite (negative)
 (.call (adQ (m, ())) Dd1 fun y =>
 .ok (((m, !y.1, ()), ())))
 (.ok (((m, false, ()), ())))
def av8 : LTab := []
def alP (n : List Int × Bool × Unit) : TT ut :=
 .call (abW (n.1, !n.2.1, ())) Dd5 fun y =>
 .ok (((y.1.1, y.1.2.1, ()), ()))
def aHh : LTab := []
def aq4 (n : List Int × Bool × Unit) : TT vS :=
 .call (adQ (n.1, ())) Dd1 fun y =>
 .ite (y.1)
 (.ok ((0, ())))
 (.ite (n.2.1)
 (.ok ((-1, ())))
 (.ok ((1, ()))))
def azG (n : List Int × Bool × Unit) : TT vY :=
 .ite (n.2.1)
 (.call (af3 (n.1, ())) Dd2 fun y =>
 .need (List.length #[45].toList + List.length y.1 ≤ lim) <| .ok ((#[45].toList ++ y.1, ())))
 (.call (af3 (n.1, ())) Dd2 fun y1 =>
 .ok ((y1.1, ())))
def aJ9 : LTab := []
def av6 (n : List Int × Bool × Unit) (o : List Int × Bool × Unit) : TT ut :=
 .ite (n.2.1 == o.2.1)
 (.call (aiQ (n.1, o.1, ())) Dd0 fun y =>
 .call (abW (y.1, n.2.1, ())) Dd5 fun y1 =>
 .ok (((y1.1.1, y1.1.2.1, ()), ())))
 (.call (ac5 (n.1, o.1, ())) Dd6 fun y2 =>
 .ite (decide (y2.1 < 0))
 (.call (ag8 (o.1, n.1, ())) Dd0 fun y3 =>
 .call (abW (y3.1, o.2.1, ())) Dd5 fun y4 =>
 .ok (((y4.1.1, y4.1.2.1, ()), ())))
 (.call (ag8 (n.1, o.1, ())) Dd0 fun y5 =>
 .call (abW (y5.1, n.2.1, ())) Dd5 fun y6 =>
 .ok (((y6.1.1, y6.1.2.1, ()), ()))))
def aBi : LTab := []
def akH (n : List Int × Bool × Unit) (m : List Int) : TT ut :=
 .call (adC (n.1, m, ())) Dd0 fun y =>
 .call (abW (y.1, n.2.1, ())) Dd5 fun y1 =>
 .ok (((y1.1.1, y1.1.2.1, ()), ()))
def aEb : LTab := []
def am2 (n : List Int × Bool × Unit) (d : List Int) : TT ut :=
 .call (af2 (n.1, d, ())) Dd4 fun y =>
 .ite (n.2.1)
 (.call (adQ (y.2.1, ())) Dd1 fun y1 =>
 .ite (!y1.1)
 (.call (aiQ (y.1, [1], ())) Dd0 fun y2 =>
 .call (abW (y2.1, n.2.1, ())) Dd5 fun y3 =>
 .ok (((y3.1.1, y3.1.2.1, ()), ())))
 (.call (abW (y.1, n.2.1, ())) Dd5 fun y4 =>
 .ok (((y4.1.1, y4.1.2.1, ()), ()))))
 (.call (abW (y.1, n.2.1, ())) Dd5 fun y5 =>
 .ok (((y5.1.1, y5.1.2.1, ()), ())))
def aEe : LTab := []
def auG (a : List UInt8) : TT ut :=
 .call (abN (a, #[45].toList, ())) Dd7 fun y =>
 .call (aeM (y.1, ())) Dd0 fun y1 =>
 .ok (((y1.1, y.2.1, ()), ()))
def aBv : LTab := []
def akM (s : List UInt8) (prefix0 : List UInt8) : TT (List UInt8 × Bool × Unit) :=
 .tt <| .tt <| .tt <| .tt <| .ite (decide (len s ≥ len prefix0))
 (.need (inc (len prefix0) (len s)) <| .ite (!List.take (Int.toNat (len prefix0)) s == prefix0)
 (.ok ((s, false, ())))
 (.need (inc (len prefix0) (len s)) <| .ok ((List.take (List.length s - Int.toNat (len prefix0)) (List.drop (Int.toNat (len prefix0)) s), true, ()))))
 (.ok ((s, false, ())))
def aJ3 (x : vM × List Int × Unit) (y : vM × List Int × Unit) : TT ((vM × List Int × Unit) × Unit) :=
 .call (aoD (((y.1.1, y.1.2.1, ()), y.2.1, ()), ())) Dd8 fun y1 =>
 .call (aw1 (((x.1.1, x.1.2.1, ()), x.2.1, ()), y1.1, ())) Dd8 fun y2 =>
 .ok ((((y2.1.1.1, y2.1.1.2.1, ()), y2.1.2.1, ()), ()))
def aD4 : LTab := []
def amW (x : vM × List Int × Unit) (y : vM × List Int × Unit) : TT vS :=
 .call (aeL ((x.1.1, x.1.2.1, ()), y.2.1, ())) Dd5 fun y1 =>
 .call (aeL ((y.1.1, y.1.2.1, ()), x.2.1, ())) Dd5 fun y2 =>
 .call (afB (y2.1, ())) Dd5 fun y3 =>
 .call (al2 (y1.1, y3.1, ())) Dd5 fun y4 =>
 .call (ag9 (y4.1, ())) Dd6 fun y5 =>
 .ok ((y5.1, ()))
def aG2 : LTab := []
def aqP (x : vM × List Int × Unit) (scale : List Int) : TT ut :=
 .call (adC (scale, [2], ())) Dd0 fun y =>
 .call (aeL ((x.1.1, x.1.2.1, ()), y.1, ())) Dd5 fun y1 =>
 .call (abW (x.2.1, false, ())) Dd5 fun y2 =>
 .call (al2 (y1.1, y2.1, ())) Dd5 fun y3 =>
 .call (adC (x.2.1, [2], ())) Dd0 fun y4 =>
 .call (ajK ((y3.1.1, y3.1.2.1, ()), y4.1, ())) Dd5 fun y5 =>
 .ok (((y5.1.1, y5.1.2.1, ()), ()))
end
set_option maxRecDepth 100000
open Go Go.Vg Go.Proofs
noncomputable section
def aG7 : LTab := []
def aqQ (m : List Int) : TT ud :=
 .ok ((len m == 0, ()))
def aG8 : LTab := [(132, 12, 1025, ⟨0, (List Int) × Unit, .dat (.s 0) ub <| .nil, [2], [], 0⟩)]
def at9 (m : List Int) (i : (List Int) × Unit) : TT (((List Int) × Unit) ⊕ vK) :=
 .ite (decide (len i.1 > 0))
 (.need (inb (w64 (len i.1 - 1)) (len i.1)) <| .ite (gi i.1 (w64 (len i.1 - 1)) 0 == 0)
 (.need (inc (w64 (len i.1 - 1)) (len i.1)) <| .tt <| .lt (List.take (Int.toNat (w64 (len i.1 - 1))) i.1 : List Int) fun z => .wZ (vj z <| True ∧ True) <| .tr <| .ok (.inl ((z, ()))))
 (.ok (.inr ((i.1, ())))))
 (.ok (.inr ((i.1, ()))))
def aqR (m : List Int) : TT vK :=
 .loop 0 (.tt <| .wZ (vj m <| True ∧ True) <| .tr <| .ok ((m, ()))) (at9 m)
def aD6 : LTab := [(180, 58, 6144, ⟨0, (Int) × (Int) × Unit, .dat (.s 4) vG <| .dat (.s 3) vU <| .nil, [2, 0], [], 0⟩)]
def aqU (m : List Int) (i : (Int) × (Int) × Unit) : TT (vQ ⊕ vS) :=
 .ite (decide (i.1 ≥ 0))
 (.need (inb i.1 (len m)) <| .tt <| .lt (w64 (i.1 - 1) : Int) fun z1 => .lt (abI (abI (i.2.1 * 1000000000) + abI (gi m i.1 0)) : Int) fun z2 => .wZ (vo z2 z1 (0 : Int) m) <| .tr <| .ok (.inl ((z1, z2, ()))))
 (.ok (.inr ((i.2.1, ()))))
def auA (m : List Int) : TT vS :=
 .loop 0 (.tt <| .lt (w64 (len m - 1) : Int) fun z => .wZ (vo (0 : Int) z (0 : Int) m) <| .tr <| .ok ((z, 0, ()))) (aqU m)
def azE : LTab := [(126, 58, 10240, ⟨0, (Int) × Unit, .dat (.s 5) vG <| .nil, [0, 1], [], 0⟩)]
def alO (m : List Int) (o : List Int) (i : (Int) × Unit) : TT (ua ⊕ vS) :=
 .ite (decide (i.1 ≥ 0))
 (.need (inb i.1 (len m)) <| .need (inb i.1 (len o)) <| .ite (gi m i.1 0 != gi o i.1 0)
 (.need (inb i.1 (len m)) <| .need (inb i.1 (len o)) <| .tt <| .tt <| .tt <| .tt <| .tt <| .tt <| .ite (gi m i.1 0 != gi m i.1 0)
 (.ite (gi o i.1 0 != gi o i.1 0)
 (.ok (.inr ((0, ()))))
 (.ok (.inr ((-1, ())))))
 (.ite (gi o i.1 0 != gi o i.1 0)
 (.ok (.inr ((1, ()))))
 (.ite (decide (gi m i.1 0 < gi o i.1 0))
 (.ok (.inr ((-1, ()))))
 (.ite (decide (gi m i.1 0 > gi o i.1 0))
 (.ok (.inr ((1, ()))))
 (.ok (.inr ((0, ()))))))))
 (.tt <| .lt (w64 (i.1 - 1) : Int) fun z1 => .wZ (vq z1 m o) <| .tr <| .ok (.inl ((z1, ())))))
 (.ok (.inr ((0, ()))))
def aiG (m : List Int) (o : List Int) : TT vS :=
 .ite (len m != len o)
 (.tt <| .tt <| .tt <| .tt <| .tt <| .tt <| .ite (len m != len m)
 (.ite (len o != len o)
 (.ok ((0, ())))
 (.ok ((-1, ()))))
 (.ite (len o != len o)
 (.ok ((1, ())))
 (.ite (decide (len m < len o))
 (.ok ((-1, ())))
 (.ite (decide (len m > len o))
 (.ok ((1, ())))
 (.ok ((0, ())))))))
 (.loop 0 (.tt <| .lt (w64 (len m - 1) : Int) fun z => .wZ (vq z m o) <| .tr <| .ok ((z, ()))) (alO m o))
def aG9 : LTab := [(184, 3, 1025, ⟨0, (List Int) × (List Int) × Unit, .dat (.s 0) ub <| .dat (.s 1) ub <| .nil, [4], [], 0⟩), (184, 250, 10241, ⟨1, (Int) × (Int) × (List Int) × Unit, .dat (.s 22) vG <| .dat (.s 6) vI <| .app (.s 5) 10 180 vI <| .nil, [21, 20, 1, 4], [], 1⟩)]
def auB (m : List Int) (o : List Int) (j : List Int × List Int × Unit) (i : (Int) × (Int) × (List Int) × Unit) : TT (vR ⊕ vK) :=
 .ite (decide (i.1 < len j.1))
 (.need (inb i.1 (len j.1)) <| .ite (decide (i.1 < len j.2.1))
 (.need (inb i.1 (len j.2.1)) <| .ite (decide (adH (adH (gi j.1 i.1 0 + i.2.1) + gi j.2.1 i.1 0) ≥ 1000000000))
 (.need ((List.length i.2.2.1 + 1) * 4 ≤ 140737488355328) <| .tt <| .lt (w64 (i.1 + 1) : Int) fun z1 => .lt (List.take (List.length i.2.2.1) i.2.2.1 ++ [adH (adH (adH (gi j.1 i.1 0 + i.2.1) + gi j.2.1 i.1 0) - 1000000000)] : List Int) fun z2 => .need ((((10) = (10)) ∧ (((0) = (0)) ∧ ((List.length i.2.2.1 + 1 = List.length z2) ∧ ((true) = (true))))) ∧ ((1 : Int) = 1) ∧ ((z1 : Int) = z1) ∧ ((len j.1 : Int) = len j.1) ∧ ((j.1 : List Int) = j.1) ∧ ((j.2.1 : List Int) = j.2.1) ∧ True ∧ True) <| .wZ (wY (vt 180 z2) True) <| .ok (.inl ((z1, 1, z2, ()))))
 (.need ((List.length i.2.2.1 + 1) * 4 ≤ 140737488355328) <| .tt <| .lt (w64 (i.1 + 1) : Int) fun z3 => .lt (List.take (List.length i.2.2.1) i.2.2.1 ++ [adH (adH (gi j.1 i.1 0 + i.2.1) + gi j.2.1 i.1 0)] : List Int) fun z4 => .need ((((10) = (10)) ∧ (((0) = (0)) ∧ ((List.length i.2.2.1 + 1 = List.length z4) ∧ ((true) = (true))))) ∧ ((0 : Int) = 0) ∧ ((z3 : Int) = z3) ∧ ((len j.1 : Int) = len j.1) ∧ ((j.1 : List Int) = j.1) ∧ ((j.2.1 : List Int) = j.2.1) ∧ True ∧ True) <| .wZ (wY (vt 180 z4) True) <| .ok (.inl ((z3, 0, z4, ())))))
 (.ite (decide (adH (gi j.1 i.1 0 + i.2.1) ≥ 1000000000))
 (.need ((List.length i.2.2.1 + 1) * 4 ≤ 140737488355328) <| .tt <| .lt (w64 (i.1 + 1) : Int) fun z5 => .lt (List.take (List.length i.2.2.1) i.2.2.1 ++ [adH (adH (gi j.1 i.1 0 + i.2.1) - 1000000000)] : List Int) fun z6 => .need ((((10) = (10)) ∧ (((0) = (0)) ∧ ((List.length i.2.2.1 + 1 = List.length z6) ∧ ((true) = (true))))) ∧ ((1 : Int) = 1) ∧ ((z5 : Int) = z5) ∧ ((len j.1 : Int) = len j.1) ∧ ((j.1 : List Int) = j.1) ∧ ((j.2.1 : List Int) = j.2.1) ∧ True ∧ True) <| .wZ (wY (vt 180 z6) True) <| .ok (.inl ((z5, 1, z6, ()))))
 (.need ((List.length i.2.2.1 + 1) * 4 ≤ 140737488355328) <| .tt <| .lt (w64 (i.1 + 1) : Int) fun z7 => .lt (List.take (List.length i.2.2.1) i.2.2.1 ++ [adH (gi j.1 i.1 0 + i.2.1)] : List Int) fun z8 => .need ((((10) = (10)) ∧ (((0) = (0)) ∧ ((List.length i.2.2.1 + 1 = List.length z8) ∧ ((true) = (true))))) ∧ ((0 : Int) = 0) ∧ ((z7 : Int) = z7) ∧ ((len j.1 : Int) = len j.1) ∧ ((j.1 : List Int) = j.1) ∧ ((j.2.1 : List Int) = j.2.1) ∧ True ∧ True) <| .wZ (wY (vt 180 z8) True) <| .ok (.inl ((z7, 0, z8, ()))))))
 (.ite (decide (i.2.1 > 0))
 (.need ((List.length i.2.2.1 + 1) * 4 ≤ 140737488355328) <| .ok (.inr ((List.take (List.length i.2.2.1 + 1) (List.take (List.length i.2.2.1) i.2.2.1 ++ [i.2.1]), ()))))
 (.ok (.inr ((List.take (List.length i.2.2.1) i.2.2.1, ())))))
def amZ (m : List Int) (o : List Int) (j : (List Int) × (List Int) × Unit) : TT vK :=
 .need (asT Int 0 ≤ 0 ∧ 0 ≤ w64 (len j.1 + 1) ∧ w64 (len j.1 + 1) * (↑4 : Int) ≤ 140737488355328) <| .loop 1 (.tt <| .lt (List.replicate (Int.toNat 0) 0 : List Int) fun z => .wZ ((vu 10 0 0 true) ∧ (vw (0 : Int) (0 : Int) (len j.1) j.1 j.2.1 <| True ∧ True)) <| .wZ (wY (vt 180 z) True) <| .ok ((0, 0, z, ()))) (auB m o j)
def aqV (m : List Int) (o : List Int) : TT vK :=
 .join 0 (ι := (List Int) × (List Int) × Unit) (.ite (decide (len m < len o))
 (.tt <| .wZ (vz m o <| True ∧ True) <| .tr <| .ok (.inl ((o, m, ()))))
 (.tt <| .wZ (vz o m <| True ∧ True) <| .tr <| .ok (.inl ((m, o, ()))))) (amZ m o)
def aD8 : LTab := [(185, 122, 9217, ⟨0, (Int) × (Int) × (List Int) × Unit, .dat (.s 15) vG <| .dat (.s 6) vI <| .row 3 vI <| .nil, [14, 13, 5, 4, 1], [3], 0⟩)]
def aqW (m : List Int) (o : List Int) (i : (Int) × (Int) × (List Int) × Unit) : TT (vR ⊕ vK) :=
 .ite (decide (i.1 < len m))
 (.need (inb i.1 (len m)) <| .ite (decide (i.1 < len o))
 (.need (inb i.1 (len o)) <| .ite (decide (gi m i.1 0 < adH (i.2.1 + gi o i.1 0)))
 (.need (inb i.1 (↑(Int.toNat (len m)) : Int)) <| .tt <| .lt (w64 (i.1 + 1) : Int) fun z1 => .lt (List.set i.2.2.1 (0 + Int.toNat i.1) (adH (adH (gi m i.1 0 + 1000000000) - adH (i.2.1 + gi o i.1 0))) : List Int) fun z2 => .wZ (ve (1 : Int) z1 (len m) m <| (vu 3 0 (Int.toNat (len m)) true) ∧ True ∧ vk o) <| .wZ (wY (vt 180 z2) True) <| .ok (.inl ((z1, 1, z2, ()))))
 (.need (inb i.1 (↑(Int.toNat (len m)) : Int)) <| .tt <| .lt (w64 (i.1 + 1) : Int) fun z3 => .lt (List.set i.2.2.1 (0 + Int.toNat i.1) (adH (gi m i.1 0 - adH (i.2.1 + gi o i.1 0))) : List Int) fun z4 => .wZ (ve (0 : Int) z3 (len m) m <| (vu 3 0 (Int.toNat (len m)) true) ∧ True ∧ vk o) <| .wZ (wY (vt 180 z4) True) <| .ok (.inl ((z3, 0, z4, ())))))
 (.ite (decide (gi m i.1 0 < i.2.1))
 (.need (inb i.1 (↑(Int.toNat (len m)) : Int)) <| .tt <| .lt (w64 (i.1 + 1) : Int) fun z5 => .lt (List.set i.2.2.1 (0 + Int.toNat i.1) (adH (adH (gi m i.1 0 + 1000000000) - i.2.1)) : List Int) fun z6 => .wZ (ve (1 : Int) z5 (len m) m <| (vu 3 0 (Int.toNat (len m)) true) ∧ True ∧ vk o) <| .wZ (wY (vt 180 z6) True) <| .ok (.inl ((z5, 1, z6, ()))))
 (.need (inb i.1 (↑(Int.toNat (len m)) : Int)) <| .tt <| .lt (w64 (i.1 + 1) : Int) fun z7 => .lt (List.set i.2.2.1 (0 + Int.toNat i.1) (adH (gi m i.1 0 - i.2.1)) : List Int) fun z8 => .wZ (ve (0 : Int) z7 (len m) m <| (vu 3 0 (Int.toNat (len m)) true) ∧ True ∧ vk o) <| .wZ (wY (vt 180 z8) True) <| .ok (.inl ((z7, 0, z8, ()))))))
 (.call (ab9 (List.take (Int.toNat (len m)) i.2.2.1, ())) Dd0 fun y =>
 .ok (.inr ((y.1, ()))))
def am0 (m : List Int) (o : List Int) : TT vK :=
 .need (0 ≤ len m ∧ len m ≤ len m ∧ len m * (↑4 : Int) ≤ 140737488355328) <| .loop 0 (.tt <| .lt (List.replicate (Int.toNat (len m)) 0 : List Int) fun z => .wZ (ve (0 : Int) (0 : Int) (len m) m <| (vu 3 0 (Int.toNat (len m)) true) ∧ True ∧ vk o) <| .wZ (wY (vt 180 z) True) <| .ok ((0, 0, z, ()))) (aqW m o)
def aD5 : LTab := [(128, 58, 11265, ⟨0, (Int) × (List Int) × Unit, .dat (.s 19) vG <| .row 6 vI <| .nil, [18, 17, 5, 4, 1], [6], 0⟩), (128, 59802, 21505, ⟨1, (Int) × (Int) × (List Int) × Unit, .dat (.s 26) vG <| .dat (.s 8) vU <| .row 6 vI <| .nil, [25, 24, 7, 6, 23, 22, 21, 20, 19, 18, 17, 5, 4, 1], [6], 0⟩)]
def akE (m : List Int) (o : List Int) (i : Int × List Int × Unit) (i1 : (Int) × (Int) × (List Int) × Unit) : TT (vR ⊕ uf) :=
 .ite (decide (i1.1 < len o))
 (.need (inb i1.1 (len o)) <| .need (inb (w64 (i.1 + i1.1)) (↑(Int.toNat (w64 (len m + len o))) : Int)) <| .triv (asT Int 1000000000 ≠ 0) ze <| .need (inb (w64 (i.1 + i1.1)) (↑(Int.toNat (w64 (len m + len o))) : Int)) <| .triv (asT Int 1000000000 ≠ 0) ze <| .tt <| .lt (w64 (i1.1 + 1) : Int) fun z2 => .lt (abI (Int.tdiv (abI (i1.2.1 + abI (abI (List.getD i1.2.2.1 (0 + Int.toNat (w64 (i.1 + i1.1))) 0) + abI (abI (gi m i.1 0) * abI (gi o i1.1 0))))) 1000000000) : Int) fun z3 => .lt (List.set i1.2.2.1 (0 + Int.toNat (w64 (i.1 + i1.1))) (adH (Int.tmod (abI (i1.2.1 + abI (abI (List.getD i1.2.2.1 (0 + Int.toNat (w64 (i.1 + i1.1))) 0) + abI (abI (gi m i.1 0) * abI (gi o i1.1 0))))) 1000000000)) : List Int) fun z4 => .wZ (vA z3 z2 (len o) o (gi m i.1 0) i.1 (gi m i.1 0) (gi m i.1 0) <| vw i.1 (decide (i.1 < len m)) i.1 (len m) m <| (vu 6 0 (Int.toNat (w64 (len m + len o))) true) ∧ True ∧ vk o) <| .wZ (wY (vt 180 z4) True) <| .ok (.inl ((z2, z3, z4, ()))))
 (.need (inb (w64 (i.1 + len o)) (↑(Int.toNat (w64 (len m + len o))) : Int)) <| .tt <| .lt (w64 (i.1 + 1) : Int) fun z5 => .lt (List.set i1.2.2.1 (0 + Int.toNat (w64 (i.1 + len o))) (adH i1.2.1) : List Int) fun z6 => .wZ (vl z5 (len m) m <| (vu 6 0 (Int.toNat (w64 (len m + len o))) true) ∧ True ∧ vk o) <| .wZ (wY (vt 180 z6) True) <| .ok (.inr (.inl ((z5, z6, ())))))
def aqT (m : List Int) (o : List Int) (i : (Int) × (List Int) × Unit) : TT uf :=
 .ite (decide (i.1 < len m))
 (.need (inb i.1 (len m)) <| .loop 1 (.tt <| .lt (i.2.1 : List Int) fun z1 => .wZ (vA (0 : Int) (0 : Int) (len o) o (gi m i.1 0) i.1 (gi m i.1 0) (gi m i.1 0) <| vw i.1 (decide (i.1 < len m)) i.1 (len m) m <| (vu 6 0 (Int.toNat (w64 (len m + len o))) true) ∧ True ∧ vk o) <| .wZ (wY (vt 180 z1) True) <| .ok ((0, 0, z1, ()))) (akE m o i))
 (.call (ab9 (List.take (Int.toNat (w64 (len m + len o))) i.2.1, ())) Dd0 fun y =>
 .ok (.inr ((y.1, ()))))
def amX (m : List Int) (o : List Int) : TT vK :=
 .need (0 ≤ w64 (len m + len o) ∧ w64 (len m + len o) ≤ w64 (len m + len o) ∧ w64 (len m + len o) * (↑4 : Int) ≤ 140737488355328) <| .loop 0 (.tt <| .lt (List.replicate (Int.toNat (w64 (len m + len o))) 0 : List Int) fun z => .wZ (vl (0 : Int) (len m) m <| (vu 6 0 (Int.toNat (w64 (len m + len o))) true) ∧ True ∧ vk o) <| .wZ (wY (vt 180 z) True) <| .ok ((0, z, ()))) (aqT m o)
def aD7 : LTab := [(195, 122, 11265, ⟨0, (Int) × (Int) × (List Int) × Unit, .dat (.s 8) vG <| .dat (.s 7) vU <| .row 4 vI <| .nil, [6, 5, 4, 0, 1], [4], 0⟩)]
def akF (m : List Int) (d : Int) (i : (Int) × (Int) × (List Int) × Unit) : TT (vR ⊕ um) :=
 .ite (decide (i.1 ≥ 0))
 (.need (inb i.1 (len m)) <| .need (abI d ≠ 0) <| .need (inb i.1 (↑(Int.toNat (len m)) : Int)) <| .need (abI d ≠ 0) <| .tt <| .lt (w64 (i.1 - 1) : Int) fun z2 => .lt (Int.tmod (abI (abI (i.2.1 * 1000000000) + abI (gi m i.1 0))) (abI d) : Int) fun z3 => .lt (List.set i.2.2.1 (0 + Int.toNat i.1) (adH (abI (Int.tdiv (abI (abI (i.2.1 * 1000000000) + abI (gi m i.1 0))) (abI d)))) : List Int) fun z4 => .wZ (vz z3 z2 <| (vu 4 0 (Int.toNat (len m)) true) ∧ (vj (0 : Int) <| True ∧ vB m d)) <| .wZ (wY (vt 180 z4) True) <| .ok (.inl ((z2, z3, z4, ()))))
 (.call (ab9 (List.take (Int.toNat (len m)) i.2.2.1, ())) Dd0 fun y =>
 .ok (.inr ((y.1, adH i.2.1, ()))))
def amY (m : List Int) (d : Int) : TT um :=
 .need (0 ≤ len m ∧ len m ≤ len m ∧ len m * (↑4 : Int) ≤ 140737488355328) <| .loop 0 (.tt <| .lt (w64 (len m - 1) : Int) fun z => .lt (List.replicate (Int.toNat (len m)) 0 : List Int) fun z1 => .wZ (vz (0 : Int) z <| (vu 4 0 (Int.toNat (len m)) true) ∧ (vj (0 : Int) <| True ∧ vB m d)) <| .wZ (wY (vt 180 z1) True) <| .ok ((z, 0, z1, ()))) (akF m d)
def awA : LTab := [(181, 28, 2050, ⟨0, Bool × (List Int) × (Int) × Unit, .appN (.s 3) 2 180 vI <| .dat (.s 0) vU <| .nil, [2], [], 1⟩)]
def adM (v : Int) (i : Bool × (List Int) × (Int) × Unit) : TT ((Bool × (List Int) × (Int) × Unit) ⊕ vK) :=
 .ite (i.1)
 (.ite (decide (i.2.2.1 > 0))
 (.triv (asT Int 1000000000 ≠ 0) ze <| .need (1 * 4 ≤ 140737488355328) <| .triv (asT Int 1000000000 ≠ 0) ze <| .tt <| .lt ([adH (Int.tmod i.2.2.1 1000000000)] : List Int) fun z => .lt (abI (Int.tdiv i.2.2.1 1000000000) : Int) fun z1 => .wZ (vj z1 <| (vu 2 0 1 true) ∧ True ∧ True) <| .wZ (wY (vt 180 z) True) <| .ok (.inl ((false, z, z1, ()))))
 (.ok (.inr (([], ())))))
 (.ite (decide (i.2.2.1 > 0))
 (.triv (asT Int 1000000000 ≠ 0) ze <| .need ((List.length i.2.1 + 1) * 4 ≤ 140737488355328) <| .triv (asT Int 1000000000 ≠ 0) ze <| .tt <| .lt (List.take (List.length i.2.1) i.2.1 ++ [adH (Int.tmod i.2.2.1 1000000000)] : List Int) fun z2 => .lt (abI (Int.tdiv i.2.2.1 1000000000) : Int) fun z3 => .need (((z3 : Int) = z3) ∧ (((2) = (2)) ∧ (((0) = (0)) ∧ ((List.length i.2.1 + 1 = List.length z2) ∧ ((true) = (true))))) ∧ True ∧ True) <| .wZ (wY (vt 180 z2) True) <| .ok (.inl ((false, z2, z3, ()))))
 (.ok (.inr ((List.take (List.length i.2.1) i.2.1, ())))))
def alQ (v : Int) : TT vK :=
 .loop 0 (.tt <| .wZ (vj v <| True ∧ True ∧ True) <| .tr <| .ok ((true, [], v, ()))) (adM v)
def aEf : LTab := [(74, 218, 5122, ⟨0, (Int) × Bool × (List Int) × Unit, .dat (.s 4) vG <| .appN (.s 3) 5 180 vI <| .nil, [2, 0], [], 1⟩), (74, 55834, 13314, ⟨1, (Int) × (Int) × Unit, .dat (.s 7) vG <| .dat (.s 6) vI <| .nil, [15, 5, 14, 13, 12, 3, 4, 2, 0], [], 0⟩), (74, 55834, 13313, ⟨2, (Int) × (Int) × Unit, .dat (.s 7) vG <| .dat (.s 6) vI <| .nil, [15, 5, 14, 13, 12, 3, 4, 2, 0], [5], 0⟩)]
def ahN (digits : List UInt8) (i : Int × Bool × List Int × Unit) (i1 : (Int) × (Int) × Unit) : TT (vQ ⊕ (vW ⊕ vK)) :=
 .ite (decide (i1.1 < i.1))
 (.need (inb i1.1 (len digits)) <| .tt <| .lt (w64 (i1.1 + 1) : Int) fun z1 => .lt (adH (adH (i1.2.1 * 10) + adH (wu8 ((↑(UInt8.toNat (gi digits i1.1 0)) : Int) - 48))) : Int) fun z2 => .wZ (vC z2 z1 (if 0 > w64 (i.1 - 9) then 0 else w64 (i.1 - 9) : Int) (if 0 > w64 (i.1 - 9) then 0 else w64 (i.1 - 9) : Int) (if 0 > w64 (i.1 - 9) then 0 else w64 (i.1 - 9) : Int) (w64 (i.1 - 9)) i.1 <| True ∧ (vj i.1 <| True ∧ vk digits)) <| .tr <| .ok (.inl ((z1, z2, ()))))
 (.need (1 * 4 ≤ 140737488355328) <| .ite ((if 0 > w64 (i.1 - 9) then 0 else w64 (i.1 - 9)) == 0)
 (.call (ab9 ([i1.2.1], ())) Dd0 fun y =>
 .ok (.inr (.inr ((y.1, ())))))
 (.tt <| .lt (w64 (i.1 - 9) : Int) fun z3 => .lt ([i1.2.1] : List Int) fun z4 => .wZ ((vu 5 0 1 true) ∧ (vj z3 <| True ∧ vk digits)) <| .wZ (wY (vt 180 z4) True) <| .ok (.inr (.inl ((z3, false, z4, ()))))))
def ahM (digits : List UInt8) (i : Int × Bool × List Int × Unit) (i2 : (Int) × (Int) × Unit) : TT (vQ ⊕ (vW ⊕ vK)) :=
 .ite (decide (i2.1 < i.1))
 (.need (inb i2.1 (len digits)) <| .tt <| .lt (w64 (i2.1 + 1) : Int) fun z6 => .lt (adH (adH (i2.2.1 * 10) + adH (wu8 ((↑(UInt8.toNat (gi digits i2.1 0)) : Int) - 48))) : Int) fun z7 => .wZ (vC z7 z6 (if 0 > w64 (i.1 - 9) then 0 else w64 (i.1 - 9) : Int) (if 0 > w64 (i.1 - 9) then 0 else w64 (i.1 - 9) : Int) (if 0 > w64 (i.1 - 9) then 0 else w64 (i.1 - 9) : Int) (w64 (i.1 - 9)) i.1 <| (vu 5 0 (List.length i.2.2.1) true) ∧ (vj i.1 <| True ∧ vk digits)) <| .wZ (wY (vt 180 i.2.2.1) True) <| .ok (.inl ((z6, z7, ()))))
 (.need ((List.length i.2.2.1 + 1) * 4 ≤ 140737488355328) <| .ite ((if 0 > w64 (i.1 - 9) then 0 else w64 (i.1 - 9)) == 0)
 (.call (ab9 (List.take (List.length i.2.2.1 + 1) (List.take (List.length i.2.2.1) i.2.2.1 ++ [i2.2.1]), ())) Dd0 fun y1 =>
 .ok (.inr (.inr ((y1.1, ())))))
 (.tt <| .lt (w64 (i.1 - 9) : Int) fun z8 => .lt (List.take (List.length i.2.2.1) i.2.2.1 ++ [i2.2.1] : List Int) fun z9 => .need ((((5) = (5)) ∧ (((0) = (0)) ∧ ((List.length i.2.2.1 + 1 = List.length z9) ∧ ((true) = (true))))) ∧ ((z8 : Int) = z8) ∧ True ∧ ((digits) = (digits)) ∧ True) <| .wZ (wY (vt 180 z9) True) <| .ok (.inr (.inl ((z8, false, z9, ()))))))
def akI (digits : List UInt8) (i : (Int) × Bool × (List Int) × Unit) : TT (vW ⊕ vK) :=
 .ite (i.2.1)
 (.loop 1 (.tt <| .lt (if 0 > w64 (i.1 - 9) then 0 else w64 (i.1 - 9) : Int) fun z => .wZ (vC (0 : Int) z z z z (w64 (i.1 - 9)) i.1 <| True ∧ (vj i.1 <| True ∧ vk digits)) <| .tr <| .ok ((z, 0, ()))) (ahN digits i))
 (.loop 2 (.tt <| .lt (if 0 > w64 (i.1 - 9) then 0 else w64 (i.1 - 9) : Int) fun z5 => .wZ (vC (0 : Int) z5 z5 z5 z5 (w64 (i.1 - 9)) i.1 <| (vu 5 0 (List.length i.2.2.1) true) ∧ (vj i.1 <| True ∧ vk digits)) <| .wZ (wY (vt 180 i.2.2.1) True) <| .ok ((z5, 0, ()))) (ahM digits i))
def am3 (digits : List UInt8) : TT vK :=
 .loop 0 (.tt <| .wZ (True ∧ (vj (len digits) <| True ∧ vk digits)) <| .tr <| .ok ((len digits, true, [], ()))) (akI digits)
def aqX (m : List Int) : TT vS :=
 .call (adQ (m, ())) Dd1 fun y =>
 .ite (y.1)
 (.ok ((1, ())))
 (.need (inb (w64 (len m - 1)) (len m)) <| .call (ar5 (w64 (gi m (w64 (len m - 1)) 0), ())) Dd2 fun y1 =>
 .ok ((w64 (w64 (w64 (len m - 1) * 9) + len y1.1), ())))
def aJ5 : LTab := [(125, 12, 1025, ⟨0, (List Int) × (List Int) × Unit, .dat (.s 0) ub <| .dat (.s 1) ub <| .nil, [], [], 0⟩), (125, 196, 4096, ⟨1, (Bool) × Unit, .dat (.s 19) (Ty.bool) <| .nil, [1, 0], [], 0⟩), (125, 6292, 10240, ⟨2, (Int) × (Int) × Unit, .dat (.s 6) vU <| .dat (.s 5) vU <| .nil, [23, 22, 21, 20, 19, 1, 0], [], 0⟩)]
def azC (m : List Int) (o : List Int) (i : List Int × List Int × Unit) (y : Bool × Unit) (j : Bool × Unit) (y1 : Int × Unit) (y2 : Int × Unit) (i1 : (Int) × (Int) × Unit) : TT (vQ ⊕ (ui ⊕ vK)) :=
 .ite (decide (i1.1 > 0))
 (.need (i1.1 ≠ 0) <| .tt <| .lt (Int.tmod i1.2.1 i1.1 : Int) fun z1 => .wZ (vA i1.1 z1 y2.1 i.2.1 y1.1 i.1 j.1 i.2.1 <| vk i.1) <| .tr <| .ok (.inl ((z1, i1.1, ()))))
 (.call (acM (i1.2.1, ())) Dd0 fun y3 =>
 .ok (.inr (.inr ((y3.1, ())))))
def aqY (m : List Int) (o : List Int) (i : List Int × List Int × Unit) (y : Bool × Unit) (j : (Bool) × Unit) : TT (ui ⊕ vK) :=
 .ite (j.1)
 (.call (ajJ (i.1, ())) Dd3 fun y1 =>
 .call (ajJ (i.2.1, ())) Dd3 fun y2 =>
 .loop 2 (.tt <| .wZ (vA y1.1 y2.1 y2.1 i.2.1 y1.1 i.1 j.1 i.2.1 <| vk i.1) <| .tr <| .ok ((y2.1, y1.1, ()))) (azC m o i y j y1 y2))
 (.call (af2 (i.1, i.2.1, ())) Dd4 fun y4 =>
 .tt <| .lt (i.2.1 : List Int) fun z2 => .lt (y4.2.1 : List Int) fun z3 => .wZ (vB z3 z2) <| .tr <| .ok (.inl ((z2, z3, ()))))
def azD (m : List Int) (o : List Int) (i : (List Int) × (List Int) × Unit) : TT (ui ⊕ vK) :=
 .call (adQ (i.2.1, ())) Dd1 fun y =>
 .ite (!y.1)
 (.join 1 (ι := (Bool) × Unit) (.ite (decide (len i.1 ≤ 2))
 (.tt <| .lt (decide (len i.2.1 ≤ 2) : Bool) fun z => .wZ (vq z i.2.1 i.1) <| .tr <| .ok (.inl ((z, ()))))
 (.tt <| .wZ (vq false i.2.1 i.1) <| .tr <| .ok (.inl ((false, ()))))) (aqY m o i y))
 (.ok (.inr ((i.1, ()))))
def av3 (m : List Int) (o : List Int) : TT vK :=
 .loop 0 (.tt <| .wZ (vB o m) <| .tr <| .ok ((m, o, ()))) (azD m o)
end
open Go Go.Vg
theorem ao8 {l : List Int} (h : Dg 1000000000 l) (hl : l.length ≤ 2000000000000) {n : Nat} (hv : V 1000000000 l = n) : ab9 (l, ()) = some (mag n, ()) := by
 unfold ab9
 rw [if_pos ⟨h, hl⟩]
 simp only [hv, zj]
theorem azB (m o : List Int) (y) (h : ag8 (m, o, ()) = some y) : (am0 m o).toO = some y := by
 obtain ⟨⟨a, b⟩, hn, hx, rfl⟩ := aaF h
 obtain ⟨rfl, hx2⟩ := Prod.mk.inj hx; obtain ⟨rfl, -⟩ := Prod.mk.inj hx2; dsimp only
 obtain ⟨la, hba⟩ := hn
 simp only at la hba
 have hda := afQ a
 have hdb := afQ b
 have hVa := akT a
 have hVb := akT b
 have hl := abG hba
 unfold am0
 refine uN sn ?_
 refine uO (0, 0, List.replicate (mag a).length 0, ()) ?_ ?_
 ·repeat refine za ?_
  simp (disch := omega) only [aaJ, aaA, aaG, aaQ, abR, aaK, zo, zj, aaD, zp]
 refine aaM (fun i => ∃ k : Nat, k ≤ (mag a).length ∧ i.1 = (k : Int) ∧ 0 ≤ i.2.1 ∧ i.2.1 ≤ 1 ∧ i.2.2.1.length = (mag a).length ∧ Dg 1000000000 i.2.2.1 ∧ V 1000000000 (i.2.2.1.take k) = V 1000000000 ((mag a).take k) - V 1000000000 ((mag b).take k) + 1000000000 ^ k * i.2.1) (fun i => (((mag a).length : Int) - i.1).toNat) (fun _ => (mag (a - b), ())) ?_ _ ⟨0, zN _, rfl, by simp, by simp, by simp, afD zb _, by simp [V]⟩
 rintro ⟨i, c, s, u⟩ ⟨k, h1, h2, h3, h4, h5, h6, h7⟩
 simp only at h2 h3 h4 h5 h6 h7
 subst h2
 simp only [aqW, aaK]
 have ea := aaT 1000000000 (mag a) k
 have eb := aaT 1000000000 (mag b) k
 have da := aaR zb hda k
 have db := aaR zb hdb k
 rcases zv k (mag a).length with hk | hk
 ·left
  have fin : ∀ x c' : Int, 0 ≤ x ∧ x < 1000000000 → 0 ≤ c' ∧ c' ≤ 1 → x = (mag a).getD k 0 - (mag b).getD k 0 - c + 1000000000 * c' → (∃ k_1 : Nat, k_1 ≤ (mag a).length ∧ ((k + 1 : Nat) : Int) = (k_1 : Int) ∧ 0 ≤ c' ∧ c' ≤ 1 ∧ (s.set k x).length = (mag a).length ∧ Dg 1000000000 (s.set k x) ∧ V 1000000000 ((s.set k x).take k_1) = V 1000000000 ((mag a).take k_1) - V 1000000000 ((mag b).take k_1) + 1000000000 ^ k_1 * c') ∧ (((mag a).length : Int) - ((k + 1 : Nat) : Int)).toNat < (((mag a).length : Int) - (k : Int)).toNat := by
   intro x c' hx hc he
   refine ⟨⟨k + 1, by omega, rfl, hc.1, hc.2, by simp; omega, ahC h6 hx _, ?_⟩, by omega⟩
   rw [aEH _ zb, h7, ea, eb, yp, he]
   grind
  rcases zv k (mag b).length with hkb | hkb
  ·rcases zS ((mag a).getD k 0) (c + (mag b).getD k 0) with hc | hc
   ·obtain ⟨g1, g2⟩ := fin ((mag a).getD k 0 + 1000000000 - (c + (mag b).getD k 0)) 1 zb zb zb
    refine ⟨(((k + 1 : Nat) : Int), 1, s.set k ((mag a).getD k 0 + 1000000000 - (c + (mag b).getD k 0)), ()), ?_, g1, g2, trivial⟩
    repeat refine za ?_
    simp (disch := omega) only [aaJ, aaA, aaG, aaQ, abR, aaK, zo, zj, aaD, zp]
    rfl
   ·obtain ⟨g1, g2⟩ := fin ((mag a).getD k 0 - (c + (mag b).getD k 0)) 0 zb zb zb
    refine ⟨(((k + 1 : Nat) : Int), 0, s.set k ((mag a).getD k 0 - (c + (mag b).getD k 0)), ()), ?_, g1, g2, trivial⟩
    repeat refine za ?_
    simp (disch := omega) only [aaJ, aaA, aaG, aaQ, abR, aaK, zo, zj, aaD, zp]
    rfl
  ·have hz : (mag b).getD k 0 = 0 := afT hkb 0
   rcases zS ((mag a).getD k 0) c with hc | hc
   ·obtain ⟨g1, g2⟩ := fin ((mag a).getD k 0 + 1000000000 - c) 1 zb zb zb
    refine ⟨(((k + 1 : Nat) : Int), 1, s.set k ((mag a).getD k 0 + 1000000000 - c), ()), ?_, g1, g2, trivial⟩
    repeat refine za ?_
    simp (disch := omega) only [aaJ, aaA, aaG, aaQ, abR, aaK, zo, zj, aaD, zp]
    rfl
   ·obtain ⟨g1, g2⟩ := fin ((mag a).getD k 0 - c) 0 zb zb zb
    refine ⟨(((k + 1 : Nat) : Int), 0, s.set k ((mag a).getD k 0 - c), ()), ?_, g1, g2, trivial⟩
    repeat refine za ?_
    simp (disch := omega) only [aaJ, aaA, aaG, aaQ, abR, aaK, zo, zj, aaD, zp]
    rfl
 ·right
  have hkk : k = (mag a).length := zb
  rw [hkk, aa6 _ zb, aa6 _ (zi _), aa6 _ hl, hVa, hVb] at h7
  have hlt := aEI zb h6
  rw [h5] at hlt
  have hc : c = 0 := by
   rcases zS 0 c with hc | hc
   ·have hc1 : c = 1 := zb
    subst hc1
    omega
   ·omega
  subst hc
  refine uF sd ?_
  refine uC (mag (a - b), ()) ?_ ?_
  ·rw [zq (by simp [len]; omega)]
   exact ao8 h6 zb zb
  ·rfl
theorem aB0 {p q : Int × Int} (h : (sg p.1, sg p.2, ()) = (sg q.1, sg q.2, ())) : p = q := by
 obtain ⟨h1, h2⟩ := Prod.mk.inj h
 obtain ⟨h2, -⟩ := Prod.mk.inj h2
 exact Prod.ext (apG h1) (apG h2)
theorem aFe {p q : Int × Nat} (h : (sg p.1, mag p.2, ()) = (sg q.1, mag q.2, ())) : p = q := by
 obtain ⟨h1, h2⟩ := Prod.mk.inj h
 obtain ⟨h2, -⟩ := Prod.mk.inj h2
 exact Prod.ext (apG h1) (afP h2)
theorem aB4 {p q : Rat × Rat} (h : (rt p.1, rt p.2, ()) = (rt q.1, rt q.2, ())) : p = q := by
 obtain ⟨h1, h2⟩ := Prod.mk.inj h
 obtain ⟨h2, -⟩ := Prod.mk.inj h2
 exact Prod.ext (axS h1) (axS h2)
theorem aLJ {p q : Rat × Nat} (h : (rt p.1, mag p.2, ()) = (rt q.1, mag q.2, ())) : p = q := by
 obtain ⟨h1, h2⟩ := Prod.mk.inj h
 obtain ⟨h2, -⟩ := Prod.mk.inj h2
 exact Prod.ext (axS h1) (afP h2)
theorem azI (m : List Int) (negative : Bool) (y) (h : abW (m, negative, ()) = some y) : (auF m negative).toO = some y := by
 injection h with h
 subst h
 cases negative
 ·rfl
 ·exact uT rfl (uC (len m == 0, ()) rfl rfl)
theorem adE {n : Nat} {b : Bool} {w : Int} (hn : n = w.natAbs) (hb : w = 0 ∨ b = decide (w < 0)) : abW (mag n, b, ()) = some (sg w, ()) := by
 subst hn
 unfold abW sg
 rcases hb with rfl | rfl
 ·simp [mag_zero, len]
 ·by_cases h0 : w = 0
  ·subst h0; simp
  ·have : (len (mag w.natAbs) == 0) = false := by
    have h1 : mag w.natAbs ≠ [] := fun h2 => by have := mag_nil_iff.1 h2; omega
    have h3 : (mag w.natAbs).length ≠ 0 := fun h2 => h1 (zT.1 h2)
    rw [aaD, beq_eq_false_iff_ne]; omega
   simp only [this, Bool.not_false, Bool.and_true]
theorem axB {a : Int} (h1 : Bd 8 a.natAbs) : afB (sg a, ()) = some (sg (-a), ()) := aaN (enc := fun x : Int => (sg x, ())) a h1 (fun b hb => apG (Prod.mk.inj hb).1)
theorem aCZ {a b : Int} (h1 : Bd 7 a.natAbs) (h2 : Bd 7 b.natAbs) : al2 (sg a, sg b, ()) = some (sg (a + b), ()) := aaN (enc := fun x : Int × Int => (sg x.1, sg x.2, ())) (a, b) ⟨h1, h2⟩ (fun b hb => aB0 hb)
theorem aq5 (n : SgT) (y) (h : afB (n, ()) = some y) : (alP n).toO = some y := by
 obtain ⟨a, hp, hx, rfl⟩ := aaF h
 obtain ⟨rfl, -⟩ := Prod.mk.inj hx
 refine uC (sg (-a), ()) (adE zb ?_) rfl
 by_cases h0 : a = 0
 ·left; omega
 ·right
  show (!decide (a < 0)) = decide (-a < 0)
  by_cases h1 : a < 0
  ·rw [zn h1, zl zb]; rfl
  ·rw [zl h1, zn zb]; rfl
theorem aEa (n o : SgT) (y) (h : al2 (n, o, ()) = some y) : (av6 n o).toO = some y := by
 obtain ⟨⟨a, b⟩, hp, hx, rfl⟩ := aaF h
 obtain ⟨rfl, hx2⟩ := Prod.mk.inj hx; obtain ⟨rfl, -⟩ := Prod.mk.inj hx2; dsimp only
 obtain ⟨l1, l2⟩ := hp
 simp only at l1 l2
 unfold av6
 dsimp only
 by_cases hs : (decide (a < 0) == decide (b < 0)) = true
 ·refine uT hs ?_
  have hs' : (a < 0 ↔ b < 0) := by simpa using hs
  refine uC _ (aAh (aaO l1 zb) (aaO l2 zb)) ?_
  refine uC (sg (a + b), ()) (adE zb (Or.inr ?_)) rfl
  exact decide_eq_decide.2 zb
 ·have hs' : ¬ (a < 0 ↔ b < 0) := by simpa using hs
  refine uF (by simpa using hs) ?_
  refine uC _ (aoE (aaO l1 zb) (aaO l2 zb)) ?_
  by_cases hc : a.natAbs < b.natAbs
  ·refine uT ?_ ?_
   ·unfold asV; rw [if_pos zb]; rfl
   ·refine uC _ (au0 (aaO l2 zb) zb) ?_
    refine uC (sg (a + b), ()) (adE zb (Or.inr ?_)) rfl
    exact decide_eq_decide.2 zb
  ·refine uF ?_ ?_
   ·unfold asV
    rw [if_neg zb]
    split <;> rfl
   ·refine uC _ (au0 (aaO l1 zb) zb) ?_
    refine uC (sg (a + b), ()) (adE zb ?_) rfl
    by_cases h0 : a + b = 0
    ·exact Or.inl h0
    ·exact Or.inr (decide_eq_decide.2 zb)
theorem ar9 {a : Int} (h1 : Bd 8 a.natAbs) : ag9 (sg a, ()) = some (a.sign, ()) := aaN (enc := fun x : Int => (sg x, ())) a h1 (fun b hb => apG (Prod.mk.inj hb).1)
theorem aBh (n : SgT) (y) (h : ag9 (n, ()) = some y) : (aq4 n).toO = some y := by
 obtain ⟨a, hp, hx, rfl⟩ := aaF h
 obtain ⟨rfl, -⟩ := Prod.mk.inj hx
 unfold aq4
 dsimp only
 refine uC _ (aAg _) ?_
 rcases Int.lt_trichotomy a 0 with h0 | h0 | h0
 ·refine uF zf (uT zf ?_)
  rw [xE h0]; rfl
 ·subst h0; exact uT zg rfl
 ·refine uF zf (uF zf ?_)
  rw [xV h0]; rfl
theorem aKl {n : Nat} (h : Bd 0 n) : (aaY n).length ≤ 9000001 := by
 have := adO (k := 1000000 * 4 ^ 0) h
 omega
theorem aMg (n : SgT) (y) (h : aIj (n, ()) = some y) : (azG n).toO = some y := by
 obtain ⟨a, hp, hx, rfl⟩ := aaF h
 obtain ⟨rfl, -⟩ := Prod.mk.inj hx
 unfold azG
 dsimp only
 have hl := aKl hp
 by_cases h0 : a < 0
 ·refine uT zf (uC _ (akY hp) (uN ?_ ?_))
  ·show 1 + (aaY a.natAbs).length ≤ lim
   unfold lim; omega
  ·rw [agO h0]; rfl
 ·refine uF zf (uC _ (akY hp) ?_)
  rw [ab4 zb]; rfl
theorem akZ {a : Int} {b : Nat} (h1 : Bd 7 a.natAbs) (h2 : Bd 7 b) : aeL (sg a, mag b, ()) = some (sg (a * b), ()) := aaN (enc := fun x : Int × Nat => (sg x.1, mag x.2, ())) (a, b) ⟨h1, h2⟩ (fun b hb => aFe hb)
theorem av7 (n : SgT) (m : List Int) (y) (h : aeL (n, m, ()) = some y) : (akH n m).toO = some y := by
 obtain ⟨⟨a, b⟩, hp, hx, rfl⟩ := aaF h
 obtain ⟨rfl, hx2⟩ := Prod.mk.inj hx; obtain ⟨rfl, -⟩ := Prod.mk.inj hx2; dsimp only
 obtain ⟨l1, l2⟩ := hp
 simp only at l1 l2
 unfold akH
 dsimp only
 refine uC _ (anK (aaO l1 zb) (aaO l2 zb)) ?_
 refine uC (sg (a * b), ()) (adE (by rw [yB]; rfl) ?_) rfl
 rcases zF b with h0 | h0
 ·left; subst h0; simp
 ·right
  refine decide_eq_decide.2 ⟨fun h => Int.mul_neg_of_neg_of_pos h zb, fun h => ?_⟩
  rcases zS a 0 with h2 | h2
  ·exact h2
  ·have := xn h2 (show (0 : Int) ≤ b by omega); omega
theorem auC {a : Int} {d : Nat} (ha : a < 0) (hd : d ≠ 0) : a / (d : Int) = -((if a.natAbs % d = 0 then a.natAbs / d else a.natAbs / d + 1 : Nat) : Int) := by
 obtain ⟨n, hn⟩ : ∃ n : Nat, a = -(n : Int) := ⟨a.natAbs, by omega⟩
 subst hn
 rw [wI, ym]
 have e := wR n d
 have hlt := yz n (show 0 < d by omega)
 generalize hq : n / d = q at e
 generalize hr : n % d = r at e hlt
 by_cases h0 : r = 0
 ·rw [if_pos h0]
  have : -(n : Int) = -(q : Int) * d := by
   rw [← e, h0]; simp; grind
  rw [this, Int.mul_ediv_cancel _ zb]
 ·rw [if_neg h0]
  have h1 : -(n : Int) = ((d : Int) - r) + (-((q + 1 : Nat) : Int)) * d := by
   rw [← e]; simp; grind
  rw [h1, Int.add_mul_ediv_right _ _ zb, xg zb zb, wV]
theorem aEQ {a : Int} {b : Nat} (h1 : Bd 7 a.natAbs) (h2 : Bd 7 b) (h3 : b ≠ 0) : ajK (sg a, mag b, ()) = some (sg (a / b), ()) := aaN (enc := fun x : Int × Nat => (sg x.1, mag x.2, ())) (a, b) ⟨h1, h2, h3⟩ (fun b hb => aFe hb)
theorem aA0 : mag 1 = [1] := alM zb zb
theorem aL8 : mag 2 = [2] := alM zb zb
theorem azH (n : SgT) (d : List Int) (y) (h : ajK (n, d, ()) = some y) : (am2 n d).toO = some y := by
 obtain ⟨⟨a, b⟩, hp, hx, rfl⟩ := aaF h
 obtain ⟨rfl, hx2⟩ := Prod.mk.inj hx; obtain ⟨rfl, -⟩ := Prod.mk.inj hx2; dsimp only
 obtain ⟨l1, l2, l3⟩ := hp
 simp only at l1 l2 l3
 unfold am2
 dsimp only
 refine uC _ (aBO (aaO l1 zb) (aaO l2 zb) l3) ?_
 by_cases ha : a < 0
 ·refine uT zf ?_
  refine uC _ (aAg _) ?_
  have hf := auC ha l3
  have hbd := acI b l1
  generalize a.natAbs / b = q at hf hbd
  generalize hrr : a.natAbs % b = r at hf
  by_cases hr : r = 0
  ·rw [if_pos hr] at hf
   refine uF zf ?_
   refine uC (sg (a / b), ()) (adE (n := q) zb ?_) rfl
   by_cases h0 : a / (b : Int) = 0
   ·exact Or.inl h0
   ·exact Or.inr (decide_eq_decide.2 zb)
  ·rw [if_neg hr] at hf
   refine uT zf ?_
   have := aAh (a := q) (b := 1) (aaO hbd zb) (aaO (abL zb) zb)
   rw [aA0] at this
   refine uC _ this ?_
   refine uC (sg (a / b), ()) (adE (n := q + 1) zb (Or.inr (decide_eq_decide.2 zb))) rfl
 ·refine uF zf ?_
  obtain ⟨n, rfl⟩ := zG (show 0 ≤ a by omega)
  have hdv : ((n : Int) / (b : Int)) = ((n / b : Nat) : Int) := zg
  rw [hdv]
  refine uC (sg ((n / b : Nat) : Int), ()) (adE (n := n / b) rfl (Or.inr (decide_eq_decide.2 ?_))) rfl
  generalize n / b = q
  omega
theorem awL (s p : List UInt8) (hs : s.length ≤ 4611686018427387904) (y) (h : abN (s, p, ()) = some y) : (akM s p).toO = some y := by
 injection h with h
 subst h
 unfold akM
 dsimp only
 rcases zv s.length p.length with hl | hl
 ·repeat refine za ?_
  have : p.isPrefixOf s = false := by
   cases hp : p.isPrefixOf s with
   | false => rfl
   | true => have := (wx.1 hp).length_le; omega
  simp [this, aaJ]
 ·refine uV (uV (uV (uV (uT sd (uN sd ?_)))))
  simp only [aaD, zj]
  by_cases hp : p.isPrefixOf s = true
  ·have h2 := List.prefix_iff_eq_take.1 (wx.1 hp)
   refine uF (by rw [← h2]; simp) (uN sd ?_)
   rw [if_pos hp, zq zg]; rfl
  ·refine uT ?_ ?_
   ·simp only [yc, beq_eq_false_iff_ne]
    intro h2
    exact hp (wx.2 (List.prefix_iff_eq_take.2 h2.symm))
   ·rw [if_neg hp]; rfl
theorem aAi (z : Int) : abN (dec z, #[45].toList, ()) = some (aaY z.natAbs, decide (z < 0), ()) := by
 unfold abN
 show some (if [45].isPrefixOf (dec z) = true then _ else _) = _
 by_cases h : z < 0
 ·rw [agO h, zn h]
  simp [List.isPrefixOf]
 ·rw [ab4 zb, zl h]
  have : [45].isPrefixOf (aaY z.natAbs) = false := by
   have := acT z.natAbs
   cases hd : aaY z.natAbs with
   | nil => rfl
   | cons a l =>
    rw [hd] at this
    simp only [wT, ne_eq, Option.some.injEq] at this
    simp [List.isPrefixOf, Ne.symm this]
  rw [this]; simp
theorem au1 {z : Int} (h : Bd 7 z.natAbs) : ahA (dec z, ()) = some (sg z, ()) := aaN (enc := fun x : Int => (dec x, ())) z h (fun b hb => anA (Prod.mk.inj hb).1)
theorem azJ (a : List UInt8) (y) (h : ahA (a, ()) = some y) : (auG a).toO = some y := by
 obtain ⟨z, hp, hx, rfl⟩ := aaF h
 obtain ⟨rfl, -⟩ := Prod.mk.inj hx
 exact uC _ (aAi z) (uC _ (au2 (aaO hp zb)) rfl)
theorem aAo {q : Rat} (h : al4 q) : wrF q = (fx q, 0, ()) := if_pos h
theorem aEX {q : Rat} (h : ¬ al4 q) : wrF q = (([], [], ()), 6, ()) := if_neg h
theorem au4 {z : Int} (h : Fit z) : wrW z = (dec z, 0, ()) := if_pos h
theorem au5 {z : Int} (h : ¬ Fit z) : wrW z = ([], 6, ()) := if_neg h
theorem aIk {z : Int} (h : Bd 8 z.natAbs) : aAb (sg z, ()) = some (wrW z) := aaN (enc := fun x : Int => (sg x, ())) z h (fun b hb => apG (Prod.mk.inj hb).1)
theorem aEO {q : Rat} (h : BdQ 8 q) : auW (rt q, ()) = some (wrF q) := aaN (enc := fun x : Rat => (rt x, ())) q h (fun b hb => axS (Prod.mk.inj hb).1)
theorem afG {g : Nat} {t n : Int} (h : n = g * t) (g0 : g ≠ 0) : n.natAbs / g = t.natAbs := by
 rw [h, yB, ym, yg _ zb]
theorem aAf {q : Rat} (h : BdQ 7 q) : aoD (rt q, ()) = some (rt (-q), ()) := aaN (enc := fun x : Rat => (rt x, ())) q h (fun b hb => axS (Prod.mk.inj hb).1)
theorem aCY {p q : Rat} (h : BdQ 3 p) (h2 : BdQ 3 q) : aw1 (rt p, rt q, ()) = some (rt (p + q), ()) := aaN (enc := fun x : Rat × Rat => (rt x.1, rt x.2, ())) (p, q) ⟨h, h2⟩ (fun b hb => aB4 hb)
theorem aMR (x x' : RtT) (y) (h : aKv (x, x', ()) = some y) : (aJ3 x x').toO = some y := by
 obtain ⟨⟨p, q⟩, hp, hx, rfl⟩ := aaF h
 obtain ⟨rfl, hx2⟩ := Prod.mk.inj hx; obtain ⟨rfl, -⟩ := Prod.mk.inj hx2; dsimp only
 obtain ⟨bp, bq⟩ := hp
 refine uC _ (aAf ⟨aaO bq.1 zb, aaO bq.2 zb⟩) ?_
 refine uC _ (aCY bp ⟨adP bq.1, bq.2⟩) ?_
 rw [Rat.sub_eq_add_neg]; rfl
theorem aEP {p q : Rat} (h : BdQ 3 p) (h2 : BdQ 3 q) : ajI (rt p, rt q, ()) = some (aLd p q, ()) := aaN (enc := fun x : Rat × Rat => (rt x.1, rt x.2, ())) (p, q) ⟨h, h2⟩ (fun b hb => aB4 hb)
theorem ay6 (x x' : RtT) (y) (h : ajI (x, x', ()) = some y) : (amW x x').toO = some y := by
 obtain ⟨⟨p, q⟩, hp, hx, rfl⟩ := aaF h
 obtain ⟨rfl, hx2⟩ := Prod.mk.inj hx; obtain ⟨rfl, -⟩ := Prod.mk.inj hx2; dsimp only
 obtain ⟨⟨p1, p2⟩, q1, q2⟩ := hp
 simp only at p1 p2 q1 q2
 unfold amW
 dsimp only
 refine uC _ (akZ zc zc) ?_
 refine uC _ (akZ zc zc) ?_
 refine uC _ (axB (aaO (aaP q1 (abP p2)) zb)) ?_
 refine uC _ (aCZ (aaO (aaP p1 (abP q2)) zb) (adP (aaO (aaP q1 (abP p2)) zb))) ?_
 refine uC _ (ar9 (aaO (abQ (aaP p1 (abP q2)) (adP (aaP q1 (abP p2)))) zb)) ?_
 rw [aLX]; rfl
theorem aIq {q : Rat} {s : Nat} (h : BdQ 1 q) (h2 : Bd 1 s) : al0 (rt q, mag s, ()) = some (sg (ajO q s), ()) := aaN (enc := fun x : Rat × Nat => (rt x.1, mag x.2, ())) (q, s) ⟨h, h2⟩ (fun b hb => aLJ hb)
theorem aA9 (x : RtT) (sc : List Int) (y) (h : al0 (x, sc, ()) = some y) : (aqP x sc).toO = some y := by
 obtain ⟨⟨q, s⟩, hp, hx, rfl⟩ := aaF h
 obtain ⟨rfl, hx2⟩ := Prod.mk.inj hx; obtain ⟨rfl, -⟩ := Prod.mk.inj hx2; dsimp only
 obtain ⟨⟨p1, p2⟩, bs⟩ := hp
 simp only at p1 p2 bs
 have b2 : Bd 1 2 := aaO (abL zb) zb
 unfold aqP
 dsimp only
 have t1 := anK (a := s) (b := 2) zc zc
 have t2 := anK (a := q.den) (b := 2) zc zc
 rw [aL8] at t1 t2
 refine uC _ t1 ?_
 refine uC _ (akZ zc zc) ?_
 refine uC (sg (q.den : Int), ()) (adE (w := (q.den : Int)) zg (Or.inr (by rw [zl zb]))) ?_
 refine uC _ (aCZ (aaO (aaP (aaO p1 (show 1 ≤ 2 by omega)) (abP (aeC bs b2))) zb) zc) ?_
 refine uC _ t2 ?_
 refine uC _ (aEQ zc zc (yX q.den_nz zb)) ?_
 rw [aGC]; rfl
theorem aFr {s t : List UInt8} {b : Bool} (hc : abN (s, #[45].toList, ()) = some (t, b, ())) (h : ¬ (isD t ∧ t ≠ [] ∧ t.length ≤ 600 ∧ (t.head? = some 48 → b = false ∧ t.length = 1))) : rdW s = none := by
 refine aI2 fun z hz he => h ?_
 rw [← he, aAi] at hc
 injection hc with hc
 obtain ⟨rfl, h2⟩ := Prod.mk.inj hc
 obtain ⟨rfl, -⟩ := Prod.mk.inj h2
 refine ⟨agE _, aeF _, hz, fun h0 => ?_⟩
 by_cases hn : z.natAbs = 0
 ·rw [hn, abK zb]
  exact ⟨zl zb, rfl⟩
 ·exact absurd h0 (aHH hn)
theorem aFq {s t : List UInt8} {b : Bool} (hc : abN (s, #[45].toList, ()) = some (t, b, ())) (h1 : isD t) (h2 : t ≠ []) (h3 : t.length ≤ 600) (h4 : t.head? = some 48 → b = false ∧ t.length = 1) : ∃ z : Int, rdW s = some z ∧ z.natAbs = num t ∧ decide (z < 0) = b := by
 have hu : t = aaY (num t) := azT h1 h2 (by
  by_cases h0 : t.head? = some 48
  ·exact Or.inr (h4 h0).2
  ·exact Or.inl h0)
 have hs : s = if b then 45 :: t else t := by
  injection hc with hc
  simp only at hc
  split at hc
  ·rename_i hp
   obtain ⟨e1, e2⟩ := Prod.mk.inj hc
   obtain ⟨rfl, -⟩ := Prod.mk.inj e2
   cases s with
   | nil => cases hp
   | cons c s =>
    have : c = 45 := by
     have h5 : ([45] : List UInt8).isPrefixOf (c :: s) = true := hp
     simp [List.isPrefixOf] at h5
     exact h5.symm
    rw [this, ← e1]; rfl
  ·obtain ⟨e1, e2⟩ := Prod.mk.inj hc
   obtain ⟨rfl, -⟩ := Prod.mk.inj e2
   rw [← e1]; rfl
 cases b
 ·refine ⟨(num t : Int), ?_, by simp, by simp⟩
  have : s = dec (num t : Int) := by rw [akL, ← hu, hs]; rfl
  rw [this, avN (show (aaY (num t : Int).natAbs).length ≤ 600 by simp; rw [← hu]; exact h3)]
 ·have hn : num t ≠ 0 := by
   intro h0
   rw [h0, abK zb] at hu
   have := h4 (by rw [hu]; rfl)
   cases this.1
  refine ⟨-(num t : Int), ?_, by simp, by simp; omega⟩
  have : s = dec (-(num t : Int)) := by rw [agO zb, wI, ym, ← hu, hs]; rfl
  rw [this, avN (show (aaY (-(num t : Int)).natAbs).length ≤ 600 by simp; rw [← hu]; exact h3)]
noncomputable def aMM (s : List UInt8) : SgT × Bool × Unit := match rdW s with | some z => (sg z, true, ()) | none => (([], false, ()), false, ())
theorem aC3 (a : List UInt8) (y) (h : ahW (a, ()) = some y) : (au6 a).toO = some y := by
 have hy : y = aMM a := by injection h with h; exact h.symm
 clear h
 subst hy
 obtain ⟨t, b, hc⟩ : ∃ t b, abN (a, #[45].toList, ()) = some (t, b, ()) := ⟨_, _, rfl⟩
 have hnot : ¬ (isD t ∧ t ≠ [] ∧ t.length ≤ 600 ∧ (t.head? = some 48 → b = false ∧ t.length = 1)) → aMM a = (([], false, ()), false, ()) := fun h => by unfold aMM; rw [aFr hc h]
 have hyes : isD t → t ≠ [] → t.length ≤ 600 → (t.head? = some 48 → b = false ∧ t.length = 1) → ag2 (t, ()) = some (mag (num t), ()) ∧ aMM a = ((mag (num t), b, ()), true, ()) := fun h1 h2 h3 h4 => by
  obtain ⟨z, e1, e2, e3⟩ := aFq hc h1 h2 h3 h4
  refine ⟨?_, ?_⟩
  ·unfold ag2
   rw [if_pos ⟨h1, h2, by simp only; omega⟩]
  ·unfold aMM
   rw [e1]
   show ((mag z.natAbs, decide (z < 0), ()), true, ()) = _
   rw [e2, e3]
 unfold au6
 refine uC (t, b, ()) hc ?_
 by_cases h1 : t = []
 ·rw [hnot (fun h => h.2.1 h1)]
  refine uR _ (uT (by simp [h1, len]) rfl)
 have hlen : 1 ≤ t.length := zK.2 h1
 by_cases h2 : t.length ≤ 600
 case neg =>
  rw [hnot (fun h => h2 h.2.2.1)]
  refine uR _ (uF sd (uT sd rfl))
 refine uL (false, ()) (uF sd (uF sd rfl)) ?_
 refine uO (0, ()) rfl ?_
 refine aaM (fun i : Int × Unit => ∃ k : Nat, i.1 = (k : Int) ∧ k ≤ t.length ∧ isD (t.take k)) (fun i => ((t.length : Int) - i.1).toNat) (fun _ => aMM a) ?_ _ ⟨0, rfl, by omega, by simp [isD]⟩
 rintro ⟨i, u⟩ ⟨k, h3, h4, h5⟩
 simp only at h3
 subst h3
 simp only [axF, aaK]
 rcases zv k t.length with hk | hk
 ·have e1 : t.getD k 0 = t[k] := by simp [hk]
  simp only [e1]
  by_cases c1 : t[k].toNat < 48
  ·right
   rw [hnot (fun h => by have := h.1 t[k] (yw hk); omega)]
   repeat refine za ?_
   rfl
  by_cases c2 : t[k].toNat > 57
  ·right
   rw [hnot (fun h => by have := h.1 t[k] (yw hk); omega)]
   repeat refine za ?_
   rfl
  ·left
   refine ⟨(((k + 1 : Nat) : Int), ()), ?_, ⟨k + 1, rfl, by omega, ?_⟩, by simp only; omega, zd⟩
   ·repeat refine za ?_
    simp (disch := omega) only [aaJ, aaA, aaG, aaQ, abR, aaK, zo, zj, aaD, zp]
    rfl
   ·rw [yf hk, isD_append]
    refine ⟨h5, fun c hc => ?_⟩
    have := zL.1 hc
    subst this
    omega
 ·right
  have hd : isD t := by rwa [zq hk] at h5
  refine uF sd (uN ⟨by simp [asT], by exact sn⟩ ?_)
  cases ht : t with
  | nil => exact absurd ht h1
  | cons c r =>
   rw [← ht]
   have hg : gi t 0 0 = c := by rw [ht]; rfl
   simp only [hg]
   have hh : t.head? = some c := by rw [ht]; rfl
   by_cases c0 : c = 48
   ·subst c0
    refine uT (by rfl) ?_
    cases b
    ·refine uF rfl ?_
     by_cases hl : t.length = 1
     ·obtain ⟨g1, g2⟩ := hyes hd h1 h2 (fun _ => ⟨rfl, hl⟩)
      rw [g2]
      exact uF sd (uC _ g1 rfl)
     ·rw [hnot (fun h => hl (h.2.2.2 hh).2)]
      exact uT sd rfl
    ·rw [hnot (fun h => by have := (h.2.2.2 hh).1; cases this)]
     exact uT rfl rfl
   ·obtain ⟨g1, g2⟩ := hyes hd h1 h2 (fun h => by rw [hh] at h; injection h with h; exact absurd h c0)
    rw [g2]
    refine uF ?_ (uC _ g1 rfl)
    rw [beq_eq_false_iff_ne]
    intro h
    exact c0 (UInt8.toNat_inj.1 (Int.ofNat.inj h))
theorem aw5 {s : List UInt8} {z : Int} (h : rdW s = some z) : ahW (s, ()) = some (sg z, true, ()) := by unfold ahW; rw [h]
theorem aw6 {s : List UInt8} (h : rdW s = none) : ahW (s, ()) = some (([], false, ()), false, ()) := by unfold ahW; rw [h]
theorem aAp (a : List UInt8) (y) (h : ag3 (a, ()) = some y) : (ao5 a).toO = some y := by
 unfold ag3 at h
 unfold ao5
 cases hr : rdW a with
 | none =>
  simp only [hr] at h
  exact uC _ (aw6 hr) (uT rfl h)
 | some z =>
  simp only [hr] at h
  exact uC _ (aw5 hr) (uF rfl h)
theorem aAd {a b : Int} (h1 : Bd 7 a.natAbs) (h2 : Bd 7 b.natAbs) : aoC (sg a, sg b, ()) = some (sg (a * b), ()) := aaN (enc := fun x : Int × Int => (sg x.1, sg x.2, ())) (a, b) ⟨h1, h2⟩ (fun b hb => aB0 hb)
theorem aB7 {s : List UInt8} {z : Int} (h : rdW s = some z) : Bd 0 z.natAbs := az3 (ahD h).1
theorem aMX (a b : List UInt8) (y) (h : aIh (a, b, ()) = some y) : (aE0 a b).toO = some y := by
 unfold aIh at h
 unfold aE0
 refine uV (uV ?_)
 cases hr : rdW a with
 | none =>
  simp only [hr] at h
  refine uC (([], false, ()), ([], false, ()), 10, ()) (by unfold ao0; simp only [hr]) (uT rfl h)
 | some z =>
  cases hb : rdW b with
  | none =>
   simp only [hr, hb] at h
   refine uC (([], false, ()), ([], false, ()), 10, ()) (by unfold ao0; simp only [hr, hb]) (uT rfl h)
  | some w =>
   simp only [hr, hb] at h
   have b1 := aB7 hr
   have b2 := aB7 hb
   refine uC (sg z, sg w, 0, ()) (by unfold ao0; simp only [hr, hb]) (uF rfl (uV ?_))
   refine uC _ (aAd (aaO b1 zb) (aaO b2 zb)) ?_
   refine uC _ (aIk (aaO (aaP b1 b2) zb)) ?_
   exact h
theorem aiR (s : List UInt8) : ag3 (s, ()) = some (if (rdW s).isSome then 0 else 10, ()) := rfl
theorem aHO (n : Nat) : asV n 1 = 0 ↔ n = 1 := by
 unfold asV
 split
 ·omega
 ·split <;> omega
theorem aEd (a : FxT) (y) (h : acU (a, ()) = some y) : (av9 a).toO = some y := by
 obtain ⟨s, t, u⟩ := a
 have hs := aKK s t
 unfold acU at h
 dsimp only at h
 unfold av9
 dsimp only
 cases hn : rdW s with
 | none =>
  rw [hn] at hs
  have hs' : rdF (s, t, u) = none := hs
  rw [hs'] at h
  refine uC _ (aiR s) (uT (by rw [hn]; rfl) h)
 | some n =>
  cases hd : rdW t with
  | none =>
   rw [hn, hd] at hs
   have hs' : rdF (s, t, u) = none := hs
   rw [hs'] at h
   refine uC _ (aiR s) (uF (by rw [hn]; rfl) (uC _ (aiR t) (uT (by rw [hd]; rfl) h)))
  | some d =>
   rw [hn, hd] at hs
   dsimp only at hs
   obtain ⟨f1, e1⟩ := ahD hn
   obtain ⟨f2, e2⟩ := ahD hd
   have b1 := aB7 hn
   have b2 := aB7 hd
   refine uC _ (aiR s) (uF (by rw [hn]; rfl) (uC _ (aiR t) (uF (by rw [hd]; rfl) ?_)))
   refine uC (sg n, ()) (by rw [e1]; exact au1 (aaO b1 zb)) ?_
   refine uC (sg d, ()) (by rw [e2]; exact au1 (aaO b2 zb)) ?_
   refine uC _ (ar9 (aaO b2 zb)) ?_
   by_cases hp : 0 < d
   ·refine uF ?_ ?_
    ·rw [xV hp]; rfl
    have hg := aKx (a := n.natAbs) (b := d.natAbs) (aaO b1 zb) (aaO b2 zb)
    refine uC _ hg ?_
    have hc := aoE (a := Nat.gcd n.natAbs d.natAbs) (b := 1) (aaO (ae6 b1 b2) zb) (aaO (abL zb) zb)
    rw [aA0] at hc
    refine uC _ hc ?_
    by_cases hcop : n.natAbs.Coprime d.natAbs
    ·rw [dif_pos ⟨hp, hcop⟩] at hs
     have hs' : rdF (s, t, u) = some ⟨n, d.natAbs, by omega, hcop⟩ := hs
     rw [hs'] at h
     refine uF ?_ h
     have : asV (Nat.gcd n.natAbs d.natAbs) 1 = 0 := (aHO _).2 hcop
     show (asV (Nat.gcd n.natAbs d.natAbs) 1 != 0) = false
     rw [this]; rfl
    ·rw [dif_neg (fun h => hcop h.2)] at hs
     have hs' : rdF (s, t, u) = none := hs
     rw [hs'] at h
     refine uT ?_ h
     show (asV (Nat.gcd n.natAbs d.natAbs) 1 != 0) = true
     rw [xo]
     exact fun h2 => hcop ((aHO _).1 h2)
   ·rw [dif_neg (fun h => hp h.1)] at hs
    have hs' : rdF (s, t, u) = none := hs
    rw [hs'] at h
    refine uT ?_ h
    rcases zS d 0 with h0 | h0
    ·rw [xE h0]; rfl
    ·have : d = 0 := zb
     rw [this]; rfl
theorem aa9 {s : FxT} {q : Rat} (h : rdF s = some q) : acU (s, ()) = some (rt q, true, ()) := by unfold acU; dsimp only; rw [h]
theorem abA {s : FxT} (h : rdF s = none) : acU (s, ()) = some ((([], false, ()), [], ()), false, ()) := by unfold acU; dsimp only; rw [h]
theorem ah1 {k j : Nat} {q : Rat} (h : BdQ k q) (hk : k ≤ j) : BdQ j q := ⟨aaO h.1 hk, aaO h.2 hk⟩
theorem ajQ {s : FxT} {q : Rat} (h : rdF s = some q) : BdQ 0 q := by
 obtain ⟨h1, h2⟩ := (ahE h).1
 exact ⟨az3 h1, az3 h2⟩
theorem aH2 {k : Nat} {p q : Rat} (h1 : BdQ k p) (h2 : BdQ k q) : BdQ (k + 2) (p + q) := by
 obtain ⟨g, h', top, t, hg, ht, hh, g0, h0, htt, e1, e2⟩ := aIb p q
 refine ⟨?_, ?_⟩
 ·rw [e1, ← afG htt h0]
  refine acI _ ?_
  rw [ht]
  exact abQ (aaP h1.1 (abP (acI _ h2.2))) (aaP h2.1 (abP (acI _ h1.2)))
 ·rw [e2]
  exact aaO (aeC (acI _ h1.2) (acI _ h2.2)) zb
theorem aMD {k : Nat} {p q : Rat} (h1 : BdQ k p) (h2 : BdQ k q) : BdQ (k + 2) (p * q) := by
 obtain ⟨g, h', s, t, hg, hh, g0, h0, hs, ht, e1, e2⟩ := aGD p q
 refine ⟨?_, ?_⟩
 ·rw [e1]
  refine aaO (aaP (k := k) ?_ ?_) zb
  ·rw [← afG hs g0]; exact acI _ h1.1
  ·rw [← afG ht h0]; exact acI _ h2.1
 ·rw [e2]
  exact aaO (aeC (acI _ h1.2) (acI _ h2.2)) zb
theorem aN0 (a b : FxT) (y) (h : aw3 (a, b, ()) = some y) : (aHl a b).toO = some y := by
 unfold aw3 aMQ at h
 dsimp only at h
 unfold aHl
 refine uV (uV ?_)
 cases ha : rdF a with
 | none =>
  simp only [ha] at h
  cases hb : rdF b with
  | none => exact uC _ (abA ha) (uC _ (abA hb) (uT rfl (uV (uV h))))
  | some q => exact uC _ (abA ha) (uC _ (aa9 hb) (uT rfl (uV (uV h))))
 | some p =>
  cases hb : rdF b with
  | none =>
   simp only [ha, hb] at h
   exact uC _ (aa9 ha) (uC _ (abA hb) (uF rfl (uT rfl (uV (uV h)))))
  | some q =>
   simp only [ha, hb] at h
   have b1 := ajQ ha
   have b2 := ajQ hb
   refine uC _ (aa9 ha) (uC _ (aa9 hb) (uF rfl (uF rfl ?_)))
   refine uC _ (aCY (ah1 b1 zb) (ah1 b2 zb)) (uV (uV ?_))
   exact uC _ (aEO (ah1 (aH2 b1 b2) zb)) h
theorem aHj (a b : FxT) (y) (h : anI (a, b, ()) = some y) : (aBj a b).toO = some y := by
 unfold anI at h
 dsimp only at h
 unfold aBj
 refine uV (uV ?_)
 cases ha : rdF a with
 | none =>
  simp only [ha] at h
  cases hb : rdF b with
  | none => exact uC _ (abA ha) (uC _ (abA hb) (uT rfl h))
  | some q => exact uC _ (abA ha) (uC _ (aa9 hb) (uT rfl h))
 | some p =>
  cases hb : rdF b with
  | none =>
   simp only [ha, hb] at h
   exact uC _ (aa9 ha) (uC _ (abA hb) (uF rfl (uT rfl h)))
  | some q =>
   simp only [ha, hb] at h
   have b1 := ajQ ha
   have b2 := ajQ hb
   exact uC _ (aa9 ha) (uC _ (aa9 hb) (uF rfl (uF rfl (uC _ (aEP (ah1 b1 zb) (ah1 b2 zb)) h))))
theorem aBk (a : FxT) (y) (h : ae3 (a, ()) = some y) : (aq8 a).toO = some y := by
 unfold ae3 at h
 dsimp only at h
 unfold aq8
 cases ha : rdF a with
 | none =>
  simp only [ha] at h
  exact uC _ (abA ha) (uT rfl h)
 | some q =>
  simp only [ha] at h
  exact uC _ (aa9 ha) (uF rfl h)
theorem aEh (a : FxT) (y) (h : afC (a, ()) = some y) : (awC a).toO = some y := by
 unfold afC at h
 dsimp only at h
 unfold awC
 cases ha : rdF a with
 | none =>
  simp only [ha] at h
  exact uC _ (abA ha) (uT rfl h)
 | some q =>
  simp only [ha] at h
  exact uC _ (aa9 ha) (uF rfl (uC _ (ar9 (aaO (ajQ ha).1 zb)) h))
theorem aOe {n : Nat} (h : (mag n).length ≤ 1000000) : Bd 0 n := h
theorem aNT {a : Int} {d : Nat} {k : Nat} (h : (mag a.natAbs).length ≤ k) (hk : 1 ≤ k) : (mag (a / (d : Int)).natAbs).length ≤ k + 1 := by
 rcases zF d with h0 | h0
 ·subst h0
  simp only [Int.natCast_zero, Int.ediv_zero, Int.natAbs_zero, mag_zero]
  simp
 ·have hle : (a / (d : Int)).natAbs ≤ a.natAbs + 1 := by
   rcases zS a 0 with h1 | h1
   ·rw [auC h1 zb, wI, ym]
    have := xk a.natAbs d
    split <;> omega
   ·obtain ⟨n, rfl⟩ := zG h1
    have : ((n : Int) / (d : Int)) = ((n / d : Nat) : Int) := zg
    rw [this, ym]
    have := xk n d
    omega
  have h2 := abG hle
  have h3 := agN a.natAbs 1
  have h4 : (mag 1).length = 1 := by rw [aA0]; rfl
  omega
theorem agY {z : Int} (h : ad7 z) : Fit z := by
 unfold ad7 at h
 have : (aaY z.natAbs).length ≤ 20 := (aa2 zb).2 zb
 unfold Fit; omega
theorem at0 {z : Int} (h : Fit z) : (mag z.natAbs).length ≤ 67 := by
 have hl : (aaY z.natAbs).length ≤ 600 := h
 obtain ⟨L, hL⟩ : ∃ L : Nat, L = 67 := ⟨_, rfl⟩
 rw [← hL, mag_length_le_iff]
 have h1 := afR z.natAbs
 have h3 : (10 : Nat) ^ (9 * L) = 1000000000 ^ L := by rw [Nat.pow_mul]
 have h2 : (10 : Nat) ^ (aaY z.natAbs).length ≤ 10 ^ (9 * L) := zP zb zb
 omega
theorem aq0 {a b : Int} (h : Fit b) (hab : a.natAbs ≤ b.natAbs) : Fit a := by
 unfold Fit at *
 rw [aa2 zb] at *
 omega
theorem aNi (a b : Rat) : a < b ∨ a = b ∨ b < a := by grind
theorem aHg {n : Int} {d : Nat} (hd : d ≠ 0) (h1 : Fit n) (h2 : Fit d) : al4 (mkRat n d) := by
 obtain ⟨g, t, hg, g0, e0, e1, e2⟩ := afN n hd
 refine ⟨aq0 h1 ?_, aq0 h2 ?_⟩
 ·rw [e1, ← afG e0 g0]; exact xk _ _
 ·rw [e2]; simp only [ym]; exact xk _ _
theorem aGm {n : Int} {d : Nat} (hd : d ≠ 0) (h1 : Fit n) (h2 : Fit d) : ofQ n d = (fx (mkRat n d), 0, ()) := by
 unfold ofQ
 rw [if_neg zb, wo, aAo (aHg hd h1 h2)]
theorem aOm {n : Int} {d : Nat} (hn : ad7 n) (hd : d ≠ 0) (h2 : d ≤ 9223372036854775807) : aAc (n, (d : Int), ()) = some (fx (mkRat n d), 0, ()) := by
 have hd2 : ad7 (d : Int) := ⟨by omega, by omega⟩
 unfold aAc
 rw [if_pos ⟨hn, hd2⟩]
 simp only [aGm hd (agY hn) (agY hd2)]
theorem avX (n : Int) {d : Nat} (hd : d ≠ 0) : mkRat n d * (d : Rat) = (n : Rat) := by
 rw [Rat.mkRat_eq_div]
 exact Rat.div_mul_cancel (by simpa using hd)
theorem aKk (n : Nat) : aaY (10 ^ n) = 49 :: List.replicate n 48 := by
 induction n with
 | zero => rw [Nat.pow_zero, abK zb]; rfl
 | succ n ih =>
  have h1 : 1 ≤ 10 ^ n := Nat.pow_pos zb
  rw [yH, ad9 zb, Nat.mul_div_cancel _ zb, Nat.mul_mod_left, ih, wU]
  rfl
theorem auD {n k : Nat} (h : n < 10 ^ k) (hk : k ≤ 600) : Fit (n : Int) := by
 show (aaY n).length ≤ 600
 have h2 : (aaY n).length ≤ k + 1 := abT (zO h (zP zb zb))
 rcases zF k with h0 | h0
 ·omega
 ·have := (aa2 h0).2 h
  omega
theorem aKz {n : Int} {d : Nat} (hn : ad7 n) (hd : d ≠ 0) (h2 : d ≤ 9223372036854775807) : aw4 (n, (d : Int), ()) = some (fx (mkRat n d), ()) := by
 have hd2 : ad7 (d : Int) := ⟨by omega, by omega⟩
 unfold aw4
 rw [if_pos ⟨hn, hd2⟩]
 simp only [aGm hd (agY hn) (agY hd2)]
theorem aKr (n : Int) (y) (h : ar6 (n, ()) = some y) : (aBE n).toO = some y := by
 unfold ar6 at h
 split at h
 ·rename_i hp
  exact uC _ (aKz (d := 1) hp zb zb) h
 ·cases h
theorem ayS (n : Int) : mkRat n 1 = (n : Rat) := by rw [Rat.mkRat_eq_div, show ((1 : Nat) : Rat) = 1 from rfl]; grind
theorem aJ8 {n : Int} (h : ad7 n) : al4 (mkRat n 1) := aHg zb (agY h) (agY ⟨by omega, by omega⟩)
theorem aCi (p q : Rat) : aLd p q > 0 ↔ q < p := by
 unfold aLd
 split
 ·rename_i h; constructor
  ·intro h2; omega
  ·intro h2; exact absurd h2 (by grind)
 ·split
  ·rename_i h; subst h; simp
  ·rename_i h1 h2
   constructor
   ·intro _; rcases aNi p q with c | c | c
    ·exact absurd c h1
    ·exact absurd c h2
    ·exact c
   ·intro _; omega
abbrev zs : aIf := (0, 0, 0, 0, 0, 0, ())
set_option maxRecDepth 100000
open Go Go.Vg Go.Proofs
noncomputable section
def aAF : LTab := []
def aj4 (n : Bool × List Int × Unit) (d : Bool × List Int × Unit) : TT ug :=
 .ite (d.1)
 (.call (ag6 ((n.1, n.2.1, ()), ())) aiW fun y =>
 .call (ag6 ((d.1, d.2.1, ()), ())) aiW fun y1 =>
 .call (ad3 ((y.1.1, y.1.2.1, ()), (y1.1.1, y1.1.2.1, ()), ())) aiW fun y2 =>
 .call (aeK ((y.1.1, y.1.2.1, ()), (y2.1.1, y2.1.2.1, ()), ())) aOB fun y3 =>
 .call (aeK ((y1.1.1, y1.1.2.1, ()), (y2.1.1, y2.1.2.1, ()), ())) aOB fun y4 =>
 .ok ((((y3.1.1, y3.1.2.1, ()), (y4.1.1, y4.1.2.1, ()), ()), ())))
 (.call (ad3 ((n.1, n.2.1, ()), (d.1, d.2.1, ()), ())) aiW fun y5 =>
 .call (aeK ((n.1, n.2.1, ()), (y5.1.1, y5.1.2.1, ()), ())) aOB fun y6 =>
 .call (aeK ((d.1, d.2.1, ()), (y5.1.1, y5.1.2.1, ()), ())) aOB fun y7 =>
 .ok ((((y6.1.1, y6.1.2.1, ()), (y7.1.1, y7.1.2.1, ()), ()), ())))
def aDm : LTab := []
def atI (n : Int) (d : Int) : TT ug :=
 .call (ab8 (n, ())) aiW fun y =>
 .call (ab8 (d, ())) aiW fun y1 =>
 .call (aeH (y.1, y1.1, ())) aIC fun y2 =>
 .ok ((((y2.1.1.1, y2.1.1.2.1, ()), (y2.1.2.1.1, y2.1.2.1.2.1, ()), ()), ()))
def aDl : LTab := []
def amE (a : List UInt8 × List UInt8 × Unit) : TT ud :=
 .call (aeJ (a.1, ())) Dd1 fun y =>
 .ite (!y.1)
 (.ok ((false, ())))
 (.call (aeJ (a.2.1, ())) Dd1 fun y1 =>
 .ite (!y1.1)
 (.ok ((false, ())))
 (.call (akV (a.1, ())) aiW fun y2 =>
 .call (akV (a.2.1, ())) aiW fun y3 =>
 .ite (y3.1.1)
 (.ok ((false, ())))
 (.ite (len y3.1.2.1 == 0)
 (.ok ((false, ())))
 (.call (ad3 ((y2.1.1, y2.1.2.1, ()), (y3.1.1, y3.1.2.1, ()), ())) aiW fun y4 =>
 .call (aiP (y4.1, ())) Dd2 fun y5 =>
 .ok ((y5.1 == #[49].toList, ()))))))
def aLR : LTab := []
def aFy (a : List UInt8 × List UInt8 × Unit) : TT ug :=
 .call (akV (a.1, ())) aiW fun y =>
 .call (akV (a.2.1, ())) aiW fun y1 =>
 .ok ((((y.1.1, y.1.2.1, ()), (y1.1.1, y1.1.2.1, ()), ()), ()))
def aI3 : LTab := []
def aCa (r : vH × vH × Unit) : TT uo :=
 .call (alZ ((r.1.1, r.1.2.1, ()), ())) aMV fun y =>
 .call (alZ ((r.2.1.1, r.2.1.2.1, ()), ())) aMV fun y1 =>
 .ite (y.2.1 != 0)
 (.ok (((#[].toList, #[].toList, ()), 6, ())))
 (.ite (y1.2.1 != 0)
 (.ok (((#[].toList, #[].toList, ()), 6, ())))
 (.ok (((y.1, y1.1, ()), 0, ()))))
def aFw (a : vH × vH × Unit) (b : vH × vH × Unit) : TT ug :=
 .call (ad2 ((a.1.1, a.1.2.1, ()), (b.2.1.1, b.2.1.2.1, ()), ())) aiW fun y =>
 .call (ad2 ((b.1.1, b.1.2.1, ()), (a.2.1.1, a.2.1.2.1, ()), ())) aiW fun y1 =>
 .call (ae2 (y.1, y1.1, ())) aiW fun y2 =>
 .call (ad2 ((a.2.1.1, a.2.1.2.1, ()), (b.2.1.1, b.2.1.2.1, ()), ())) aiW fun y3 =>
 .call (aeH ((y2.1.1, y2.1.2.1, ()), y3.1, ())) aIC fun y4 =>
 .ok ((((y4.1.1.1, y4.1.1.2.1, ()), (y4.1.2.1.1, y4.1.2.1.2.1, ()), ()), ()))
def aDk : LTab := []
def atH (a : vH × vH × Unit) (b : vH × vH × Unit) : TT ug :=
 .call (ad2 ((a.1.1, a.1.2.1, ()), (b.1.1, b.1.2.1, ()), ())) aiW fun y =>
 .call (ad2 ((a.2.1.1, a.2.1.2.1, ()), (b.2.1.1, b.2.1.2.1, ()), ())) aiW fun y1 =>
 .call (aeH (y.1, y1.1, ())) aIC fun y2 =>
 .ok ((((y2.1.1.1, y2.1.1.2.1, ()), (y2.1.2.1.1, y2.1.2.1.2.1, ()), ()), ()))
def aLQ : LTab := []
def aAE (n : Int) (d : Int) : TT uo :=
 .ite (d == 0)
 (.ok (((#[].toList, #[].toList, ()), 7, ())))
 (.call (ajE (n, d, ())) aIC fun y =>
 .call (ajF (y.1, ())) aMU fun y1 =>
 .ok (((y1.1.1, y1.1.2.1, ()), y1.2.1, ())))
def aI5 (a : List UInt8 × List UInt8 × Unit) (b : List UInt8 × List UInt8 × Unit) : TT uo :=
 .call (adB ((a.1, a.2.1, ()), ())) Dd1 fun y =>
 .ite (!y.1)
 (.ok (((#[].toList, #[].toList, ()), 20, ())))
 (.call (adB ((b.1, b.2.1, ()), ())) Dd1 fun y1 =>
 .ite (!y1.1)
 (.ok (((#[].toList, #[].toList, ()), 20, ())))
 (.call (akU ((a.1, a.2.1, ()), ())) aIC fun y2 =>
 .call (akU ((b.1, b.2.1, ()), ())) aIC fun y3 =>
 .call (ar3 (y2.1, y3.1, ())) aIC fun y4 =>
 .call (ajF (y4.1, ())) aMU fun y5 =>
 .ok (((y5.1.1, y5.1.2.1, ()), y5.2.1, ()))))
def aI4 : LTab := []
def aCb (a : List UInt8 × List UInt8 × Unit) (b : List UInt8 × List UInt8 × Unit) : TT uo :=
 .call (adB ((a.1, a.2.1, ()), ())) Dd1 fun y =>
 .ite (!y.1)
 (.ok (((#[].toList, #[].toList, ()), 20, ())))
 (.call (adB ((b.1, b.2.1, ()), ())) Dd1 fun y1 =>
 .ite (!y1.1)
 (.ok (((#[].toList, #[].toList, ()), 20, ())))
 (.call (akU ((a.1, a.2.1, ()), ())) aIC fun y2 =>
 .call (akU ((b.1, b.2.1, ()), ())) aIC fun y3 =>
 .call (ajD (y2.1, y3.1, ())) aIC fun y4 =>
 .call (ajF (y4.1, ())) aMU fun y5 =>
 .ok (((y5.1.1, y5.1.2.1, ()), y5.2.1, ()))))
end
end Go.Vs
