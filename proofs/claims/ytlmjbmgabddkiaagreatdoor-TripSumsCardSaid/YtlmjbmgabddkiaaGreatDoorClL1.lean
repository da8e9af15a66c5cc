/-
  Trees of what the functions compute, and their laws. Own work; no condition.
-/
import Derived.Test.YtlmjbmgabddkiaaGreatDoorClX1
import Derived.Test.YtlmjbmgabddkiaaGreatDoorProg
set_option linter.unusedVariables false
set_option linter.unusedSimpArgs false
set_option maxRecDepth 100000
namespace Go.Vs
open Go Go.Vg Go.Proofs
noncomputable section
def aBZ (n : Int) : TT ux :=
 .call (axD (n, 1, ())) aoY fun y =>
 .ok (((y.1.1, y.1.2.1, ()), ()))
end
set_option maxRecDepth 100000
open Go Go.Vg Go.Proofs
noncomputable section
def aIO : LTab := [(178, 7, 9217, ⟨0, (Bool) × Unit, .dat (.s 3) (Ty.bool) <| .nil, [5, 4, 2], [0], 0⟩), (178, 122, 12289, ⟨1, (Int) × Unit, .dat (.s 23) vG <| .nil, [22, 5, 4, 2], [0], 0⟩)]
def axO (a : List UInt8) (y : List UInt8 × Bool × Unit) (j : Bool × Unit) (i : (Int) × Unit) : TT (vZ ⊕ (vK × Bool × Unit)) :=
 .ite (decide (i.1 < len y.1))
 (.need (inb i.1 (len y.1)) <| .ite (decide ((↑(UInt8.toNat (gi y.1 i.1 0)) : Int) < 48))
 (.ok (.inr ((([], false, ()), false, ()))))
 (.need (inb i.1 (len y.1)) <| .ite (decide ((↑(UInt8.toNat (gi y.1 i.1 0)) : Int) > 57))
 (.ok (.inr ((([], false, ()), false, ()))))
 (.tt <| .lt (w64 (i.1 + 1) : Int) fun z => .wZ (ve z (len y.1) y.2.1 y.1 <| vP ∧ True) <| .wZ uo <| .ok (.inl ((z, ()))))))
 (.need (asT Int 0 ≤ 0 ∧ 0 < len y.1) <| .ite ((↑(UInt8.toNat (gi y.1 0 0)) : Int) == 48)
 (.ite (y.2.1)
 (.ok (.inr ((([], false, ()), false, ()))))
 (.ite (decide (len y.1 > 1))
 (.ok (.inr ((([], false, ()), false, ()))))
 (.call (ahF (y.1, ())) Dd0 fun y1 =>
 .ok (.inr (((y1.1, y.2.1, ()), true, ()))))))
 (.call (ahF (y.1, ())) Dd0 fun y2 =>
 .ok (.inr (((y2.1, y.2.1, ()), true, ())))))
def aFh (a : List UInt8) (y : List UInt8 × Bool × Unit) (j : (Bool) × Unit) : TT (vK × Bool × Unit) :=
 .loop 1 (.tt <| .wZ (ve (0 : Int) (len y.1) y.2.1 y.1 <| vP ∧ True) <| .wZ uo <| .ok ((0, ()))) (axO a y j)
def avK (a : List UInt8) : TT (vK × Bool × Unit) :=
 .call (abW (a, #[45].toList, ())) Dd7 fun y =>
 .join 0 (ι := (Bool) × Unit) (.ite (len y.1 == 0)
 (.ok (.inr ((([], false, ()), false, ()))))
 (.ite (decide (len y.1 > 600))
 (.ok (.inr ((([], false, ()), false, ()))))
 (.tt <| .wZ (vl false y.2.1 y.1 <| vP ∧ True) <| .wZ uo <| .ok (.inl ((false, ())))))) (aFh a y)
def aFj : LTab := []
def apM (a : List UInt8) : TT vU :=
 .call (ah4 (a, ())) Dd9 fun y =>
 .ite (!y.2.1)
 (.ok ((10, ())))
 (.ok ((0, ())))
def aM6 : LTab := []
def aKH (n : Int) : TT ub :=
 .call (au7 (n, ())) Dd2 fun y =>
 .ok ((y.1, ()))
def aFi (a : List UInt8) (b : List UInt8) : TT (List UInt8 × Int × Unit) :=
 .tt <| .tt <| .call (apJ (a, b, ())) aPo fun y =>
 .ite (y.2.2.1 != 0)
 (.ok ((#[].toList, y.2.2.1, ())))
 (.triv (asT Int 0 ≤ 2 ∧ 2 < (↑4 : Int)) zf <| .call (aoU ((y.1.1, y.1.2.1, ()), (y.2.1.1, y.2.1.2.1, ()), ())) Dd5 fun y1 =>
 .call (aAs (y1.1, ())) aO4 fun y2 =>
 .ok ((y2.1, y2.2.1, ())))
def aKj : LTab := []
def awN (a : List UInt8 × List UInt8 × Unit) : TT ((vK × List Int × Unit) × Bool × Unit) :=
 .call (afJ (a.1, ())) Dd6 fun y =>
 .ite (y.1 != 0)
 (.ok (((([], false, ()), [], ()), false, ())))
 (.call (afJ (a.2.1, ())) Dd6 fun y1 =>
 .ite (y1.1 != 0)
 (.ok (((([], false, ()), [], ()), false, ())))
 (.call (ae0 (a.1, ())) Dd5 fun y2 =>
 .call (ae0 (a.2.1, ())) Dd5 fun y3 =>
 .call (ahK ((y3.1.1, y3.1.2.1, ()), ())) Dd6 fun y4 =>
 .ite (decide (y4.1 < 1))
 (.ok (((([], false, ()), [], ()), false, ())))
 (.call (afU (y2.1.1, y3.1.1, ())) Dd0 fun y5 =>
 .call (adG (y5.1, [1], ())) Dd6 fun y6 =>
 .ite (y6.1 != 0)
 (.ok (((([], false, ()), [], ()), false, ())))
 (.ok ((((y2.1.1, y2.1.2.1, ()), y3.1.1, ()), true, ()))))))
def aHw : LTab := []
def arM (a : List UInt8 × List UInt8 × Unit) : TT vU :=
 .call (acE ((a.1, a.2.1, ()), ())) aIM fun y =>
 .ite (!y.2.1)
 (.ok ((20, ())))
 (.ok ((0, ())))
def aKm : LTab := []
def awQ (n : List UInt8) (d : List UInt8) : TT ua :=
 .call (afJ (n, ())) Dd6 fun y =>
 .ite (y.1 != 0)
 (.ok (((#[].toList, #[].toList, ()), 10, ())))
 (.call (afJ (d, ())) Dd6 fun y1 =>
 .ite (y1.1 != 0)
 (.ok (((#[].toList, #[].toList, ()), 10, ())))
 (.call (ae0 (n, ())) Dd5 fun y2 =>
 .call (ae0 (d, ())) Dd5 fun y3 =>
 .call (adF (y3.1.1, ())) Dd1 fun y4 =>
 .ite (y4.1)
 (.ok (((#[].toList, #[].toList, ()), 7, ())))
 (.call (abR (y2.1.1, !y2.1.2.1 == y3.1.2.1, ())) Dd5 fun y5 =>
 .call (ah5 (y5.1, y3.1.1, ())) Dd8 fun y6 =>
 .call (aeZ (y6.1, ())) avF fun y7 =>
 .ok (((y7.1.1, y7.1.2.1, ()), y7.2.1, ())))))
def aN0 : LTab := []
def aLx (n : Int) (d : Int) : TT ua :=
 .call (asH (n, ())) Dd2 fun y =>
 .call (asH (d, ())) Dd2 fun y1 =>
 .call (amI (y.1, y1.1, ())) avF fun y2 =>
 .ok (((y2.1.1, y2.1.2.1, ()), y2.2.1, ()))
def aKk : LTab := []
def awP (a : List UInt8 × List UInt8 × Unit) : TT vO :=
 .call (acE ((a.1, a.2.1, ()), ())) aIM fun y =>
 .ite (!y.2.1)
 (.ok ((0, 20, ())))
 (.call (ahK ((y.1.1.1, y.1.1.2.1, ()), ())) Dd6 fun y1 =>
 .ok ((y1.1, 0, ())))
def aMt : LTab := []
def aBE (a : List UInt8 × List UInt8 × Unit) (b : List UInt8 × List UInt8 × Unit) : TT vO :=
 .tt <| .tt <| .call (acE ((a.1, a.2.1, ()), ())) aIM fun y =>
 .call (acE ((b.1, b.2.1, ()), ())) aIM fun y1 =>
 .ite (!y.2.1)
 (.ok ((0, 20, ())))
 (.ite (!y1.2.1)
 (.ok ((0, 20, ())))
 (.call (ajU (((y.1.1.1, y.1.1.2.1, ()), y.1.2.1, ()), ((y1.1.1.1, y1.1.1.2.1, ()), y1.1.2.1, ()), ())) Dd6 fun y2 =>
 .ok ((y2.1, 0, ()))))
def aMu : LTab := []
def aBG (a : List UInt8 × List UInt8 × Unit) (b : List UInt8 × List UInt8 × Unit) : TT ua :=
 .tt <| .tt <| .call (acE ((a.1, a.2.1, ()), ())) aIM fun y =>
 .call (acE ((b.1, b.2.1, ()), ())) aIM fun y1 =>
 .ite (!y.2.1)
 (.tt <| .tt <| .ok (((#[].toList, #[].toList, ()), 20, ())))
 (.ite (!y1.2.1)
 (.tt <| .tt <| .ok (((#[].toList, #[].toList, ()), 20, ())))
 (.call (amE (((y.1.1.1, y.1.1.2.1, ()), y.1.2.1, ()), ((y1.1.1.1, y1.1.1.2.1, ()), y1.1.2.1, ()), ())) Dd8 fun y2 =>
 .tt <| .tt <| .call (aeZ (((y2.1.1.1, y2.1.1.2.1, ()), y2.1.2.1, ()), ())) avF fun y3 =>
 .ok (((y3.1.1, y3.1.2.1, ()), y3.2.1, ()))))
def aMr : LTab := []
def aBC (a : List UInt8 × List UInt8 × Unit) (b : List UInt8 × List UInt8 × Unit) : TT ua :=
 .tt <| .tt <| .call (acE ((a.1, a.2.1, ()), ())) aIM fun y =>
 .call (acE ((b.1, b.2.1, ()), ())) aIM fun y1 =>
 .ite (!y.2.1)
 (.tt <| .tt <| .ok (((#[].toList, #[].toList, ()), 20, ())))
 (.ite (!y1.2.1)
 (.tt <| .tt <| .ok (((#[].toList, #[].toList, ()), 20, ())))
 (.call (amD (((y.1.1.1, y.1.1.2.1, ()), y.1.2.1, ()), ((y1.1.1.1, y1.1.1.2.1, ()), y1.1.2.1, ()), ())) Dd8 fun y2 =>
 .tt <| .tt <| .call (aeZ (((y2.1.1.1, y2.1.1.2.1, ()), y2.1.2.1, ()), ())) avF fun y3 =>
 .ok (((y3.1.1, y3.1.2.1, ()), y3.2.1, ()))))
def aMs : LTab := []
def aBD (a : List UInt8 × List UInt8 × Unit) (b : List UInt8 × List UInt8 × Unit) : TT ua :=
 .call (acE ((a.1, a.2.1, ()), ())) aIM fun y =>
 .call (acE ((b.1, b.2.1, ()), ())) aIM fun y1 =>
 .ite (!y.2.1)
 (.ok (((#[].toList, #[].toList, ()), 20, ())))
 (.ite (!y1.2.1)
 (.ok (((#[].toList, #[].toList, ()), 20, ())))
 (.call (adF (y1.1.1.1, ())) Dd1 fun y2 =>
 .ite (y2.1)
 (.ok (((#[].toList, #[].toList, ()), 7, ())))
 (.call (agV (((y1.1.1.1, y1.1.1.2.1, ()), y1.1.2.1, ()), ())) Dd8 fun y3 =>
 .call (amD (((y.1.1.1, y.1.1.2.1, ()), y.1.2.1, ()), y3.1, ())) Dd8 fun y4 =>
 .call (aeZ (y4.1, ())) avF fun y5 =>
 .ok (((y5.1.1, y5.1.2.1, ()), y5.2.1, ())))))
end
set_option maxRecDepth 100000
open Go Go.Vg Go.Proofs
noncomputable section
def aEw : LTab := []
def auS (m : List Int) (negative : Bool) : TT (vK × Unit) :=
 .ite (negative)
 (.call (adF (m, ())) Dd1 fun y =>
 .ok (((m, !y.1, ()), ())))
 (.ok (((m, false, ()), ())))
def awL : LTab := []
def al0 (n : List Int × Bool × Unit) : TT (vK × Unit) :=
 .call (abR (n.1, !n.2.1, ())) Dd5 fun y =>
 .ok (((y.1.1, y.1.2.1, ()), ()))
def aHr : LTab := []
def arI (n : List Int × Bool × Unit) : TT vU :=
 .call (adF (n.1, ())) Dd1 fun y =>
 .ite (y.1)
 (.ok ((0, ())))
 (.ite (n.2.1)
 (.ok ((-1, ())))
 (.ok ((1, ()))))
def aHq : LTab := []
def arH (n : List Int × Bool × Unit) : TT ub :=
 .ite (n.2.1)
 (.call (agI (n.1, ())) Dd2 fun y =>
 .need (List.length #[45].toList + List.length y.1 ≤ lim) <| .ok ((#[45].toList ++ y.1, ())))
 (.call (agI (n.1, ())) Dd2 fun y1 =>
 .ok ((y1.1, ())))
def aKi : LTab := []
def awJ (n : List Int × Bool × Unit) (o : List Int × Bool × Unit) : TT (vK × Unit) :=
 .ite (n.2.1 == o.2.1)
 (.call (amF (n.1, o.1, ())) Dd0 fun y =>
 .call (abR (y.1, n.2.1, ())) Dd5 fun y1 =>
 .ok (((y1.1.1, y1.1.2.1, ()), ())))
 (.call (adG (n.1, o.1, ())) Dd6 fun y2 =>
 .ite (decide (y2.1 < 0))
 (.call (ahJ (o.1, n.1, ())) Dd0 fun y3 =>
 .call (abR (y3.1, o.2.1, ())) Dd5 fun y4 =>
 .ok (((y4.1.1, y4.1.2.1, ()), ())))
 (.call (ahJ (n.1, o.1, ())) Dd0 fun y5 =>
 .call (abR (y5.1, n.2.1, ())) Dd5 fun y6 =>
 .ok (((y6.1.1, y6.1.2.1, ()), ()))))
def aBA : LTab := []
def akU (n : List Int × Bool × Unit) (m : List Int) : TT (vK × Unit) :=
 .call (acZ (n.1, m, ())) Dd0 fun y =>
 .call (abR (y.1, n.2.1, ())) Dd5 fun y1 =>
 .ok (((y1.1.1, y1.1.2.1, ()), ()))
def aEy : LTab := []
def auT (a : List UInt8) : TT (vK × Unit) :=
 .call (abW (a, #[45].toList, ())) Dd7 fun y =>
 .call (af0 (y.1, ())) Dd0 fun y1 =>
 .ok (((y1.1, y.2.1, ()), ()))
def aBP : LTab := []
def ak0 (s : List UInt8) (prefix0 : List UInt8) : TT (List UInt8 × Bool × Unit) :=
 .tt <| .tt <| .tt <| .tt <| .ite (decide (len s ≥ len prefix0))
 (.need (inc (len prefix0) (len s)) <| .ite (!List.take (Int.toNat (len prefix0)) s == prefix0)
 (.ok ((s, false, ())))
 (.need (inc (len prefix0) (len s)) <| .ok ((List.take (List.length s - Int.toNat (len prefix0)) (List.drop (Int.toNat (len prefix0)) s), true, ()))))
 (.ok ((s, false, ())))
def aEm : LTab := []
def anE (x : vK × List Int × Unit) : TT ua :=
 .call (agH (x.1.1, ())) Dd6 fun y =>
 .ite (decide (y.1 > 600))
 (.ok (((#[].toList, #[].toList, ()), 6, ())))
 (.call (agH (x.2.1, ())) Dd6 fun y1 =>
 .ite (decide (y1.1 > 600))
 (.ok (((#[].toList, #[].toList, ()), 6, ())))
 (.call (amG ((x.1.1, x.1.2.1, ()), ())) Dd2 fun y2 =>
 .call (agI (x.2.1, ())) Dd2 fun y3 =>
 .ok (((y2.1, y3.1, ()), 0, ()))))
def aBB : LTab := []
def akV (n : List Int × Bool × Unit) (d : List Int) : TT ue :=
 .call (afU (n.1, d, ())) Dd0 fun y =>
 .call (abH (n.1, y.1, ())) Dd4 fun y1 =>
 .call (abH (d, y.1, ())) Dd4 fun y2 =>
 .call (abR (y1.1, n.2.1, ())) Dd5 fun y3 =>
 .ok ((((y3.1.1, y3.1.2.1, ()), y2.1, ()), ()))
def aKf : LTab := []
def awE (x : vK × List Int × Unit) (y : vK × List Int × Unit) : TT ue :=
 .call (afU (x.2.1, y.2.1, ())) Dd0 fun y1 =>
 .call (abH (y.2.1, y1.1, ())) Dd4 fun y2 =>
 .call (abH (x.2.1, y1.1, ())) Dd4 fun y3 =>
 .call (ad6 ((x.1.1, x.1.2.1, ()), y2.1, ())) Dd5 fun y4 =>
 .call (ad6 ((y.1.1, y.1.2.1, ()), y3.1, ())) Dd5 fun y5 =>
 .call (amH (y4.1, y5.1, ())) Dd5 fun y6 =>
 .call (afU (y6.1.1, y1.1, ())) Dd0 fun y7 =>
 .call (abH (y6.1.1, y7.1, ())) Dd4 fun y8 =>
 .call (abH (y.2.1, y7.1, ())) Dd4 fun y9 =>
 .call (abR (y8.1, y6.1.2.1, ())) Dd5 fun y10 =>
 .call (acZ (y3.1, y9.1, ())) Dd0 fun y11 =>
 .ok ((((y10.1.1, y10.1.2.1, ()), y11.1, ()), ()))
def aKd (x : vK × List Int × Unit) (y : vK × List Int × Unit) : TT ue :=
 .call (aoV (((y.1.1, y.1.2.1, ()), y.2.1, ()), ())) Dd8 fun y1 =>
 .call (amE (((x.1.1, x.1.2.1, ()), x.2.1, ()), y1.1, ())) Dd8 fun y2 =>
 .ok ((((y2.1.1.1, y2.1.1.2.1, ()), y2.1.2.1, ()), ()))
def aKe : LTab := []
def awD (x : vK × List Int × Unit) (y : vK × List Int × Unit) : TT ue :=
 .call (afU (x.1.1, y.2.1, ())) Dd0 fun y1 =>
 .call (afU (y.1.1, x.2.1, ())) Dd0 fun y2 =>
 .call (abH (x.1.1, y1.1, ())) Dd4 fun y3 =>
 .call (abH (x.2.1, y2.1, ())) Dd4 fun y4 =>
 .call (abH (y.1.1, y2.1, ())) Dd4 fun y5 =>
 .call (abH (y.2.1, y1.1, ())) Dd4 fun y6 =>
 .call (acZ (y3.1, y5.1, ())) Dd0 fun y7 =>
 .call (abR (y7.1, !x.1.2.1 == y.1.2.1, ())) Dd5 fun y8 =>
 .call (acZ (y4.1, y6.1, ())) Dd0 fun y9 =>
 .ok ((((y8.1.1, y8.1.2.1, ()), y9.1, ()), ()))
def azP : LTab := []
def aoJ (x : vK × List Int × Unit) : TT ue :=
 .call (abR (x.2.1, x.1.2.1, ())) Dd5 fun y =>
 .ok ((((y.1.1, y.1.2.1, ()), x.1.1, ()), ()))
def aEn : LTab := []
def anF (x : vK × List Int × Unit) (y : vK × List Int × Unit) : TT vU :=
 .call (ad6 ((x.1.1, x.1.2.1, ()), y.2.1, ())) Dd5 fun y1 =>
 .call (ad6 ((y.1.1, y.1.2.1, ()), x.2.1, ())) Dd5 fun y2 =>
 .call (afV (y2.1, ())) Dd5 fun y3 =>
 .call (amH (y1.1, y3.1, ())) Dd5 fun y4 =>
 .call (ahK (y4.1, ())) Dd6 fun y5 =>
 .ok ((y5.1, ()))
end
set_option maxRecDepth 100000
open Go Go.Vg Go.Proofs
noncomputable section
def aHh : LTab := []
def aq5 (m : List Int) : TT uc :=
 .ok ((len m == 0, ()))
def aHi : LTab := [(132, 12, 1025, ⟨0, (List Int) × Unit, .dat (.s 0) uk <| .nil, [2], [], 0⟩)]
def auN (m : List Int) (i : (List Int) × Unit) : TT (((List Int) × Unit) ⊕ vL) :=
 .ite (decide (len i.1 > 0))
 (.need (inb (w64 (len i.1 - 1)) (len i.1)) <| .ite (gi i.1 (w64 (len i.1 - 1)) 0 == 0)
 (.need (inc (w64 (len i.1 - 1)) (len i.1)) <| .tt <| .lt (List.take (Int.toNat (w64 (len i.1 - 1))) i.1 : List Int) fun z => .wZ (vj z <| True ∧ True) <| .tr <| .ok (.inl ((z, ()))))
 (.ok (.inr ((i.1, ())))))
 (.ok (.inr ((i.1, ()))))
def aq6 (m : List Int) : TT vL :=
 .loop 0 (.tt <| .wZ (vj m <| True ∧ True) <| .tr <| .ok ((m, ()))) (auN m)
def aEr : LTab := [(180, 58, 6144, ⟨0, (Int) × (Int) × Unit, .dat (.s 4) vG <| .dat (.s 3) vV <| .nil, [2, 0], [], 0⟩)]
def aq9 (m : List Int) (i : (Int) × (Int) × Unit) : TT (vR ⊕ vU) :=
 .ite (decide (i.1 ≥ 0))
 (.need (inb i.1 (len m)) <| .tt <| .lt (w64 (i.1 - 1) : Int) fun z1 => .lt (abP (abP (i.2.1 * 1000000000) + abP (gi m i.1 0)) : Int) fun z2 => .wZ (vo z2 z1 (0 : Int) m) <| .tr <| .ok (.inl ((z1, z2, ()))))
 (.ok (.inr ((i.2.1, ()))))
def auO (m : List Int) : TT vU :=
 .loop 0 (.tt <| .lt (w64 (len m - 1) : Int) fun z => .wZ (vo (0 : Int) z (0 : Int) m) <| .tr <| .ok ((z, 0, ()))) (aq9 m)
def azX : LTab := [(126, 58, 10240, ⟨0, (Int) × Unit, .dat (.s 5) vG <| .nil, [0, 1], [], 0⟩)]
def alZ (m : List Int) (o : List Int) (i : (Int) × Unit) : TT (vZ ⊕ vU) :=
 .ite (decide (i.1 ≥ 0))
 (.need (inb i.1 (len m)) <| .need (inb i.1 (len o)) <| .ite (gi m i.1 0 != gi o i.1 0)
 (.need (inb i.1 (len m)) <| .need (inb i.1 (len o)) <| .tt <| .tt <| .tt <| .tt <| .tt <| .tt <| .ite (gi m i.1 0 != gi m i.1 0)
 (.ite (gi o i.1 0 != gi o i.1 0)
 (.ok (.inr ((0, ()))))
 (.ok (.inr ((-1, ())))))
 (.ite (gi o i.1 0 != gi o i.1 0)
 (.ok (.inr ((1, ()))))
 (.ite (decide (gi m i.1 0 < gi o i.1 0))
 (.ok (.inr ((-1, ()))))
 (.ite (decide (gi m i.1 0 > gi o i.1 0))
 (.ok (.inr ((1, ()))))
 (.ok (.inr ((0, ()))))))))
 (.tt <| .lt (w64 (i.1 - 1) : Int) fun z1 => .wZ (vq z1 m o) <| .tr <| .ok (.inl ((z1, ())))))
 (.ok (.inr ((0, ()))))
def aiQ (m : List Int) (o : List Int) : TT vU :=
 .ite (len m != len o)
 (.tt <| .tt <| .tt <| .tt <| .tt <| .tt <| .ite (len m != len m)
 (.ite (len o != len o)
 (.ok ((0, ())))
 (.ok ((-1, ()))))
 (.ite (len o != len o)
 (.ok ((1, ())))
 (.ite (decide (len m < len o))
 (.ok ((-1, ())))
 (.ite (decide (len m > len o))
 (.ok ((1, ())))
 (.ok ((0, ())))))))
 (.loop 0 (.tt <| .lt (w64 (len m - 1) : Int) fun z => .wZ (vq z m o) <| .tr <| .ok ((z, ()))) (alZ m o))
def aHj : LTab := [(184, 3, 1025, ⟨0, (List Int) × (List Int) × Unit, .dat (.s 0) uk <| .dat (.s 1) uk <| .nil, [4], [], 0⟩), (184, 250, 10241, ⟨1, (Int) × (Int) × (List Int) × Unit, .dat (.s 22) vG <| .dat (.s 6) vI <| .app (.s 5) 10 180 vI <| .nil, [21, 20, 1, 4], [], 1⟩)]
def auP (m : List Int) (o : List Int) (j : List Int × List Int × Unit) (i : (Int) × (Int) × (List Int) × Unit) : TT (vS ⊕ vL) :=
 .ite (decide (i.1 < len j.1))
 (.need (inb i.1 (len j.1)) <| .ite (decide (i.1 < len j.2.1))
 (.need (inb i.1 (len j.2.1)) <| .ite (decide (adR (adR (gi j.1 i.1 0 + i.2.1) + gi j.2.1 i.1 0) ≥ 1000000000))
 (.need ((List.length i.2.2.1 + 1) * 4 ≤ 140737488355328) <| .tt <| .lt (w64 (i.1 + 1) : Int) fun z1 => .lt (List.take (List.length i.2.2.1) i.2.2.1 ++ [adR (adR (adR (gi j.1 i.1 0 + i.2.1) + gi j.2.1 i.1 0) - 1000000000)] : List Int) fun z2 => .need ((((10) = (10)) ∧ (((0) = (0)) ∧ ((List.length i.2.2.1 + 1 = List.length z2) ∧ ((true) = (true))))) ∧ ((1 : Int) = 1) ∧ ((z1 : Int) = z1) ∧ ((len j.1 : Int) = len j.1) ∧ ((j.1 : List Int) = j.1) ∧ ((j.2.1 : List Int) = j.2.1) ∧ True ∧ True) <| .wZ (wY (vt 180 z2) True) <| .ok (.inl ((z1, 1, z2, ()))))
 (.need ((List.length i.2.2.1 + 1) * 4 ≤ 140737488355328) <| .tt <| .lt (w64 (i.1 + 1) : Int) fun z3 => .lt (List.take (List.length i.2.2.1) i.2.2.1 ++ [adR (adR (gi j.1 i.1 0 + i.2.1) + gi j.2.1 i.1 0)] : List Int) fun z4 => .need ((((10) = (10)) ∧ (((0) = (0)) ∧ ((List.length i.2.2.1 + 1 = List.length z4) ∧ ((true) = (true))))) ∧ ((0 : Int) = 0) ∧ ((z3 : Int) = z3) ∧ ((len j.1 : Int) = len j.1) ∧ ((j.1 : List Int) = j.1) ∧ ((j.2.1 : List Int) = j.2.1) ∧ True ∧ True) <| .wZ (wY (vt 180 z4) True) <| .ok (.inl ((z3, 0, z4, ())))))
 (.ite (decide (adR (gi j.1 i.1 0 + i.2.1) ≥ 1000000000))
 (.need ((List.length i.2.2.1 + 1) * 4 ≤ 140737488355328) <| .tt <| .lt (w64 (i.1 + 1) : Int) fun z5 => .lt (List.take (List.length i.2.2.1) i.2.2.1 ++ [adR (adR (gi j.1 i.1 0 + i.2.1) - 1000000000)] : List Int) fun z6 => .need ((((10) = (10)) ∧ (((0) = (0)) ∧ ((List.length i.2.2.1 + 1 = List.length z6) ∧ ((true) = (true))))) ∧ ((1 : Int) = 1) ∧ ((z5 : Int) = z5) ∧ ((len j.1 : Int) = len j.1) ∧ ((j.1 : List Int) = j.1) ∧ ((j.2.1 : List Int) = j.2.1) ∧ True ∧ True) <| .wZ (wY (vt 180 z6) True) <| .ok (.inl ((z5, 1, z6, ()))))
 (.need ((List.length i.2.2.1 + 1) * 4 ≤ 140737488355328) <| .tt <| .lt (w64 (i.1 + 1) : Int) fun z7 => .lt (List.take (List.length i.2.2.1) i.2.2.1 ++ [adR (gi j.1 i.1 0 + i.2.1)] : List Int) fun z8 => .need ((((10) = (10)) ∧ (((0) = (0)) ∧ ((List.length i.2.2.1 + 1 = List.length z8) ∧ ((true) = (true))))) ∧ ((0 : Int) = 0) ∧ ((z7 : Int) = z7) ∧ ((len j.1 : Int) = len j.1) ∧ ((j.1 : List Int) = j.1) ∧ ((j.2.1 : List Int) = j.2.1) ∧ True ∧ True) <| .wZ (wY (vt 180 z8) True) <| .ok (.inl ((z7, 0, z8, ()))))))
 (.ite (decide (i.2.1 > 0))
 (.need ((List.length i.2.2.1 + 1) * 4 ≤ 140737488355328) <| .ok (.inr ((List.take (List.length i.2.2.1 + 1) (List.take (List.length i.2.2.1) i.2.2.1 ++ [i.2.1]), ()))))
 (.ok (.inr ((List.take (List.length i.2.2.1) i.2.2.1, ())))))
def anI (m : List Int) (o : List Int) (j : (List Int) × (List Int) × Unit) : TT vL :=
 .need (asT Int 0 ≤ 0 ∧ 0 ≤ w64 (len j.1 + 1) ∧ w64 (len j.1 + 1) * (↑4 : Int) ≤ 140737488355328) <| .loop 1 (.tt <| .lt (List.replicate (Int.toNat 0) 0 : List Int) fun z => .wZ ((vu 10 0 0 true) ∧ (vw (0 : Int) (0 : Int) (len j.1) j.1 j.2.1 <| True ∧ True)) <| .wZ (wY (vt 180 z) True) <| .ok ((0, 0, z, ()))) (auP m o j)
def arA (m : List Int) (o : List Int) : TT vL :=
 .join 0 (ι := (List Int) × (List Int) × Unit) (.ite (decide (len m < len o))
 (.tt <| .wZ (vz m o <| True ∧ True) <| .tr <| .ok (.inl ((o, m, ()))))
 (.tt <| .wZ (vz o m <| True ∧ True) <| .tr <| .ok (.inl ((m, o, ()))))) (anI m o)
def aEt : LTab := [(185, 122, 9217, ⟨0, (Int) × (Int) × (List Int) × Unit, .dat (.s 15) vG <| .dat (.s 6) vI <| .row 3 vI <| .nil, [14, 13, 5, 4, 1], [3], 0⟩)]
def arB (m : List Int) (o : List Int) (i : (Int) × (Int) × (List Int) × Unit) : TT (vS ⊕ vL) :=
 .ite (decide (i.1 < len m))
 (.need (inb i.1 (len m)) <| .ite (decide (i.1 < len o))
 (.need (inb i.1 (len o)) <| .ite (decide (gi m i.1 0 < adR (i.2.1 + gi o i.1 0)))
 (.need (inb i.1 (↑(Int.toNat (len m)) : Int)) <| .tt <| .lt (w64 (i.1 + 1) : Int) fun z1 => .lt (List.set i.2.2.1 (0 + Int.toNat i.1) (adR (adR (gi m i.1 0 + 1000000000) - adR (i.2.1 + gi o i.1 0))) : List Int) fun z2 => .wZ (ve (1 : Int) z1 (len m) m <| (vu 3 0 (Int.toNat (len m)) true) ∧ True ∧ vk o) <| .wZ (wY (vt 180 z2) True) <| .ok (.inl ((z1, 1, z2, ()))))
 (.need (inb i.1 (↑(Int.toNat (len m)) : Int)) <| .tt <| .lt (w64 (i.1 + 1) : Int) fun z3 => .lt (List.set i.2.2.1 (0 + Int.toNat i.1) (adR (gi m i.1 0 - adR (i.2.1 + gi o i.1 0))) : List Int) fun z4 => .wZ (ve (0 : Int) z3 (len m) m <| (vu 3 0 (Int.toNat (len m)) true) ∧ True ∧ vk o) <| .wZ (wY (vt 180 z4) True) <| .ok (.inl ((z3, 0, z4, ())))))
 (.ite (decide (gi m i.1 0 < i.2.1))
 (.need (inb i.1 (↑(Int.toNat (len m)) : Int)) <| .tt <| .lt (w64 (i.1 + 1) : Int) fun z5 => .lt (List.set i.2.2.1 (0 + Int.toNat i.1) (adR (adR (gi m i.1 0 + 1000000000) - i.2.1)) : List Int) fun z6 => .wZ (ve (1 : Int) z5 (len m) m <| (vu 3 0 (Int.toNat (len m)) true) ∧ True ∧ vk o) <| .wZ (wY (vt 180 z6) True) <| .ok (.inl ((z5, 1, z6, ()))))
 (.need (inb i.1 (↑(Int.toNat (len m)) : Int)) <| .tt <| .lt (w64 (i.1 + 1) : Int) fun z7 => .lt (List.set i.2.2.1 (0 + Int.toNat i.1) (adR (gi m i.1 0 - i.2.1)) : List Int) fun z8 => .wZ (ve (0 : Int) z7 (len m) m <| (vu 3 0 (Int.toNat (len m)) true) ∧ True ∧ vk o) <| .wZ (wY (vt 180 z8) True) <| .ok (.inl ((z7, 0, z8, ()))))))
 (.call (acD (List.take (Int.toNat (len m)) i.2.2.1, ())) Dd0 fun y =>
 .ok (.inr ((y.1, ()))))
def anJ (m : List Int) (o : List Int) : TT vL :=
 .need (0 ≤ len m ∧ len m ≤ len m ∧ len m * (↑4 : Int) ≤ 140737488355328) <| .loop 0 (.tt <| .lt (List.replicate (Int.toNat (len m)) 0 : List Int) fun z => .wZ (ve (0 : Int) (0 : Int) (len m) m <| (vu 3 0 (Int.toNat (len m)) true) ∧ True ∧ vk o) <| .wZ (wY (vt 180 z) True) <| .ok ((0, 0, z, ()))) (arB m o)
def aEq : LTab := [(128, 58, 11265, ⟨0, (Int) × (List Int) × Unit, .dat (.s 19) vG <| .row 6 vI <| .nil, [18, 17, 5, 4, 1], [6], 0⟩), (128, 59802, 21505, ⟨1, (Int) × (Int) × (List Int) × Unit, .dat (.s 26) vG <| .dat (.s 8) vV <| .row 6 vI <| .nil, [25, 24, 7, 6, 23, 22, 21, 20, 19, 18, 17, 5, 4, 1], [6], 0⟩)]
def akQ (m : List Int) (o : List Int) (i : Int × List Int × Unit) (i1 : (Int) × (Int) × (List Int) × Unit) : TT (vS ⊕ ug) :=
 .ite (decide (i1.1 < len o))
 (.need (inb i1.1 (len o)) <| .need (inb (w64 (i.1 + i1.1)) (↑(Int.toNat (w64 (len m + len o))) : Int)) <| .triv (asT Int 1000000000 ≠ 0) zf <| .need (inb (w64 (i.1 + i1.1)) (↑(Int.toNat (w64 (len m + len o))) : Int)) <| .triv (asT Int 1000000000 ≠ 0) zf <| .tt <| .lt (w64 (i1.1 + 1) : Int) fun z2 => .lt (abP (Int.tdiv (abP (i1.2.1 + abP (abP (List.getD i1.2.2.1 (0 + Int.toNat (w64 (i.1 + i1.1))) 0) + abP (abP (gi m i.1 0) * abP (gi o i1.1 0))))) 1000000000) : Int) fun z3 => .lt (List.set i1.2.2.1 (0 + Int.toNat (w64 (i.1 + i1.1))) (adR (Int.tmod (abP (i1.2.1 + abP (abP (List.getD i1.2.2.1 (0 + Int.toNat (w64 (i.1 + i1.1))) 0) + abP (abP (gi m i.1 0) * abP (gi o i1.1 0))))) 1000000000)) : List Int) fun z4 => .wZ (vA z3 z2 (len o) o (gi m i.1 0) i.1 (gi m i.1 0) (gi m i.1 0) <| vw i.1 (decide (i.1 < len m)) i.1 (len m) m <| (vu 6 0 (Int.toNat (w64 (len m + len o))) true) ∧ True ∧ vk o) <| .wZ (wY (vt 180 z4) True) <| .ok (.inl ((z2, z3, z4, ()))))
 (.need (inb (w64 (i.1 + len o)) (↑(Int.toNat (w64 (len m + len o))) : Int)) <| .tt <| .lt (w64 (i.1 + 1) : Int) fun z5 => .lt (List.set i1.2.2.1 (0 + Int.toNat (w64 (i.1 + len o))) (adR i1.2.1) : List Int) fun z6 => .wZ (vl z5 (len m) m <| (vu 6 0 (Int.toNat (w64 (len m + len o))) true) ∧ True ∧ vk o) <| .wZ (wY (vt 180 z6) True) <| .ok (.inr (.inl ((z5, z6, ())))))
def aq8 (m : List Int) (o : List Int) (i : (Int) × (List Int) × Unit) : TT ug :=
 .ite (decide (i.1 < len m))
 (.need (inb i.1 (len m)) <| .loop 1 (.tt <| .lt (i.2.1 : List Int) fun z1 => .wZ (vA (0 : Int) (0 : Int) (len o) o (gi m i.1 0) i.1 (gi m i.1 0) (gi m i.1 0) <| vw i.1 (decide (i.1 < len m)) i.1 (len m) m <| (vu 6 0 (Int.toNat (w64 (len m + len o))) true) ∧ True ∧ vk o) <| .wZ (wY (vt 180 z1) True) <| .ok ((0, 0, z1, ()))) (akQ m o i))
 (.call (acD (List.take (Int.toNat (w64 (len m + len o))) i.2.1, ())) Dd0 fun y =>
 .ok (.inr ((y.1, ()))))
def anG (m : List Int) (o : List Int) : TT vL :=
 .need (0 ≤ w64 (len m + len o) ∧ w64 (len m + len o) ≤ w64 (len m + len o) ∧ w64 (len m + len o) * (↑4 : Int) ≤ 140737488355328) <| .loop 0 (.tt <| .lt (List.replicate (Int.toNat (w64 (len m + len o))) 0 : List Int) fun z => .wZ (vl (0 : Int) (len m) m <| (vu 6 0 (Int.toNat (w64 (len m + len o))) true) ∧ True ∧ vk o) <| .wZ (wY (vt 180 z) True) <| .ok ((0, z, ()))) (aq8 m o)
def aEs : LTab := [(195, 122, 11265, ⟨0, (Int) × (Int) × (List Int) × Unit, .dat (.s 8) vG <| .dat (.s 7) vV <| .row 4 vI <| .nil, [6, 5, 4, 0, 1], [4], 0⟩)]
def akR (m : List Int) (d : Int) (i : (Int) × (Int) × (List Int) × Unit) : TT (vS ⊕ ur) :=
 .ite (decide (i.1 ≥ 0))
 (.need (inb i.1 (len m)) <| .need (abP d ≠ 0) <| .need (inb i.1 (↑(Int.toNat (len m)) : Int)) <| .need (abP d ≠ 0) <| .tt <| .lt (w64 (i.1 - 1) : Int) fun z2 => .lt (Int.tmod (abP (abP (i.2.1 * 1000000000) + abP (gi m i.1 0))) (abP d) : Int) fun z3 => .lt (List.set i.2.2.1 (0 + Int.toNat i.1) (adR (abP (Int.tdiv (abP (abP (i.2.1 * 1000000000) + abP (gi m i.1 0))) (abP d)))) : List Int) fun z4 => .wZ (vz z3 z2 <| (vu 4 0 (Int.toNat (len m)) true) ∧ (vj (0 : Int) <| True ∧ vB m d)) <| .wZ (wY (vt 180 z4) True) <| .ok (.inl ((z2, z3, z4, ()))))
 (.call (acD (List.take (Int.toNat (len m)) i.2.2.1, ())) Dd0 fun y =>
 .ok (.inr ((y.1, adR i.2.1, ()))))
def anH (m : List Int) (d : Int) : TT ur :=
 .need (0 ≤ len m ∧ len m ≤ len m ∧ len m * (↑4 : Int) ≤ 140737488355328) <| .loop 0 (.tt <| .lt (w64 (len m - 1) : Int) fun z => .lt (List.replicate (Int.toNat (len m)) 0 : List Int) fun z1 => .wZ (vz (0 : Int) z <| (vu 4 0 (Int.toNat (len m)) true) ∧ (vj (0 : Int) <| True ∧ vB m d)) <| .wZ (wY (vt 180 z1) True) <| .ok ((z, 0, z1, ()))) (akR m d)
def awO : LTab := [(181, 28, 2050, ⟨0, Bool × (List Int) × (Int) × Unit, .appN (.s 3) 2 180 vI <| .dat (.s 0) vV <| .nil, [2], [], 1⟩)]
def adW (v : Int) (i : Bool × (List Int) × (Int) × Unit) : TT ((Bool × (List Int) × (Int) × Unit) ⊕ vL) :=
 .ite (i.1)
 (.ite (decide (i.2.2.1 > 0))
 (.triv (asT Int 1000000000 ≠ 0) zf <| .need (1 * 4 ≤ 140737488355328) <| .triv (asT Int 1000000000 ≠ 0) zf <| .tt <| .lt ([adR (Int.tmod i.2.2.1 1000000000)] : List Int) fun z => .lt (abP (Int.tdiv i.2.2.1 1000000000) : Int) fun z1 => .wZ (vj z1 <| (vu 2 0 1 true) ∧ True ∧ True) <| .wZ (wY (vt 180 z) True) <| .ok (.inl ((false, z, z1, ()))))
 (.ok (.inr (([], ())))))
 (.ite (decide (i.2.2.1 > 0))
 (.triv (asT Int 1000000000 ≠ 0) zf <| .need ((List.length i.2.1 + 1) * 4 ≤ 140737488355328) <| .triv (asT Int 1000000000 ≠ 0) zf <| .tt <| .lt (List.take (List.length i.2.1) i.2.1 ++ [adR (Int.tmod i.2.2.1 1000000000)] : List Int) fun z2 => .lt (abP (Int.tdiv i.2.2.1 1000000000) : Int) fun z3 => .need (((z3 : Int) = z3) ∧ (((2) = (2)) ∧ (((0) = (0)) ∧ ((List.length i.2.1 + 1 = List.length z2) ∧ ((true) = (true))))) ∧ True ∧ True) <| .wZ (wY (vt 180 z2) True) <| .ok (.inl ((false, z2, z3, ()))))
 (.ok (.inr ((List.take (List.length i.2.1) i.2.1, ())))))
def al1 (v : Int) : TT vL :=
 .loop 0 (.tt <| .wZ (vj v <| True ∧ True ∧ True) <| .tr <| .ok ((true, [], v, ()))) (adW v)
def aEz : LTab := [(74, 218, 5122, ⟨0, (Int) × Bool × (List Int) × Unit, .dat (.s 4) vG <| .appN (.s 3) 5 180 vI <| .nil, [2, 0], [], 1⟩), (74, 55834, 13314, ⟨1, (Int) × (Int) × Unit, .dat (.s 7) vG <| .dat (.s 6) vI <| .nil, [15, 5, 14, 13, 12, 3, 4, 2, 0], [], 0⟩), (74, 55834, 13313, ⟨2, (Int) × (Int) × Unit, .dat (.s 7) vG <| .dat (.s 6) vI <| .nil, [15, 5, 14, 13, 12, 3, 4, 2, 0], [5], 0⟩)]
def ahY (digits : List UInt8) (i : Int × Bool × List Int × Unit) (i1 : (Int) × (Int) × Unit) : TT (vR ⊕ (vX ⊕ vL)) :=
 .ite (decide (i1.1 < i.1))
 (.need (inb i1.1 (len digits)) <| .tt <| .lt (w64 (i1.1 + 1) : Int) fun z1 => .lt (adR (adR (i1.2.1 * 10) + adR (wu8 ((↑(UInt8.toNat (gi digits i1.1 0)) : Int) - 48))) : Int) fun z2 => .wZ (vC z2 z1 (if 0 > w64 (i.1 - 9) then 0 else w64 (i.1 - 9) : Int) (if 0 > w64 (i.1 - 9) then 0 else w64 (i.1 - 9) : Int) (if 0 > w64 (i.1 - 9) then 0 else w64 (i.1 - 9) : Int) (w64 (i.1 - 9)) i.1 <| True ∧ (vj i.1 <| True ∧ vk digits)) <| .tr <| .ok (.inl ((z1, z2, ()))))
 (.need (1 * 4 ≤ 140737488355328) <| .ite ((if 0 > w64 (i.1 - 9) then 0 else w64 (i.1 - 9)) == 0)
 (.call (acD ([i1.2.1], ())) Dd0 fun y =>
 .ok (.inr (.inr ((y.1, ())))))
 (.tt <| .lt (w64 (i.1 - 9) : Int) fun z3 => .lt ([i1.2.1] : List Int) fun z4 => .wZ ((vu 5 0 1 true) ∧ (vj z3 <| True ∧ vk digits)) <| .wZ (wY (vt 180 z4) True) <| .ok (.inr (.inl ((z3, false, z4, ()))))))
def ahX (digits : List UInt8) (i : Int × Bool × List Int × Unit) (i2 : (Int) × (Int) × Unit) : TT (vR ⊕ (vX ⊕ vL)) :=
 .ite (decide (i2.1 < i.1))
 (.need (inb i2.1 (len digits)) <| .tt <| .lt (w64 (i2.1 + 1) : Int) fun z6 => .lt (adR (adR (i2.2.1 * 10) + adR (wu8 ((↑(UInt8.toNat (gi digits i2.1 0)) : Int) - 48))) : Int) fun z7 => .wZ (vC z7 z6 (if 0 > w64 (i.1 - 9) then 0 else w64 (i.1 - 9) : Int) (if 0 > w64 (i.1 - 9) then 0 else w64 (i.1 - 9) : Int) (if 0 > w64 (i.1 - 9) then 0 else w64 (i.1 - 9) : Int) (w64 (i.1 - 9)) i.1 <| (vu 5 0 (List.length i.2.2.1) true) ∧ (vj i.1 <| True ∧ vk digits)) <| .wZ (wY (vt 180 i.2.2.1) True) <| .ok (.inl ((z6, z7, ()))))
 (.need ((List.length i.2.2.1 + 1) * 4 ≤ 140737488355328) <| .ite ((if 0 > w64 (i.1 - 9) then 0 else w64 (i.1 - 9)) == 0)
 (.call (acD (List.take (List.length i.2.2.1 + 1) (List.take (List.length i.2.2.1) i.2.2.1 ++ [i2.2.1]), ())) Dd0 fun y1 =>
 .ok (.inr (.inr ((y1.1, ())))))
 (.tt <| .lt (w64 (i.1 - 9) : Int) fun z8 => .lt (List.take (List.length i.2.2.1) i.2.2.1 ++ [i2.2.1] : List Int) fun z9 => .need ((((5) = (5)) ∧ (((0) = (0)) ∧ ((List.length i.2.2.1 + 1 = List.length z9) ∧ ((true) = (true))))) ∧ ((z8 : Int) = z8) ∧ True ∧ ((digits) = (digits)) ∧ True) <| .wZ (wY (vt 180 z9) True) <| .ok (.inr (.inl ((z8, false, z9, ()))))))
def akW (digits : List UInt8) (i : (Int) × Bool × (List Int) × Unit) : TT (vX ⊕ vL) :=
 .ite (i.2.1)
 (.loop 1 (.tt <| .lt (if 0 > w64 (i.1 - 9) then 0 else w64 (i.1 - 9) : Int) fun z => .wZ (vC (0 : Int) z z z z (w64 (i.1 - 9)) i.1 <| True ∧ (vj i.1 <| True ∧ vk digits)) <| .tr <| .ok ((z, 0, ()))) (ahY digits i))
 (.loop 2 (.tt <| .lt (if 0 > w64 (i.1 - 9) then 0 else w64 (i.1 - 9) : Int) fun z5 => .wZ (vC (0 : Int) z5 z5 z5 z5 (w64 (i.1 - 9)) i.1 <| (vu 5 0 (List.length i.2.2.1) true) ∧ (vj i.1 <| True ∧ vk digits)) <| .wZ (wY (vt 180 i.2.2.1) True) <| .ok ((z5, 0, ()))) (ahX digits i))
def anL (digits : List UInt8) : TT vL :=
 .loop 0 (.tt <| .wZ (True ∧ (vj (len digits) <| True ∧ vk digits)) <| .tr <| .ok ((len digits, true, [], ()))) (akW digits)
def aBu : LTab := []
def akS (m : List Int) : TT vU :=
 .call (adF (m, ())) Dd1 fun y =>
 .ite (y.1)
 (.ok ((1, ())))
 (.need (inb (w64 (len m - 1)) (len m)) <| .call (au7 (w64 (gi m (w64 (len m - 1)) 0), ())) Dd2 fun y1 =>
 .ok ((w64 (w64 (w64 (len m - 1) * 9) + len y1.1), ())))
def aKg : LTab := [(125, 12, 1025, ⟨0, (List Int) × (List Int) × Unit, .dat (.s 0) uk <| .dat (.s 1) uk <| .nil, [], [], 0⟩), (125, 196, 4096, ⟨1, (Bool) × Unit, .dat (.s 19) (Ty.bool) <| .nil, [1, 0], [], 0⟩), (125, 6292, 10240, ⟨2, (Int) × (Int) × Unit, .dat (.s 6) vV <| .dat (.s 5) vV <| .nil, [23, 22, 21, 20, 19, 1, 0], [], 0⟩)]
def azV (m : List Int) (o : List Int) (i : List Int × List Int × Unit) (y : Bool × Unit) (j : Bool × Unit) (y1 : Int × Unit) (y2 : Int × Unit) (i1 : (Int) × (Int) × Unit) : TT (vR ⊕ (ui ⊕ vL)) :=
 .ite (decide (i1.1 > 0))
 (.need (i1.1 ≠ 0) <| .tt <| .lt (Int.tmod i1.2.1 i1.1 : Int) fun z1 => .wZ (vA i1.1 z1 y2.1 i.2.1 y1.1 i.1 j.1 i.2.1 <| vk i.1) <| .tr <| .ok (.inl ((z1, i1.1, ()))))
 (.call (acV (i1.2.1, ())) Dd0 fun y3 =>
 .ok (.inr (.inr ((y3.1, ())))))
def arC (m : List Int) (o : List Int) (i : List Int × List Int × Unit) (y : Bool × Unit) (j : (Bool) × Unit) : TT (ui ⊕ vL) :=
 .ite (j.1)
 (.call (ajV (i.1, ())) Dd3 fun y1 =>
 .call (ajV (i.2.1, ())) Dd3 fun y2 =>
 .loop 2 (.tt <| .wZ (vA y1.1 y2.1 y2.1 i.2.1 y1.1 i.1 j.1 i.2.1 <| vk i.1) <| .tr <| .ok ((y2.1, y1.1, ()))) (azV m o i y j y1 y2))
 (.call (abH (i.1, i.2.1, ())) Dd4 fun y4 =>
 .tt <| .lt (i.2.1 : List Int) fun z2 => .lt (y4.2.1 : List Int) fun z3 => .wZ (vB z3 z2) <| .tr <| .ok (.inl ((z2, z3, ()))))
def azW (m : List Int) (o : List Int) (i : (List Int) × (List Int) × Unit) : TT (ui ⊕ vL) :=
 .call (adF (i.2.1, ())) Dd1 fun y =>
 .ite (!y.1)
 (.join 1 (ι := (Bool) × Unit) (.ite (decide (len i.1 ≤ 2))
 (.tt <| .lt (decide (len i.2.1 ≤ 2) : Bool) fun z => .wZ (vq z i.2.1 i.1) <| .tr <| .ok (.inl ((z, ()))))
 (.tt <| .wZ (vq false i.2.1 i.1) <| .tr <| .ok (.inl ((false, ()))))) (arC m o i y))
 (.ok (.inr ((i.1, ()))))
def awG (m : List Int) (o : List Int) : TT vL :=
 .loop 0 (.tt <| .wZ (vB o m) <| .tr <| .ok ((m, o, ()))) (azW m o)
end
open Go Go.Vg
theorem apP {l : List Int} (h : Dg 1000000000 l) (hl : l.length ≤ 2000000000000) {n : Nat} (hv : V 1000000000 l = n) : acD (l, ()) = some (mag n, ()) := by
 unfold acD
 rw [if_pos ⟨h, hl⟩]
 simp only [hv, zj]
theorem azU (m o : List Int) (y) (h : ahJ (m, o, ()) = some y) : (anJ m o).toO = some y := by
 obtain ⟨⟨a, b⟩, hn, hx, rfl⟩ := aaH h
 obtain ⟨rfl, hx2⟩ := Prod.mk.inj hx; obtain ⟨rfl, -⟩ := Prod.mk.inj hx2; dsimp only
 obtain ⟨la, hba⟩ := hn
 simp only at la hba
 have hda := af6 a
 have hdb := af6 b
 have hVa := ak7 a
 have hVb := ak7 b
 have hl := acM hba
 unfold anJ
 refine uN sn ?_
 refine uO (0, 0, List.replicate (mag a).length 0, ()) ?_ ?_
 ·repeat refine za ?_
  simp (disch := omega) only [aaP, aaA, aaK, aaX, abZ, aaN, zn, zj, aaI, zq]
 refine aaW (fun i => ∃ k : Nat, k ≤ (mag a).length ∧ i.1 = (k : Int) ∧ 0 ≤ i.2.1 ∧ i.2.1 ≤ 1 ∧ i.2.2.1.length = (mag a).length ∧ Dg 1000000000 i.2.2.1 ∧ V 1000000000 (i.2.2.1.take k) = V 1000000000 ((mag a).take k) - V 1000000000 ((mag b).take k) + 1000000000 ^ k * i.2.1) (fun i => (((mag a).length : Int) - i.1).toNat) (fun _ => (mag (a - b), ())) ?_ _ ⟨0, zR _, rfl, by simp, by simp, by simp, afX zb _, by simp [V]⟩
 rintro ⟨i, c, s, u⟩ ⟨k, h1, h2, h3, h4, h5, h6, h7⟩
 simp only at h2 h3 h4 h5 h6 h7
 subst h2
 simp only [arB, aaN]
 have ea := aa4 1000000000 (mag a) k
 have eb := aa4 1000000000 (mag b) k
 have da := aaY zb hda k
 have db := aaY zb hdb k
 rcases zt k (mag a).length with hk | hk
 ·left
  have fin : ∀ x c' : Int, 0 ≤ x ∧ x < 1000000000 → 0 ≤ c' ∧ c' ≤ 1 → x = (mag a).getD k 0 - (mag b).getD k 0 - c + 1000000000 * c' → (∃ k_1 : Nat, k_1 ≤ (mag a).length ∧ ((k + 1 : Nat) : Int) = (k_1 : Int) ∧ 0 ≤ c' ∧ c' ≤ 1 ∧ (s.set k x).length = (mag a).length ∧ Dg 1000000000 (s.set k x) ∧ V 1000000000 ((s.set k x).take k_1) = V 1000000000 ((mag a).take k_1) - V 1000000000 ((mag b).take k_1) + 1000000000 ^ k_1 * c') ∧ (((mag a).length : Int) - ((k + 1 : Nat) : Int)).toNat < (((mag a).length : Int) - (k : Int)).toNat := by
   intro x c' hx hc he
   refine ⟨⟨k + 1, by omega, rfl, hc.1, hc.2, by simp; omega, ahM h6 hx _, ?_⟩, by omega⟩
   rw [aE0 _ zb, h7, ea, eb, yi, he]
   grind
  rcases zt k (mag b).length with hkb | hkb
  ·rcases zN ((mag a).getD k 0) (c + (mag b).getD k 0) with hc | hc
   ·obtain ⟨g1, g2⟩ := fin ((mag a).getD k 0 + 1000000000 - (c + (mag b).getD k 0)) 1 zb zb zb
    refine ⟨(((k + 1 : Nat) : Int), 1, s.set k ((mag a).getD k 0 + 1000000000 - (c + (mag b).getD k 0)), ()), ?_, g1, g2, trivial⟩
    repeat refine za ?_
    simp (disch := omega) only [aaP, aaA, aaK, aaX, abZ, aaN, zn, zj, aaI, zq]
    rfl
   ·obtain ⟨g1, g2⟩ := fin ((mag a).getD k 0 - (c + (mag b).getD k 0)) 0 zb zb zb
    refine ⟨(((k + 1 : Nat) : Int), 0, s.set k ((mag a).getD k 0 - (c + (mag b).getD k 0)), ()), ?_, g1, g2, trivial⟩
    repeat refine za ?_
    simp (disch := omega) only [aaP, aaA, aaK, aaX, abZ, aaN, zn, zj, aaI, zq]
    rfl
  ·have hz : (mag b).getD k 0 = 0 := af8 hkb 0
   rcases zN ((mag a).getD k 0) c with hc | hc
   ·obtain ⟨g1, g2⟩ := fin ((mag a).getD k 0 + 1000000000 - c) 1 zb zb zb
    refine ⟨(((k + 1 : Nat) : Int), 1, s.set k ((mag a).getD k 0 + 1000000000 - c), ()), ?_, g1, g2, trivial⟩
    repeat refine za ?_
    simp (disch := omega) only [aaP, aaA, aaK, aaX, abZ, aaN, zn, zj, aaI, zq]
    rfl
   ·obtain ⟨g1, g2⟩ := fin ((mag a).getD k 0 - c) 0 zb zb zb
    refine ⟨(((k + 1 : Nat) : Int), 0, s.set k ((mag a).getD k 0 - c), ()), ?_, g1, g2, trivial⟩
    repeat refine za ?_
    simp (disch := omega) only [aaP, aaA, aaK, aaX, abZ, aaN, zn, zj, aaI, zq]
    rfl
 ·right
  have hkk : k = (mag a).length := zb
  rw [hkk, abF _ zb, abF _ (zi _), abF _ hl, hVa, hVb] at h7
  have hlt := aE1 zb h6
  rw [h5] at hlt
  have hc : c = 0 := by
   rcases zN 0 c with hc | hc
   ·have hc1 : c = 1 := zb
    subst hc1
    omega
   ·omega
  subst hc
  refine uF sd ?_
  refine uC (mag (a - b), ()) ?_ ?_
  ·rw [zp (by simp [len]; omega)]
   exact apP h6 zb zb
  ·rfl
theorem aCj {p q : Int × Int} (h : (sg p.1, sg p.2, ()) = (sg q.1, sg q.2, ())) : p = q := by
 obtain ⟨h1, h2⟩ := Prod.mk.inj h
 obtain ⟨h2, -⟩ := Prod.mk.inj h2
 exact Prod.ext (an9 h1) (an9 h2)
theorem aFv {p q : Int × Nat} (h : (sg p.1, mag p.2, ()) = (sg q.1, mag q.2, ())) : p = q := by
 obtain ⟨h1, h2⟩ := Prod.mk.inj h
 obtain ⟨h2, -⟩ := Prod.mk.inj h2
 exact Prod.ext (an9 h1) (af5 h2)
theorem avV {p q : Rat × Rat} (h : (rt p.1, rt p.2, ()) = (rt q.1, rt q.2, ())) : p = q := by
 obtain ⟨h1, h2⟩ := Prod.mk.inj h
 obtain ⟨h2, -⟩ := Prod.mk.inj h2
 exact Prod.ext (ax3 h1) (ax3 h2)
theorem azZ (m : List Int) (negative : Bool) (y) (h : abR (m, negative, ()) = some y) : (auS m negative).toO = some y := by
 injection h with h
 subst h
 cases negative
 ·rfl
 ·exact uT rfl (uC (len m == 0, ()) rfl rfl)
theorem ac0 {n : Nat} {b : Bool} {w : Int} (hn : n = w.natAbs) (hb : w = 0 ∨ b = decide (w < 0)) : abR (mag n, b, ()) = some (sg w, ()) := by
 subst hn
 unfold abR sg
 rcases hb with rfl | rfl
 ·simp [mag_zero, len]
 ·by_cases h0 : w = 0
  ·subst h0; simp
  ·have : (len (mag w.natAbs) == 0) = false := by
    have h1 : mag w.natAbs ≠ [] := fun h2 => by have := mag_nil_iff.1 h2; omega
    have h3 : (mag w.natAbs).length ≠ 0 := fun h2 => h1 (zS.1 h2)
    rw [aaI, beq_eq_false_iff_ne]; omega
   simp only [this, Bool.not_false, Bool.and_true]
theorem axK {a : Int} (h1 : Bd 8 a.natAbs) : afV (sg a, ()) = some (sg (-a), ()) := aaR (enc := fun x : Int => (sg x, ())) a h1 (fun b hb => an9 (Prod.mk.inj hb).1)
theorem aDh {a b : Int} (h1 : Bd 7 a.natAbs) (h2 : Bd 7 b.natAbs) : amH (sg a, sg b, ()) = some (sg (a + b), ()) := aaR (enc := fun x : Int × Int => (sg x.1, sg x.2, ())) (a, b) ⟨h1, h2⟩ (fun b hb => aCj hb)
theorem arJ (n : SgT) (y) (h : afV (n, ()) = some y) : (al0 n).toO = some y := by
 obtain ⟨a, hp, hx, rfl⟩ := aaH h
 obtain ⟨rfl, -⟩ := Prod.mk.inj hx
 refine uC (sg (-a), ()) (ac0 zb ?_) rfl
 by_cases h0 : a = 0
 ·left; omega
 ·right
  show (!decide (a < 0)) = decide (-a < 0)
  by_cases h1 : a < 0
  ·rw [zm h1, zl zb]; rfl
  ·rw [zl h1, zm zb]; rfl
theorem aEv (n o : SgT) (y) (h : amH (n, o, ()) = some y) : (awJ n o).toO = some y := by
 obtain ⟨⟨a, b⟩, hp, hx, rfl⟩ := aaH h
 obtain ⟨rfl, hx2⟩ := Prod.mk.inj hx; obtain ⟨rfl, -⟩ := Prod.mk.inj hx2; dsimp only
 obtain ⟨l1, l2⟩ := hp
 simp only at l1 l2
 unfold awJ
 dsimp only
 by_cases hs : (decide (a < 0) == decide (b < 0)) = true
 ·refine uT hs ?_
  have hs' : (a < 0 ↔ b < 0) := by simpa using hs
  refine uC _ (aIw (aaJ l1 zb) (aaJ l2 zb)) ?_
  refine uC (sg (a + b), ()) (ac0 zb (Or.inr ?_)) rfl
  exact decide_eq_decide.2 zb
 ·have hs' : ¬ (a < 0 ↔ b < 0) := by simpa using hs
  refine uF (by simpa using hs) ?_
  refine uC _ (aoW (aaJ l1 zb) (aaJ l2 zb)) ?_
  by_cases hc : a.natAbs < b.natAbs
  ·refine uT ?_ ?_
   ·unfold atG; rw [if_pos zb]; rfl
   ·refine uC _ (avC (aaJ l2 zb) zb) ?_
    refine uC (sg (a + b), ()) (ac0 zb (Or.inr ?_)) rfl
    exact decide_eq_decide.2 zb
  ·refine uF ?_ ?_
   ·unfold atG
    rw [if_neg zb]
    split <;> rfl
   ·refine uC _ (avC (aaJ l1 zb) zb) ?_
    refine uC (sg (a + b), ()) (ac0 zb ?_) rfl
    by_cases h0 : a + b = 0
    ·exact Or.inl h0
    ·exact Or.inr (decide_eq_decide.2 zb)
theorem asQ {a : Int} (h1 : Bd 8 a.natAbs) : ahK (sg a, ()) = some (a.sign, ()) := aaR (enc := fun x : Int => (sg x, ())) a h1 (fun b hb => an9 (Prod.mk.inj hb).1)
theorem aBz (n : SgT) (y) (h : ahK (n, ()) = some y) : (arI n).toO = some y := by
 obtain ⟨a, hp, hx, rfl⟩ := aaH h
 obtain ⟨rfl, -⟩ := Prod.mk.inj hx
 unfold arI
 dsimp only
 refine uC _ (asO _) ?_
 rcases wO a 0 with h0 | h0 | h0
 ·refine uF zg (uT zg ?_)
  rw [xf h0]; rfl
 ·subst h0; exact uT zh rfl
 ·refine uF zg (uF zg ?_)
  rw [xr h0]; rfl
theorem aIx {a : Int} (h1 : Bd 0 a.natAbs) : amG (sg a, ()) = some (dec a, ()) := aaR (enc := fun x : Int => (sg x, ())) a h1 (fun b hb => an9 (Prod.mk.inj hb).1)
theorem aKt {n : Nat} (h : Bd 0 n) : (abV n).length ≤ 9000001 := by
 have := ag1 (k := 1000000 * 4 ^ 0) h
 omega
theorem aBy (n : SgT) (y) (h : amG (n, ()) = some y) : (arH n).toO = some y := by
 obtain ⟨a, hp, hx, rfl⟩ := aaH h
 obtain ⟨rfl, -⟩ := Prod.mk.inj hx
 unfold arH
 dsimp only
 have hl := aKt hp
 by_cases h0 : a < 0
 ·refine uT zg (uC _ (alC hp) (uN ?_ ?_))
  ·show 1 + (abV a.natAbs).length ≤ lim
   unfold lim; omega
  ·rw [ag0 h0]; rfl
 ·refine uF zg (uC _ (alC hp) ?_)
  rw [acP zb]; rfl
theorem ah6 {a : Int} {b : Nat} (h1 : Bd 7 a.natAbs) (h2 : Bd 7 b) : ad6 (sg a, mag b, ()) = some (sg (a * b), ()) := aaR (enc := fun x : Int × Nat => (sg x.1, mag x.2, ())) (a, b) ⟨h1, h2⟩ (fun b hb => aFv hb)
theorem awK (n : SgT) (m : List Int) (y) (h : ad6 (n, m, ()) = some y) : (akU n m).toO = some y := by
 obtain ⟨⟨a, b⟩, hp, hx, rfl⟩ := aaH h
 obtain ⟨rfl, hx2⟩ := Prod.mk.inj hx; obtain ⟨rfl, -⟩ := Prod.mk.inj hx2; dsimp only
 obtain ⟨l1, l2⟩ := hp
 simp only at l1 l2
 unfold akU
 dsimp only
 refine uC _ (ajZ (aaJ l1 zb) (aaJ l2 zb)) ?_
 refine uC (sg (a * b), ()) (ac0 (by rw [yk]; rfl) ?_) rfl
 rcases zy b with h0 | h0
 ·left; subst h0; simp
 ·right
  refine decide_eq_decide.2 ⟨fun h => wD h zb, fun h => ?_⟩
  rcases zN a 0 with h2 | h2
  ·exact h2
  ·have := xn h2 (show (0 : Int) ≤ b by omega); omega
theorem aMi : mag 1 = [1] := aqU zb zb
theorem awZ (s p : List UInt8) (hs : s.length ≤ 4611686018427387904) (y) (h : abW (s, p, ()) = some y) : (ak0 s p).toO = some y := by
 injection h with h
 subst h
 unfold ak0
 dsimp only
 rcases zt s.length p.length with hl | hl
 ·repeat refine za ?_
  have : p.isPrefixOf s = false := by
   cases hp : p.isPrefixOf s with
   | false => rfl
   | true => have := (wu.1 hp).length_le; omega
  simp [this, aaP]
 ·refine uV (uV (uV (uV (uT sd (uN sd ?_)))))
  simp only [aaI, zj]
  by_cases hp : p.isPrefixOf s = true
  ·have h2 := List.prefix_iff_eq_take.1 (wu.1 hp)
   refine uF (by rw [← h2]; simp) (uN sd ?_)
   rw [if_pos hp, zp zh]; rfl
  ·refine uT ?_ ?_
   ·simp only [zZ, beq_eq_false_iff_ne]
    intro h2
    exact hp (wu.2 (List.prefix_iff_eq_take.2 h2.symm))
   ·rw [if_neg hp]; rfl
theorem aAx (z : Int) : abW (dec z, #[45].toList, ()) = some (abV z.natAbs, decide (z < 0), ()) := by
 unfold abW
 show some (if [45].isPrefixOf (dec z) = true then _ else _) = _
 by_cases h : z < 0
 ·rw [ag0 h, zm h]
  simp [List.isPrefixOf]
 ·rw [acP zb, zl h]
  have : [45].isPrefixOf (abV z.natAbs) = false := by
   have := ac4 z.natAbs
   cases hd : abV z.natAbs with
   | nil => rfl
   | cons a l =>
    rw [hd] at this
    simp only [wW, ne_eq, Option.some.injEq] at this
    simp [List.isPrefixOf, Ne.symm this]
  rw [this]; simp
theorem aj1 {z : Int} (h : Bd 7 z.natAbs) : ae0 (dec z, ()) = some (sg z, ()) := aaR (enc := fun x : Int => (dec x, ())) z h (fun b hb => anS (Prod.mk.inj hb).1)
theorem az0 (a : List UInt8) (y) (h : ae0 (a, ()) = some y) : (auT a).toO = some y := by
 obtain ⟨z, hp, hx, rfl⟩ := aaH h
 obtain ⟨rfl, -⟩ := Prod.mk.inj hx
 exact uC _ (aAx z) (uC _ (aE8 (aaJ hp zb)) rfl)
theorem amL {q : Rat} (h : aiA q) : wrF q = (fx q, 0, ()) := if_pos h
theorem avJ {q : Rat} (h : ¬ aiA q) : wrF q = (([], [], ()), 6, ()) := if_neg h
theorem avH {z : Int} (h : Fit z) : wrW z = (dec z, 0, ()) := if_pos h
theorem avI {z : Int} (h : ¬ Fit z) : wrW z = ([], 6, ()) := if_neg h
theorem aIp {z : Int} (h : Bd 8 z.natAbs) : aAs (sg z, ()) = some (wrW z) := aaR (enc := fun x : Int => (sg x, ())) z h (fun b hb => an9 (Prod.mk.inj hb).1)
theorem ajY {q : Rat} (h : BdQ 8 q) : aeZ (rt q, ()) = some (wrF q) := aaR (enc := fun x : Rat => (rt x, ())) q h (fun b hb => ax3 (Prod.mk.inj hb).1)
theorem azN (x : RtT) (y) (h : aeZ (x, ()) = some y) : (anE x).toO = some y := by
 obtain ⟨q, hp, hx, rfl⟩ := aaH h
 obtain ⟨rfl, -⟩ := Prod.mk.inj hx
 obtain ⟨h1, h2⟩ := hp
 unfold anE
 dsimp only
 refine uC _ (asP h1) ?_
 by_cases hf : Fit q.num
 ·have hf' : (abV q.num.natAbs).length ≤ 600 := hf
  refine uF zg ?_
  refine uC _ (asP h2) ?_
  by_cases hg : Fit q.den
  ·have hg' : (abV q.den).length ≤ 600 := hg
   rw [amL ⟨hf, hg⟩]
   refine uF zg ?_
   exact uC _ (aIx (ar9 hf)) (uC _ (alC (ar9 hg)) rfl)
  ·have hg' : ¬ (abV q.den).length ≤ 600 := hg
   rw [avJ (fun h => hg h.2)]
   exact uT zg rfl
 ·have hf' : ¬ (abV q.num.natAbs).length ≤ 600 := hf
  rw [avJ (fun h => hf h.1)]
  exact uT zg rfl
theorem ahN {g : Nat} {t n : Int} (h : n = g * t) (g0 : g ≠ 0) : (n < 0 ↔ t < 0) ∧ (n = 0 ↔ t = 0) := by
 subst h
 rcases wO t 0 with h | h | h
 ·have := wE (show (0 : Int) < g by omega) h
  omega
 ·subst h; simp
 ·have := Int.mul_pos (show (0 : Int) < g by omega) h
  omega
theorem acR {g : Nat} {t n : Int} (h : n = g * t) (g0 : g ≠ 0) : n.natAbs / g = t.natAbs := by
 rw [h, yk, yO, yh _ zb]
theorem aB6 {n : Int} {d : Nat} (h1 : Bd 7 n.natAbs) (h2 : Bd 7 d) (h3 : d ≠ 0) : ah5 (sg n, mag d, ()) = some (rt (mkRat n d), ()) := aaR (enc := fun x : Int × Nat => (sg x.1, mag x.2, ())) (n, d) ⟨h1, h2, h3⟩ (fun b hb => aFv hb)
theorem awM (n : SgT) (d : List Int) (y) (h : ah5 (n, d, ()) = some y) : (akV n d).toO = some y := by
 obtain ⟨⟨a, b⟩, hp, hx, rfl⟩ := aaH h
 obtain ⟨rfl, hx2⟩ := Prod.mk.inj hx; obtain ⟨rfl, -⟩ := Prod.mk.inj hx2; dsimp only
 obtain ⟨l1, l2, l3⟩ := hp
 simp only at l1 l2 l3
 obtain ⟨g, t, hg, g0, hn, e1, e2⟩ := aeR a l3
 have hs := ahN hn g0
 have ha := acR hn g0
 unfold akV
 dsimp only
 have bg : Bd 7 g := by rw [hg]; repeat (first | assumption | exact aaJ ze zb | exact aaG zb | refine aa0 ?_ ?_ | refine aaQ _ ?_ | refine aa3 _ ?_ | refine aaE ?_ ?_ | refine aaB ?_ ?_ | refine aaV ?_ | refine aaZ ?_ ?_ | refine aa1 ?_ ?_ | refine aaM ?_)
 refine uC (mag g, ()) (by rw [aj0 zc zc, hg]) ?_
 refine uC _ (acI zc zc g0) ?_
 refine uC _ (acI zc zc g0) ?_
 refine uC (sg t, ()) (ac0 ha (Or.inr (decide_eq_decide.2 hs.1))) ?_
 show some (((sg t), mag (b / g), ()), ()) = some (rt (mkRat a b), ())
 unfold rt
 rw [e1, e2]
theorem aAv {q : Rat} (h : BdQ 7 q) : aoV (rt q, ()) = some (rt (-q), ()) := aaR (enc := fun x : Rat => (rt x, ())) q h (fun b hb => ax3 (Prod.mk.inj hb).1)
theorem aAw {q : Rat} (h : BdQ 7 q) (h0 : q ≠ 0) : agV (rt q, ()) = some (rt q⁻¹, ()) := aaR (enc := fun x : Rat => (rt x, ())) q ⟨h, h0⟩ (fun b hb => ax3 (Prod.mk.inj hb).1)
theorem aLr {q : Rat} (h : q ≠ 0) : q.num ≠ 0 := fun h2 => h (Rat.num_eq_zero.1 h2)
theorem azC {q : Rat} (h : q ≠ 0) : (q⁻¹).num.natAbs = q.den ∧ ((q⁻¹).num < 0 ↔ q.num < 0) ∧ (q⁻¹).den = q.num.natAbs := by
 have h1 := aLr h
 have h2 := q.den_pos
 rw [Rat.num_inv, Rat.den_inv, if_neg h1]
 rcases zN q.num 0 with h3 | h3
 ·rw [xf h3]; omega
 ·rw [xr zb]; omega
theorem as9 (x : RtT) (y) (h : agV (x, ()) = some y) : (aoJ x).toO = some y := by
 obtain ⟨q, hp, hx, rfl⟩ := aaH h
 obtain ⟨rfl, -⟩ := Prod.mk.inj hx
 obtain ⟨e1, e2, e3⟩ := azC hp.2
 refine uC (sg (q⁻¹).num, ()) (ac0 e1.symm (Or.inr (decide_eq_decide.2 e2.symm))) ?_
 show some ((sg (q⁻¹).num, mag q.num.natAbs, ()), ()) = some (rt q⁻¹, ())
 unfold rt
 rw [e3]
theorem aDg {p q : Rat} (h : BdQ 3 p) (h2 : BdQ 3 q) : amE (rt p, rt q, ()) = some (rt (p + q), ()) := aaR (enc := fun x : Rat × Rat => (rt x.1, rt x.2, ())) (p, q) ⟨h, h2⟩ (fun b hb => avV hb)
theorem aEp (x x' : RtT) (y) (h : amE (x, x', ()) = some y) : (awE x x').toO = some y := by
 obtain ⟨⟨p, q⟩, hp, hx, rfl⟩ := aaH h
 obtain ⟨rfl, hx2⟩ := Prod.mk.inj hx; obtain ⟨rfl, -⟩ := Prod.mk.inj hx2; dsimp only
 obtain ⟨⟨p1, p2⟩, q1, q2⟩ := hp
 simp only at p1 p2 q1 q2
 obtain ⟨g, h', top, t, hg, ht, hh, g0, h0, htt, e1, e2⟩ := aAm p q
 have hs := ahN htt h0
 have ha := acR htt h0
 have bg : Bd 3 g := by rw [hg]; repeat (first | assumption | exact aaJ ze zb | exact aaG zb | refine aa0 ?_ ?_ | refine aaQ _ ?_ | refine aa3 _ ?_ | refine aaE ?_ ?_ | refine aaB ?_ ?_ | refine aaV ?_ | refine aaZ ?_ ?_ | refine aa1 ?_ ?_ | refine aaM ?_)
 have bt : Bd 5 top.natAbs := by
  rw [ht]
  refine aaE (aaB ?_ (aaM ?_)) (aaB ?_ (aaM ?_)) <;> repeat (first | assumption | exact aaJ ze zb | exact aaG zb | refine aa0 ?_ ?_ | refine aaQ _ ?_ | refine aa3 _ ?_ | refine aaE ?_ ?_ | refine aaB ?_ ?_ | refine aaV ?_ | refine aaZ ?_ ?_ | refine aa1 ?_ ?_ | refine aaM ?_)
 have bh : Bd 5 h' := by rw [hh]; repeat (first | assumption | exact aaJ ze zb | exact aaG zb | refine aa0 ?_ ?_ | refine aaQ _ ?_ | refine aa3 _ ?_ | refine aaE ?_ ?_ | refine aaB ?_ ?_ | refine aaV ?_ | refine aaZ ?_ ?_ | refine aa1 ?_ ?_ | refine aaM ?_)
 unfold awE
 dsimp only
 refine uC (mag g, ()) (by rw [aj0 zc zc, hg]) ?_
 refine uC _ (acI zc zc g0) ?_
 refine uC _ (acI zc zc g0) ?_
 refine uC _ (ah6 zc zc) ?_
 refine uC _ (ah6 zc zc) ?_
 refine uC (sg top, ()) (by rw [aDh zc zc, ht]) ?_
 refine uC (mag h', ()) (by rw [aj0 zc zc, hh]) ?_
 refine uC _ (acI zc zc h0) ?_
 refine uC _ (acI zc zc h0) ?_
 refine uC (sg t, ()) (ac0 ha (Or.inr (decide_eq_decide.2 hs.1))) ?_
 refine uC _ (ajZ zc zc) ?_
 show some ((sg t, mag (p.den / g * (q.den / h')), ()), ()) = some (rt (p + q), ())
 unfold rt
 rw [e1, e2]
theorem aM0 (x x' : RtT) (y) (h : aKC (x, x', ()) = some y) : (aKd x x').toO = some y := by
 obtain ⟨⟨p, q⟩, hp, hx, rfl⟩ := aaH h
 obtain ⟨rfl, hx2⟩ := Prod.mk.inj hx; obtain ⟨rfl, -⟩ := Prod.mk.inj hx2; dsimp only
 obtain ⟨bp, bq⟩ := hp
 refine uC _ (aAv ⟨aaJ bq.1 zb, aaJ bq.2 zb⟩) ?_
 refine uC _ (aDg bp ⟨aaV bq.1, bq.2⟩) ?_
 rw [Rat.sub_eq_add_neg]; rfl
theorem aDf {p q : Rat} (h : BdQ 3 p) (h2 : BdQ 3 q) : amD (rt p, rt q, ()) = some (rt (p * q), ()) := aaR (enc := fun x : Rat × Rat => (rt x.1, rt x.2, ())) (p, q) ⟨h, h2⟩ (fun b hb => avV hb)
theorem aEo (x x' : RtT) (y) (h : amD (x, x', ()) = some y) : (awD x x').toO = some y := by
 obtain ⟨⟨p, q⟩, hp, hx, rfl⟩ := aaH h
 obtain ⟨rfl, hx2⟩ := Prod.mk.inj hx; obtain ⟨rfl, -⟩ := Prod.mk.inj hx2; dsimp only
 obtain ⟨⟨p1, p2⟩, q1, q2⟩ := hp
 simp only at p1 p2 q1 q2
 obtain ⟨g, h', s, t, hg, hh, g0, h0, hs, ht, e1, e2⟩ := ay4 p q
 have as1 := acR hs g0
 have at' := acR ht h0
 have ss := ahN hs g0
 have st := ahN ht h0
 have bg : Bd 3 g := by rw [hg]; repeat (first | assumption | exact aaJ ze zb | exact aaG zb | refine aa0 ?_ ?_ | refine aaQ _ ?_ | refine aa3 _ ?_ | refine aaE ?_ ?_ | refine aaB ?_ ?_ | refine aaV ?_ | refine aaZ ?_ ?_ | refine aa1 ?_ ?_ | refine aaM ?_)
 have bh : Bd 3 h' := by rw [hh]; repeat (first | assumption | exact aaJ ze zb | exact aaG zb | refine aa0 ?_ ?_ | refine aaQ _ ?_ | refine aa3 _ ?_ | refine aaE ?_ ?_ | refine aaB ?_ ?_ | refine aaV ?_ | refine aaZ ?_ ?_ | refine aa1 ?_ ?_ | refine aaM ?_)
 unfold awD
 dsimp only
 refine uC (mag g, ()) (by rw [aj0 zc zc, hg]) ?_
 refine uC (mag h', ()) (by rw [aj0 zc zc, hh]) ?_
 refine uC _ (acI zc zc g0) ?_
 refine uC _ (acI zc zc h0) ?_
 refine uC _ (acI zc zc h0) ?_
 refine uC _ (acI zc zc g0) ?_
 refine uC _ (ajZ zc zc) ?_
 refine uC (sg (s * t), ()) (ac0 (n := p.num.natAbs / g * (q.num.natAbs / h')) (by rw [as1, at', yk]) ?_) ?_
 ·by_cases hz : s * t = 0
  ·exact Or.inl hz
  ·right
   show (!(decide (p.num < 0) == decide (q.num < 0))) = decide (s * t < 0)
   have z1 : s ≠ 0 := fun h => hz (by rw [h]; simp)
   have z2 : t ≠ 0 := fun h => hz (by rw [h]; simp)
   rcases zN s 0 with c1 | c1 <;> rcases zN t 0 with c2 | c2
   ·have := Int.mul_pos_of_neg_of_neg c1 c2
    rw [zm (ss.1.2 c1), zm (st.1.2 c2), zl zb]; rfl
   ·have := wD c1 (show 0 < t by omega)
    rw [zm (ss.1.2 c1), zl zb, zm zb]; rfl
   ·have := wE (show 0 < s by omega) c2
    rw [zl zb, zm (st.1.2 c2), zm zb]; rfl
   ·have := Int.mul_pos (show 0 < s by omega) (show 0 < t by omega)
    rw [zl zb, zl zb, zl zb]; rfl
 refine uC _ (ajZ zc zc) ?_
 show some ((sg (s * t), mag (p.den / h' * (q.den / g)), ()), ()) = some (rt (p * q), ())
 unfold rt
 rw [e1, e2]
theorem aE7 {p q : Rat} (h : BdQ 3 p) (h2 : BdQ 3 q) : ajU (rt p, rt q, ()) = some (aFa p q, ()) := aaR (enc := fun x : Rat × Rat => (rt x.1, rt x.2, ())) (p, q) ⟨h, h2⟩ (fun b hb => avV hb)
theorem azO (x x' : RtT) (y) (h : ajU (x, x', ()) = some y) : (anF x x').toO = some y := by
 obtain ⟨⟨p, q⟩, hp, hx, rfl⟩ := aaH h
 obtain ⟨rfl, hx2⟩ := Prod.mk.inj hx; obtain ⟨rfl, -⟩ := Prod.mk.inj hx2; dsimp only
 obtain ⟨⟨p1, p2⟩, q1, q2⟩ := hp
 simp only at p1 p2 q1 q2
 unfold anF
 dsimp only
 refine uC _ (ah6 zc zc) ?_
 refine uC _ (ah6 zc zc) ?_
 refine uC _ (axK (aaJ (aaB q1 (aaM p2)) zb)) ?_
 refine uC _ (aDh (aaJ (aaB p1 (aaM q2)) zb) (aaV (aaJ (aaB q1 (aaM p2)) zb))) ?_
 refine uC _ (asQ (aaJ (aaE (aaB p1 (aaM q2)) (aaV (aaB q1 (aaM p2)))) zb)) ?_
 rw [aL7]; rfl
theorem aFI {s t : List UInt8} {b : Bool} (hc : abW (s, #[45].toList, ()) = some (t, b, ())) (h : ¬ (isD t ∧ t ≠ [] ∧ t.length ≤ 600 ∧ (t.head? = some 48 → b = false ∧ t.length = 1))) : rdW s = none := by
 refine aJb fun z hz he => h ?_
 rw [← he, aAx] at hc
 injection hc with hc
 obtain ⟨rfl, h2⟩ := Prod.mk.inj hc
 obtain ⟨rfl, -⟩ := Prod.mk.inj h2
 refine ⟨al6 _, agD _, hz, fun h0 => ?_⟩
 by_cases hn : z.natAbs = 0
 ·rw [hn, ab6 zb]
  exact ⟨zl zb, rfl⟩
 ·exact absurd h0 (aHS hn)
theorem aFH {s t : List UInt8} {b : Bool} (hc : abW (s, #[45].toList, ()) = some (t, b, ())) (h1 : isD t) (h2 : t ≠ []) (h3 : t.length ≤ 600) (h4 : t.head? = some 48 → b = false ∧ t.length = 1) : ∃ z : Int, rdW s = some z ∧ z.natAbs = num t ∧ decide (z < 0) = b := by
 have hu : t = abV (num t) := aAa h1 h2 (by
  by_cases h0 : t.head? = some 48
  ·exact Or.inr (h4 h0).2
  ·exact Or.inl h0)
 have hs : s = if b then 45 :: t else t := by
  injection hc with hc
  simp only at hc
  split at hc
  ·rename_i hp
   obtain ⟨e1, e2⟩ := Prod.mk.inj hc
   obtain ⟨rfl, -⟩ := Prod.mk.inj e2
   cases s with
   | nil => cases hp
   | cons c s =>
    have : c = 45 := by
     have h5 : ([45] : List UInt8).isPrefixOf (c :: s) = true := hp
     simp [List.isPrefixOf] at h5
     exact h5.symm
    rw [this, ← e1]; rfl
  ·obtain ⟨e1, e2⟩ := Prod.mk.inj hc
   obtain ⟨rfl, -⟩ := Prod.mk.inj e2
   rw [← e1]; rfl
 cases b
 ·refine ⟨(num t : Int), ?_, by simp, by simp⟩
  have : s = dec (num t : Int) := by rw [akZ, ← hu, hs]; rfl
  rw [this, amT (show (abV (num t : Int).natAbs).length ≤ 600 by simp; rw [← hu]; exact h3)]
 ·have hn : num t ≠ 0 := by
   intro h0
   rw [h0, ab6 zb] at hu
   have := h4 (by rw [hu]; rfl)
   cases this.1
  refine ⟨-(num t : Int), ?_, by simp, by simp; omega⟩
  have : s = dec (-(num t : Int)) := by rw [ag0 zb, Int.natAbs_neg, yO, ← hu, hs]; rfl
  rw [this, amT (show (abV (-(num t : Int)).natAbs).length ≤ 600 by simp; rw [← hu]; exact h3)]
noncomputable def aMW (s : List UInt8) : SgT × Bool × Unit := match rdW s with | some z => (sg z, true, ()) | none => (([], false, ()), false, ())
theorem aDm (a : List UInt8) (y) (h : ah4 (a, ()) = some y) : (avK a).toO = some y := by
 have hy : y = aMW a := by injection h with h; exact h.symm
 clear h
 subst hy
 obtain ⟨t, b, hc⟩ : ∃ t b, abW (a, #[45].toList, ()) = some (t, b, ()) := ⟨_, _, rfl⟩
 have hnot : ¬ (isD t ∧ t ≠ [] ∧ t.length ≤ 600 ∧ (t.head? = some 48 → b = false ∧ t.length = 1)) → aMW a = (([], false, ()), false, ()) := fun h => by unfold aMW; rw [aFI hc h]
 have hyes : isD t → t ≠ [] → t.length ≤ 600 → (t.head? = some 48 → b = false ∧ t.length = 1) → ahF (t, ()) = some (mag (num t), ()) ∧ aMW a = ((mag (num t), b, ()), true, ()) := fun h1 h2 h3 h4 => by
  obtain ⟨z, e1, e2, e3⟩ := aFH hc h1 h2 h3 h4
  refine ⟨?_, ?_⟩
  ·unfold ahF
   rw [if_pos ⟨h1, h2, by simp only; omega⟩]
  ·unfold aMW
   rw [e1]
   show ((mag z.natAbs, decide (z < 0), ()), true, ()) = _
   rw [e2, e3]
 unfold avK
 refine uC (t, b, ()) hc ?_
 by_cases h1 : t = []
 ·rw [hnot (fun h => h.2.1 h1)]
  refine uR _ (uT (by simp [h1, len]) rfl)
 have hlen : 1 ≤ t.length := zL.2 h1
 by_cases h2 : t.length ≤ 600
 case neg =>
  rw [hnot (fun h => h2 h.2.2.1)]
  refine uR _ (uF sd (uT sd rfl))
 refine uL (false, ()) (uF sd (uF sd rfl)) ?_
 refine uO (0, ()) rfl ?_
 refine aaW (fun i : Int × Unit => ∃ k : Nat, i.1 = (k : Int) ∧ k ≤ t.length ∧ isD (t.take k)) (fun i => ((t.length : Int) - i.1).toNat) (fun _ => aMW a) ?_ _ ⟨0, rfl, by omega, by simp [isD]⟩
 rintro ⟨i, u⟩ ⟨k, h3, h4, h5⟩
 simp only at h3
 subst h3
 simp only [axO, aaN]
 rcases zt k t.length with hk | hk
 ·have e1 : t.getD k 0 = t[k] := by simp [hk]
  simp only [e1]
  by_cases c1 : t[k].toNat < 48
  ·right
   rw [hnot (fun h => by have := h.1 t[k] (yy hk); omega)]
   repeat refine za ?_
   rfl
  by_cases c2 : t[k].toNat > 57
  ·right
   rw [hnot (fun h => by have := h.1 t[k] (yy hk); omega)]
   repeat refine za ?_
   rfl
  ·left
   refine ⟨(((k + 1 : Nat) : Int), ()), ?_, ⟨k + 1, rfl, by omega, ?_⟩, by simp only; omega, zd⟩
   ·repeat refine za ?_
    simp (disch := omega) only [aaP, aaA, aaK, aaX, abZ, aaN, zn, zj, aaI, zq]
    rfl
   ·rw [zP hk, isD_append]
    refine ⟨h5, fun c hc => ?_⟩
    have := yg.1 hc
    subst this
    omega
 ·right
  have hd : isD t := by rwa [zp hk] at h5
  refine uF sd (uN ⟨by simp [asT], by exact sn⟩ ?_)
  cases ht : t with
  | nil => exact absurd ht h1
  | cons c r =>
   rw [← ht]
   have hg : gi t 0 0 = c := by rw [ht]; rfl
   simp only [hg]
   have hh : t.head? = some c := by rw [ht]; rfl
   by_cases c0 : c = 48
   ·subst c0
    refine uT (by rfl) ?_
    cases b
    ·refine uF rfl ?_
     by_cases hl : t.length = 1
     ·obtain ⟨g1, g2⟩ := hyes hd h1 h2 (fun _ => ⟨rfl, hl⟩)
      rw [g2]
      exact uF sd (uC _ g1 rfl)
     ·rw [hnot (fun h => hl (h.2.2.2 hh).2)]
      exact uT sd rfl
    ·rw [hnot (fun h => by have := (h.2.2.2 hh).1; cases this)]
     exact uT rfl rfl
   ·obtain ⟨g1, g2⟩ := hyes hd h1 h2 (fun h => by rw [hh] at h; injection h with h; exact absurd h c0)
    rw [g2]
    refine uF ?_ (uC _ g1 rfl)
    rw [beq_eq_false_iff_ne]
    intro h
    exact c0 (UInt8.toNat_inj.1 (Int.ofNat.inj h))
theorem axF {s : List UInt8} {z : Int} (h : rdW s = some z) : ah4 (s, ()) = some (sg z, true, ()) := by unfold ah4; rw [h]
theorem axG {s : List UInt8} (h : rdW s = none) : ah4 (s, ()) = some (([], false, ()), false, ()) := by unfold ah4; rw [h]
theorem aAC (a : List UInt8) (y) (h : afJ (a, ()) = some y) : (apM a).toO = some y := by
 unfold afJ at h
 unfold apM
 cases hr : rdW a with
 | none =>
  simp only [hr] at h
  exact uC _ (axG hr) (uT rfl h)
 | some z =>
  simp only [hr] at h
  exact uC _ (axF hr) (uF rfl h)
theorem aIP (n : Int) (y) (h : asH (n, ()) = some y) : (aKH n).toO = some y := by
 unfold asH at h
 split at h
 ·rename_i hp
  exact uC (dec n, ()) (by unfold au7; exact if_pos hp) h
 ·cases h
theorem aLI {n : Int} (h : adQ n) : asH (n, ()) = some (dec n, ()) := by unfold asH; rw [if_pos h]
theorem aAt {a b : Int} (h1 : Bd 7 a.natAbs) (h2 : Bd 7 b.natAbs) : aoU (sg a, sg b, ()) = some (sg (a * b), ()) := aaR (enc := fun x : Int × Int => (sg x.1, sg x.2, ())) (a, b) ⟨h1, h2⟩ (fun b hb => aCj hb)
theorem atY {s : List UInt8} {z : Int} (h : rdW s = some z) : Bd 0 z.natAbs := ar9 (afP h).1
theorem aM7 (a b : List UInt8) (y) (h : aIo (a, b, ()) = some y) : (aFi a b).toO = some y := by
 unfold aIo at h
 unfold aFi
 refine uV (uV ?_)
 cases hr : rdW a with
 | none =>
  simp only [hr] at h
  refine uC (([], false, ()), ([], false, ()), 10, ()) (by unfold apJ; simp only [hr]) (uT rfl h)
 | some z =>
  cases hb : rdW b with
  | none =>
   simp only [hr, hb] at h
   refine uC (([], false, ()), ([], false, ()), 10, ()) (by unfold apJ; simp only [hr, hb]) (uT rfl h)
  | some w =>
   simp only [hr, hb] at h
   have b1 := atY hr
   have b2 := atY hb
   refine uC (sg z, sg w, 0, ()) (by unfold apJ; simp only [hr, hb]) (uF rfl (uV ?_))
   refine uC _ (aAt (aaJ b1 zb) (aaJ b2 zb)) ?_
   refine uC _ (aIp (aaJ (aaB b1 b2) zb)) ?_
   exact h
theorem ad0 (s : List UInt8) : afJ (s, ()) = some (if (rdW s).isSome then 0 else 10, ()) := rfl
theorem aHZ (n : Nat) : atG n 1 = 0 ↔ n = 1 := by
 unfold atG
 split
 ·omega
 ·split <;> omega
theorem aEx (a : FxT) (y) (h : acE (a, ()) = some y) : (awN a).toO = some y := by
 obtain ⟨s, t, u⟩ := a
 have hs := aKR s t
 unfold acE at h
 dsimp only at h
 unfold awN
 dsimp only
 cases hn : rdW s with
 | none =>
  rw [hn] at hs
  have hs' : rdF (s, t, u) = none := hs
  rw [hs'] at h
  refine uC _ (ad0 s) (uT (by rw [hn]; rfl) h)
 | some n =>
  cases hd : rdW t with
  | none =>
   rw [hn, hd] at hs
   have hs' : rdF (s, t, u) = none := hs
   rw [hs'] at h
   refine uC _ (ad0 s) (uF (by rw [hn]; rfl) (uC _ (ad0 t) (uT (by rw [hd]; rfl) h)))
  | some d =>
   rw [hn, hd] at hs
   dsimp only at hs
   obtain ⟨f1, e1⟩ := afP hn
   obtain ⟨f2, e2⟩ := afP hd
   have b1 := atY hn
   have b2 := atY hd
   refine uC _ (ad0 s) (uF (by rw [hn]; rfl) (uC _ (ad0 t) (uF (by rw [hd]; rfl) ?_)))
   refine uC (sg n, ()) (by rw [e1]; exact aj1 (aaJ b1 zb)) ?_
   refine uC (sg d, ()) (by rw [e2]; exact aj1 (aaJ b2 zb)) ?_
   refine uC _ (asQ (aaJ b2 zb)) ?_
   by_cases hp : 0 < d
   ·refine uF ?_ ?_
    ·rw [xr hp]; rfl
    have hg := aj0 (a := n.natAbs) (b := d.natAbs) (aaJ b1 zb) (aaJ b2 zb)
    refine uC _ hg ?_
    have hc := aoW (a := Nat.gcd n.natAbs d.natAbs) (b := 1) (aaJ (aa0 b1 b2) zb) (aaJ (aaG zb) zb)
    rw [aMi] at hc
    refine uC _ hc ?_
    by_cases hcop : n.natAbs.Coprime d.natAbs
    ·rw [dif_pos ⟨hp, hcop⟩] at hs
     have hs' : rdF (s, t, u) = some ⟨n, d.natAbs, by omega, hcop⟩ := hs
     rw [hs'] at h
     refine uF ?_ h
     have : atG (Nat.gcd n.natAbs d.natAbs) 1 = 0 := (aHZ _).2 hcop
     show (atG (Nat.gcd n.natAbs d.natAbs) 1 != 0) = false
     rw [this]; rfl
    ·rw [dif_neg (fun h => hcop h.2)] at hs
     have hs' : rdF (s, t, u) = none := hs
     rw [hs'] at h
     refine uT ?_ h
     show (atG (Nat.gcd n.natAbs d.natAbs) 1 != 0) = true
     rw [xp]
     exact fun h2 => hcop ((aHZ _).1 h2)
   ·rw [dif_neg (fun h => hp h.1)] at hs
    have hs' : rdF (s, t, u) = none := hs
    rw [hs'] at h
    refine uT ?_ h
    rcases zN d 0 with h0 | h0
    ·rw [xf h0]; rfl
    ·have : d = 0 := zb
     rw [this]; rfl
theorem aaT {s : FxT} {q : Rat} (h : rdF s = some q) : acE (s, ()) = some (rt q, true, ()) := by unfold acE; dsimp only; rw [h]
theorem aaU {s : FxT} (h : rdF s = none) : acE (s, ()) = some ((([], false, ()), [], ()), false, ()) := by unfold acE; dsimp only; rw [h]
theorem aeP {k j : Nat} {q : Rat} (h : BdQ k q) (hk : k ≤ j) : BdQ j q := ⟨aaJ h.1 hk, aaJ h.2 hk⟩
theorem ag6 {s : FxT} {q : Rat} (h : rdF s = some q) : BdQ 0 q := by
 obtain ⟨h1, h2⟩ := (alJ h).1
 exact ⟨ar9 h1, ar9 h2⟩
theorem aIb {k : Nat} {p q : Rat} (h1 : BdQ k p) (h2 : BdQ k q) : BdQ (k + 2) (p + q) := by
 obtain ⟨g, h', top, t, hg, ht, hh, g0, h0, htt, e1, e2⟩ := aAm p q
 refine ⟨?_, ?_⟩
 ·rw [e1, ← acR htt h0]
  refine aaQ _ ?_
  rw [ht]
  exact aaE (aaB h1.1 (aaM (aaQ _ h2.2))) (aaB h2.1 (aaM (aaQ _ h1.2)))
 ·rw [e2]
  exact aaJ (aaZ (aaQ _ h1.2) (aaQ _ h2.2)) zb
theorem aB2 {k : Nat} {p q : Rat} (h1 : BdQ k p) (h2 : BdQ k q) : BdQ (k + 2) (p * q) := by
 obtain ⟨g, h', s, t, hg, hh, g0, h0, hs, ht, e1, e2⟩ := ay4 p q
 refine ⟨?_, ?_⟩
 ·rw [e1]
  refine aaJ (aaB (k := k) ?_ ?_) zb
  ·rw [← acR hs g0]; exact aaQ _ h1.1
  ·rw [← acR ht h0]; exact aaQ _ h2.1
 ·rw [e2]
  exact aaJ (aaZ (aaQ _ h1.2) (aaQ _ h2.2)) zb
theorem aIa {k : Nat} {p : Rat} (h : BdQ k p) (h0 : p ≠ 0) : BdQ k p⁻¹ := by
 obtain ⟨e1, e2, e3⟩ := azC h0
 exact ⟨by rw [e1]; exact h.2, by rw [e3]; exact h.1⟩
theorem aHx (a b : FxT) (y) (h : ag3 (a, b, ()) = some y) : (aBG a b).toO = some y := by
 unfold ag3 aLn at h
 dsimp only at h
 unfold aBG
 refine uV (uV ?_)
 cases ha : rdF a with
 | none =>
  simp only [ha] at h
  cases hb : rdF b with
  | none => exact uC _ (aaU ha) (uC _ (aaU hb) (uT rfl (uV (uV h))))
  | some q => exact uC _ (aaU ha) (uC _ (aaT hb) (uT rfl (uV (uV h))))
 | some p =>
  cases hb : rdF b with
  | none =>
   simp only [ha, hb] at h
   exact uC _ (aaT ha) (uC _ (aaU hb) (uF rfl (uT rfl (uV (uV h)))))
  | some q =>
   simp only [ha, hb] at h
   have b1 := ag6 ha
   have b2 := ag6 hb
   refine uC _ (aaT ha) (uC _ (aaT hb) (uF rfl (uF rfl ?_)))
   refine uC _ (aDg (aeP b1 zb) (aeP b2 zb)) (uV (uV ?_))
   exact uC _ (ajY (aeP (aIb b1 b2) zb)) h
theorem aHt (a b : FxT) (y) (h : ae1 (a, b, ()) = some y) : (aBC a b).toO = some y := by
 unfold ae1 aLn at h
 dsimp only at h
 unfold aBC
 refine uV (uV ?_)
 cases ha : rdF a with
 | none =>
  simp only [ha] at h
  cases hb : rdF b with
  | none => exact uC _ (aaU ha) (uC _ (aaU hb) (uT rfl (uV (uV h))))
  | some q => exact uC _ (aaU ha) (uC _ (aaT hb) (uT rfl (uV (uV h))))
 | some p =>
  cases hb : rdF b with
  | none =>
   simp only [ha, hb] at h
   exact uC _ (aaT ha) (uC _ (aaU hb) (uF rfl (uT rfl (uV (uV h)))))
  | some q =>
   simp only [ha, hb] at h
   have b1 := ag6 ha
   have b2 := ag6 hb
   refine uC _ (aaT ha) (uC _ (aaT hb) (uF rfl (uF rfl ?_)))
   refine uC _ (aDf (aeP b1 zb) (aeP b2 zb)) (uV (uV ?_))
   exact uC _ (ajY (aeP (aB2 b1 b2) zb)) h
theorem aHu (a b : FxT) (y) (h : ai0 (a, b, ()) = some y) : (aBD a b).toO = some y := by
 unfold ai0 at h
 dsimp only at h
 unfold aBD
 cases ha : rdF a with
 | none =>
  simp only [ha] at h
  cases hb : rdF b with
  | none => exact uC _ (aaU ha) (uC _ (aaU hb) (uT rfl h))
  | some q => exact uC _ (aaU ha) (uC _ (aaT hb) (uT rfl h))
 | some p =>
  cases hb : rdF b with
  | none =>
   simp only [ha, hb] at h
   exact uC _ (aaT ha) (uC _ (aaU hb) (uF rfl (uT rfl h)))
  | some q =>
   simp only [ha, hb] at h
   have b1 := ag6 ha
   have b2 := ag6 hb
   refine uC _ (aaT ha) (uC _ (aaT hb) (uF rfl (uF rfl ?_)))
   refine uC _ (asO _) ?_
   by_cases h0 : q = 0
   ·rw [if_pos h0] at h
    exact uT (zm (by rw [h0]; rfl)) h
   ·rw [if_neg h0] at h
    have := aLr h0
    refine uF sd ?_
    refine uC _ (aAw (aeP b2 zb) h0) ?_
    refine uC _ (aDf (aeP b1 zb) (aeP (aIa b2 h0) zb)) ?_
    exact uC _ (ajY (aeP (aB2 b1 (aIa b2 h0)) zb)) h
theorem aHv (a b : FxT) (y) (h : ad7 (a, b, ()) = some y) : (aBE a b).toO = some y := by
 unfold ad7 at h
 dsimp only at h
 unfold aBE
 refine uV (uV ?_)
 cases ha : rdF a with
 | none =>
  simp only [ha] at h
  cases hb : rdF b with
  | none => exact uC _ (aaU ha) (uC _ (aaU hb) (uT rfl h))
  | some q => exact uC _ (aaU ha) (uC _ (aaT hb) (uT rfl h))
 | some p =>
  cases hb : rdF b with
  | none =>
   simp only [ha, hb] at h
   exact uC _ (aaT ha) (uC _ (aaU hb) (uF rfl (uT rfl h)))
  | some q =>
   simp only [ha, hb] at h
   have b1 := ag6 ha
   have b2 := ag6 hb
   exact uC _ (aaT ha) (uC _ (aaT hb) (uF rfl (uF rfl (uC _ (aE7 (aeP b1 zb) (aeP b2 zb)) h))))
theorem aBF (a : FxT) (y) (h : afL (a, ()) = some y) : (arM a).toO = some y := by
 unfold afL at h
 dsimp only at h
 unfold arM
 cases ha : rdF a with
 | none =>
  simp only [ha] at h
  exact uC _ (aaU ha) (uT rfl h)
 | some q =>
  simp only [ha] at h
  exact uC _ (aaT ha) (uF rfl h)
theorem aEA (a : FxT) (y) (h : afW (a, ()) = some y) : (awP a).toO = some y := by
 unfold afW at h
 dsimp only at h
 unfold awP
 cases ha : rdF a with
 | none =>
  simp only [ha] at h
  exact uC _ (aaU ha) (uT rfl h)
 | some q =>
  simp only [ha] at h
  exact uC _ (aaT ha) (uF rfl (uC _ (asQ (aaJ (ag6 ha).1 zb)) h))
theorem aEB (n d : List UInt8) (y) (h : amI (n, d, ()) = some y) : (awQ n d).toO = some y := by
 unfold amI at h
 dsimp only at h
 unfold awQ
 cases hn : rdW n with
 | none =>
  simp only [hn] at h
  exact uC _ (ad0 n) (uT (by rw [hn]; rfl) h)
 | some a =>
  cases hd : rdW d with
  | none =>
   simp only [hn, hd] at h
   exact uC _ (ad0 n) (uF (by rw [hn]; rfl) (uC _ (ad0 d) (uT (by rw [hd]; rfl) h)))
  | some b =>
   simp only [hn, hd] at h
   have b1 := atY hn
   have b2 := atY hd
   refine uC _ (ad0 n) (uF (by rw [hn]; rfl) (uC _ (ad0 d) (uF (by rw [hd]; rfl) ?_)))
   refine uC (sg a, ()) (by rw [(afP hn).2]; exact aj1 (aaJ b1 zb)) ?_
   refine uC (sg b, ()) (by rw [(afP hd).2]; exact aj1 (aaJ b2 zb)) ?_
   refine uC _ (asO _) ?_
   unfold ofQ at h
   by_cases h0 : b = 0
   ·rw [if_pos h0] at h
    exact uT sd h
   ·rw [if_neg h0] at h
    refine uF sd ?_
    obtain ⟨s, hs, hv⟩ : ∃ s : Int, s.natAbs = a.natAbs ∧ (s = 0 ∨ (!(decide (a < 0) == decide (b < 0))) = decide (s < 0)) ∧ Rat.divInt a b = mkRat s b.natAbs := by
     rcases zN b 0 with c | c
     ·refine ⟨-a, by omega, ?_, ?_⟩
      ·by_cases ha : a = 0
       ·left; omega
       ·right
        rw [zm c]
        rcases zN a 0 with c2 | c2
        ·rw [zm c2, zl zb]; rfl
        ·rw [zl zb, zm zb]; rfl
      ·rw [← Rat.neg_divInt_neg, ← xo]
       congr 1; omega
     ·refine ⟨a, rfl, ?_, ?_⟩
      ·right
       rw [zl (show ¬ b < 0 by omega)]
       cases decide (a < 0) <;> rfl
      ·rw [← xo]
       congr 1; omega
    obtain ⟨hv1, hv2⟩ := hv
    rw [hv2] at h
    refine uC (sg s, ()) (ac0 hs.symm hv1) ?_
    refine uC _ (aB6 (by rw [hs]; exact aaJ b1 zb) (aaJ b2 zb) zb) ?_
    refine uC _ (ajY ?_) h
    obtain ⟨g, t, hg, g0, e0, e1, e2⟩ := aeR s (d := b.natAbs) zb
    refine ⟨?_, ?_⟩
    ·rw [e1, ← acR e0 g0, hs]; exact aaJ (aaQ _ b1) zb
    ·rw [e2]; exact aaJ (aaQ _ b2) zb
theorem afF {z : Int} (h : adQ z) : Fit z := by
 unfold adQ at h
 have : (abV z.natAbs).length ≤ 20 := (adB zb).2 zb
 unfold Fit; omega
theorem aKl (n d : Int) (y) (h : akE (n, d, ()) = some y) : (aLx n d).toO = some y := by
 unfold akE at h
 split at h
 ·rename_i hp
  refine uC _ (aLI hp.1) (uC _ (aLI hp.2) ?_)
  refine uC (ofQ n d) ?_ h
  unfold amI
  simp only [amT (afF hp.1), amT (afF hp.2)]
 ·cases h
theorem arE {a b : Int} (h : Fit b) (hab : a.natAbs ≤ b.natAbs) : Fit a := by
 unfold Fit at *
 rw [adB zb] at *
 omega
theorem aNq (a b : Rat) : a < b ∨ a = b ∨ b < a := by grind
theorem aHp {n : Int} {d : Nat} (hd : d ≠ 0) (h1 : Fit n) (h2 : Fit d) : aiA (mkRat n d) := by
 obtain ⟨g, t, hg, g0, e0, e1, e2⟩ := aeR n hd
 refine ⟨arE h1 ?_, arE h2 ?_⟩
 ·rw [e1, ← acR e0 g0]; exact wC _ _
 ·rw [e2]; simp only [yO]; exact wC _ _
theorem aGC {n : Int} {d : Nat} (hd : d ≠ 0) (h1 : Fit n) (h2 : Fit d) : ofQ n d = (fx (mkRat n d), 0, ()) := by
 unfold ofQ
 rw [if_neg zb, xo, amL (aHp hd h1 h2)]
theorem aLJ {n : Int} {d : Nat} (hn : adQ n) (hd : d ≠ 0) (h2 : d ≤ 9223372036854775807) : akE (n, (d : Int), ()) = some (fx (mkRat n d), 0, ()) := by
 have hd2 : adQ (d : Int) := ⟨by omega, by omega⟩
 unfold akE
 rw [if_pos ⟨hn, hd2⟩]
 simp only [aGC hd (afF hn) (afF hd2)]
theorem av6 (n : Int) {d : Nat} (hd : d ≠ 0) : mkRat n d * (d : Rat) = (n : Rat) := by
 rw [wk]
 exact Rat.div_mul_cancel (by simpa using hd)
theorem auQ {n k : Nat} (h : n < 10 ^ k) (hk : k ≤ 600) : Fit (n : Int) := by
 show (abV n).length ≤ 600
 have h2 : (abV n).length ≤ k + 1 := acH (zM h (zQ zb zb))
 rcases zy k with h0 | h0
 ·omega
 ·have := (adB h0).2 h
  omega
theorem aKE {n : Int} {d : Nat} (hn : adQ n) (hd : d ≠ 0) (h2 : d ≤ 9223372036854775807) : axD (n, (d : Int), ()) = some (fx (mkRat n d), ()) := by
 have hd2 : adQ (d : Int) := ⟨by omega, by omega⟩
 unfold axD
 rw [if_pos ⟨hn, hd2⟩]
 simp only [aGC hd (afF hn) (afF hd2)]
theorem aKy (n : Int) (y) (h : asL (n, ()) = some y) : (aBZ n).toO = some y := by
 unfold asL at h
 split at h
 ·rename_i hp
  exact uC _ (aKE (d := 1) hp zb zb) h
 ·cases h
theorem aqQ (n : Int) : mkRat n 1 = (n : Rat) := by rw [wk, show ((1 : Nat) : Rat) = 1 from rfl]; grind
theorem aKh {n : Int} (h : adQ n) : aiA (mkRat n 1) := aHp zb (afF h) (afF ⟨by omega, by omega⟩)
theorem aMT {p q : Rat} (hp : aiA p) (hq : aiA q) : ad7 (fx p, fx q, ()) = some (aFa p q, 0, ()) := by
 unfold ad7
 simp only [agM hp, agM hq]
theorem alO (p q : Rat) : aFa p q > 0 ↔ q < p := by
 unfold aFa
 split
 ·rename_i h; constructor
  ·intro h2; omega
  ·intro h2; exact absurd h2 (by grind)
 ·split
  ·rename_i h; subst h; simp
  ·rename_i h1 h2
   constructor
   ·intro _; rcases aNq p q with c | c | c
    ·exact absurd c h1
    ·exact absurd c h2
    ·exact c
   ·intro _; omega
abbrev zs : aIm := (0, 0, 0, 0, 0, 0, ())
theorem axV {α : Type} {s t : List α} {k : Nat} (hs : k < s.length) (ht : k < t.length) (h : s.take k = t.take k) (he : s[k] = t[k]) : s.take (k + 1) = t.take (k + 1) := by
 rw [zP hs, zP ht, h, he]
set_option maxRecDepth 100000
open Go Go.Vg Go.Proofs
noncomputable section
def aAS : LTab := []
def akG (n : Bool × List Int × Unit) (d : Bool × List Int × Unit) : TT uh :=
 .ite (d.1)
 (.call (ahH ((n.1, n.2.1, ()), ())) ai5 fun y =>
 .call (ahH ((d.1, d.2.1, ()), ())) ai5 fun y1 =>
 .call (aeG ((y.1.1, y.1.2.1, ()), (y1.1.1, y1.1.2.1, ()), ())) ai5 fun y2 =>
 .call (aeY ((y.1.1, y.1.2.1, ()), (y2.1.1, y2.1.2.1, ()), ())) aOA fun y3 =>
 .call (aeY ((y1.1.1, y1.1.2.1, ()), (y2.1.1, y2.1.2.1, ()), ())) aOA fun y4 =>
 .ok ((((y3.1.1, y3.1.2.1, ()), (y4.1.1, y4.1.2.1, ()), ()), ())))
 (.call (aeG ((n.1, n.2.1, ()), (d.1, d.2.1, ()), ())) ai5 fun y5 =>
 .call (aeY ((n.1, n.2.1, ()), (y5.1.1, y5.1.2.1, ()), ())) aOA fun y6 =>
 .call (aeY ((d.1, d.2.1, ()), (y5.1.1, y5.1.2.1, ()), ())) aOA fun y7 =>
 .ok ((((y6.1.1, y6.1.2.1, ()), (y7.1.1, y7.1.2.1, ()), ()), ())))
def aDA : LTab := []
def at0 (n : Int) (d : Int) : TT uh :=
 .call (acC (n, ())) ai5 fun y =>
 .call (acC (d, ())) ai5 fun y1 =>
 .call (aeV (y.1, y1.1, ())) aIL fun y2 =>
 .ok ((((y2.1.1.1, y2.1.1.2.1, ()), (y2.1.2.1.1, y2.1.2.1.2.1, ()), ()), ()))
def aDz : LTab := []
def amV (a : List UInt8 × List UInt8 × Unit) : TT uc :=
 .call (aeX (a.1, ())) Dd1 fun y =>
 .ite (!y.1)
 (.ok ((false, ())))
 (.call (aeX (a.2.1, ())) Dd1 fun y1 =>
 .ite (!y1.1)
 (.ok ((false, ())))
 (.call (ak9 (a.1, ())) ai5 fun y2 =>
 .call (ak9 (a.2.1, ())) ai5 fun y3 =>
 .ite (y3.1.1)
 (.ok ((false, ())))
 (.ite (len y3.1.2.1 == 0)
 (.ok ((false, ())))
 (.call (aeG ((y2.1.1, y2.1.2.1, ()), (y3.1.1, y3.1.2.1, ()), ())) ai5 fun y4 =>
 .call (aiZ (y4.1, ())) Dd2 fun y5 =>
 .ok ((y5.1 == #[49].toList, ()))))))
def aL3 : LTab := []
def aFP (a : List UInt8 × List UInt8 × Unit) : TT uh :=
 .call (ak9 (a.1, ())) ai5 fun y =>
 .call (ak9 (a.2.1, ())) ai5 fun y1 =>
 .ok ((((y.1.1, y.1.2.1, ()), (y1.1.1, y1.1.2.1, ()), ()), ()))
def aJc : LTab := []
def aCq (r : vH × vH × Unit) : TT ua :=
 .call (amC ((r.1.1, r.1.2.1, ()), ())) aO4 fun y =>
 .call (amC ((r.2.1.1, r.2.1.2.1, ()), ())) aO4 fun y1 =>
 .ite (y.2.1 != 0)
 (.ok (((#[].toList, #[].toList, ()), 6, ())))
 (.ite (y1.2.1 != 0)
 (.ok (((#[].toList, #[].toList, ()), 6, ())))
 (.ok (((y.1, y1.1, ()), 0, ()))))
def aFN (a : vH × vH × Unit) (b : vH × vH × Unit) : TT uh :=
 .call (aeF ((a.1.1, a.1.2.1, ()), (b.2.1.1, b.2.1.2.1, ()), ())) ai5 fun y =>
 .call (aeF ((b.1.1, b.1.2.1, ()), (a.2.1.1, a.2.1.2.1, ()), ())) ai5 fun y1 =>
 .call (afK (y.1, y1.1, ())) ai5 fun y2 =>
 .call (aeF ((a.2.1.1, a.2.1.2.1, ()), (b.2.1.1, b.2.1.2.1, ()), ())) ai5 fun y3 =>
 .call (aeV ((y2.1.1, y2.1.2.1, ()), y3.1, ())) aIL fun y4 =>
 .ok ((((y4.1.1.1, y4.1.1.2.1, ()), (y4.1.2.1.1, y4.1.2.1.2.1, ()), ()), ()))
def aDy : LTab := []
def atZ (a : vH × vH × Unit) (b : vH × vH × Unit) : TT uh :=
 .call (aeF ((a.1.1, a.1.2.1, ()), (b.1.1, b.1.2.1, ()), ())) ai5 fun y =>
 .call (aeF ((a.2.1.1, a.2.1.2.1, ()), (b.2.1.1, b.2.1.2.1, ()), ())) ai5 fun y1 =>
 .call (aeV (y.1, y1.1, ())) aIL fun y2 =>
 .ok ((((y2.1.1.1, y2.1.1.2.1, ()), (y2.1.2.1.1, y2.1.2.1.2.1, ()), ()), ()))
def aL2 : LTab := []
def aAR (n : Int) (d : Int) : TT ua :=
 .ite (d == 0)
 (.ok (((#[].toList, #[].toList, ()), 7, ())))
 (.call (ajP (n, d, ())) aIL fun y =>
 .call (ajQ (y.1, ())) avF fun y1 =>
 .ok (((y1.1.1, y1.1.2.1, ()), y1.2.1, ())))
def aJe (a : List UInt8 × List UInt8 × Unit) (b : List UInt8 × List UInt8 × Unit) : TT ua :=
 .call (adM ((a.1, a.2.1, ()), ())) Dd1 fun y =>
 .ite (!y.1)
 (.ok (((#[].toList, #[].toList, ()), 20, ())))
 (.call (adM ((b.1, b.2.1, ()), ())) Dd1 fun y1 =>
 .ite (!y1.1)
 (.ok (((#[].toList, #[].toList, ()), 20, ())))
 (.call (ak8 ((a.1, a.2.1, ()), ())) aIL fun y2 =>
 .call (ak8 ((b.1, b.2.1, ()), ())) aIL fun y3 =>
 .call (asJ (y2.1, y3.1, ())) aIL fun y4 =>
 .call (ajQ (y4.1, ())) avF fun y5 =>
 .ok (((y5.1.1, y5.1.2.1, ()), y5.2.1, ()))))
def aJd : LTab := []
def aCr (a : List UInt8 × List UInt8 × Unit) (b : List UInt8 × List UInt8 × Unit) : TT ua :=
 .call (adM ((a.1, a.2.1, ()), ())) Dd1 fun y =>
 .ite (!y.1)
 (.ok (((#[].toList, #[].toList, ()), 20, ())))
 (.call (adM ((b.1, b.2.1, ()), ())) Dd1 fun y1 =>
 .ite (!y1.1)
 (.ok (((#[].toList, #[].toList, ()), 20, ())))
 (.call (ak8 ((a.1, a.2.1, ()), ())) aIL fun y2 =>
 .call (ak8 ((b.1, b.2.1, ()), ())) aIL fun y3 =>
 .call (ajO (y2.1, y3.1, ())) aIL fun y4 =>
 .call (ajQ (y4.1, ())) avF fun y5 =>
 .ok (((y5.1.1, y5.1.2.1, ()), y5.2.1, ()))))
end
end Go.Vs
