/-
  Trees of what the functions compute, and their laws. Own work; no condition.
-/
import Derived.Test.YtakjojajnblpoaaGreatDoorClL2
import Derived.Test.YtakjojajnblpoaaGreatDoorProg
set_option linter.unusedVariables false
set_option linter.unusedSimpArgs false
set_option maxRecDepth 100000
namespace Go.Vs
open Go Go.Vg Go.Proofs
noncomputable section
def aRt : LTab := []
def aAS (lo : Int) (hi : Int) : TT uP :=
 .ite (decide (-1000000000000000000 ≤ lo))
 (.ite (decide (lo ≤ hi))
 (.ok ((decide (hi ≤ 1000000000000000000), ())))
 (.ok ((false, ()))))
 (.ok ((false, ())))
def aTA : LTab := []
def aE0 (lo : Int) (hi : Int) : TT uH :=
 .call (aeQ (lo, hi, ())) Dd1 fun y =>
 .ite (!y.1)
 (.ok (((0, 0, ()), 6, ())))
 (.ok (((lo, hi, ()), 0, ())))
def aRx : LTab := []
def aAU (b : Int × Int × Unit) : TT uS :=
 .call (aeQ (b.1, b.2.1, ())) Dd1 fun y =>
 .ite (!y.1)
 (.ok ((30, ())))
 (.ok ((0, ())))
def aVN : LTab := []
def aRv (lo : Int) (hi : Int) : TT uH :=
 .call (aeQ (lo, hi, ())) Dd1 fun y =>
 .ite (!y.1)
 (.ok (((0, 0, ()), 30, ())))
 (.ok (((lo, hi, ()), 0, ())))
def aRu : LTab := []
def aHC (l : List Int) : TT uS :=
 .call (aA2 (l, ())) Dd6 fun y =>
 .ok ((y.1, ()))
def aHD : LTab := []
def aw5 (l : List Int) : TT uS :=
 .call (aA3 (l, ())) Dd6 fun y =>
 .ok ((y.1, ()))
def aNU : LTab := []
def avU (a : List UInt8 × List UInt8 × Unit) : TT uH :=
 .call (amZ ((a.1, a.2.1, ()), 1000000000000, ())) aDr fun y =>
 .ite (y.2.1 != 0)
 (.ok (((0, 0, ()), y.2.1, ())))
 (.call (am5 (y.1, 1000000000000, ())) adZ fun y1 =>
 .ite (y1.2.1 != 0)
 (.ok (((0, 0, ()), y1.2.1, ())))
 (.call (agO ((a.1, a.2.1, ()), (y1.1.1, y1.1.2.1, ()), ())) aDr fun y2 =>
 .ite (y2.2.1 != 0)
 (.ok (((0, 0, ()), y2.2.1, ())))
 (.call (aeQ (y.1, y.1, ())) Dd1 fun y3 =>
 .ite (!y3.1)
 (.ok (((0, 0, ()), 6, ())))
 (.call (aj3 (w64 (y.1 + if 0 < y2.1 then 0 else y2.1), w64 (y.1 + if 0 > y2.1 then 0 else y2.1), ())) am9 fun y4 =>
 .ok (((y4.1.1, y4.1.2.1, ()), y4.2.1, ()))))))
def aU6 : LTab := [(113, 26, 13312, ⟨0, (Int) × Unit, .dat (.s 11) uq <| .nil, [10, 9, 4, 0], [8, 7, 2, 1, 0], 0⟩)]
def as5 (a : Int × Int × Unit) (b : Int × Int × Unit) (i : (Int) × Unit) : TT (uY ⊕ uH) :=
 .ite (decide (i.1 < (↑2 : Int)))
 (.need (inb i.1 (↑2 : Int)) <| .call (aeQ ((List.getD [(a.1, a.2.1, ()), (b.1, b.2.1, ())] (0 + Int.toNat i.1) (0, 0, ())).1, (List.getD [(a.1, a.2.1, ()), (b.1, b.2.1, ())] (0 + Int.toNat i.1) (0, 0, ())).2.1, ())) Dd1 fun y =>
 .ite (!y.1)
 (.ok (.inr (((0, 0, ()), 30, ()))))
 (.tt <| .lt (w64 (i.1 + 1) : Int) fun z => .triv (((z : Int) = z) ∧ (((↑2 : Int) : Int) = (↑2 : Int)) ∧ (((7) = (7)) ∧ (((0) = (0)) ∧ (((2) = (2)) ∧ ((true) = (true))))) ∧ (((8) = (8)) ∧ (((0) = (0)) ∧ ((true) = (true)))) ∧ (((201 : FuncId) = 201) ∧ (True ∧ ((((0) = (0)) ∧ (((0) = (0)) ∧ ((true) = (true)))) ∧ ((((1) = (1)) ∧ (((0) = (0)) ∧ ((true) = (true)))) ∧ True)))) ∧ True) ⟨rfl, rfl, ⟨rfl, ⟨rfl, ⟨rfl, rfl⟩⟩⟩, ⟨rfl, ⟨rfl, rfl⟩⟩, ⟨rfl, ⟨trivial, ⟨⟨rfl, ⟨rfl, rfl⟩⟩, ⟨⟨rfl, ⟨rfl, rfl⟩⟩, trivial⟩⟩⟩⟩, trivial⟩ <| .vW (vV uz <| vV (ua 53 ([(a.1, a.2.1, ()), (b.1, b.2.1, ())] : List uv)) <| vV uz <| vV (vZ 53 b.1 b.2.1) <| vV (vZ 53 a.1 a.2.1) True) <| .ok (.inl ((z, ())))))
 (.tt <| .tt <| .call (aj3 (w64 (a.1 + b.1), w64 (a.2.1 + b.2.1), ())) am9 fun y1 =>
 .ok (.inr (((y1.1.1, y1.1.2.1, ()), y1.2.1, ()))))
def aKd (a : Int × Int × Unit) (b : Int × Int × Unit) : TT uH :=
 .tt <| .tt <| .loop 0 (.tt <| .triv (((0 : Int) = 0) ∧ (((↑2 : Int) : Int) = (↑2 : Int)) ∧ (((7) = (7)) ∧ (((0) = (0)) ∧ (((2) = (2)) ∧ ((true) = (true))))) ∧ (((8) = (8)) ∧ (((0) = (0)) ∧ ((true) = (true)))) ∧ (((201 : FuncId) = 201) ∧ (True ∧ ((((0) = (0)) ∧ (((0) = (0)) ∧ ((true) = (true)))) ∧ ((((1) = (1)) ∧ (((0) = (0)) ∧ ((true) = (true)))) ∧ True)))) ∧ True) ⟨rfl, rfl, ⟨rfl, ⟨rfl, ⟨rfl, rfl⟩⟩⟩, ⟨rfl, ⟨rfl, rfl⟩⟩, ⟨rfl, ⟨trivial, ⟨⟨rfl, ⟨rfl, rfl⟩⟩, ⟨⟨rfl, ⟨rfl, rfl⟩⟩, trivial⟩⟩⟩⟩, trivial⟩ <| .vW (vV uz <| vV (ua 53 ([(a.1, a.2.1, ()), (b.1, b.2.1, ())] : List uv)) <| vV uz <| vV (vZ 53 b.1 b.2.1) <| vV (vZ 53 a.1 a.2.1) True) <| .ok ((0, ()))) (as5 a b)
def aTC : LTab := [(113, 26, 20480, ⟨0, (Int) × Unit, .dat (.s 11) uq <| .nil, [10, 9, 4, 0], [15, 14, 9, 8, 7, 6, 2, 1, 0], 0⟩)]
def aoH (a : Int × Int × Unit) (b : Int × Int × Unit) (i : (Int) × Unit) : TT (uY ⊕ uH) :=
 .ite (decide (i.1 < (↑2 : Int)))
 (.need (inb i.1 (↑2 : Int)) <| .call (aeQ ((List.getD [(a.1, a.2.1, ()), (b.1, b.2.1, ())] (0 + Int.toNat i.1) (0, 0, ())).1, (List.getD [(a.1, a.2.1, ()), (b.1, b.2.1, ())] (0 + Int.toNat i.1) (0, 0, ())).2.1, ())) Dd1 fun y =>
 .ite (!y.1)
 (.ok (.inr (((0, 0, ()), 30, ()))))
 (.tt <| .lt (w64 (i.1 + 1) : Int) fun z => .triv (((z : Int) = z) ∧ (((↑2 : Int) : Int) = (↑2 : Int)) ∧ (((14) = (14)) ∧ (((0) = (0)) ∧ (((2) = (2)) ∧ ((true) = (true))))) ∧ (((15) = (15)) ∧ (((0) = (0)) ∧ ((true) = (true)))) ∧ (((230 : FuncId) = 230) ∧ (True ∧ ((((7) = (7)) ∧ (((0) = (0)) ∧ ((true) = (true)))) ∧ ((((8) = (8)) ∧ (((0) = (0)) ∧ ((true) = (true)))) ∧ ((((6) = (6)) ∧ (((0) = (0)) ∧ ((true) = (true)))) ∧ True))))) ∧ True) ⟨rfl, rfl, ⟨rfl, ⟨rfl, ⟨rfl, rfl⟩⟩⟩, ⟨rfl, ⟨rfl, rfl⟩⟩, ⟨rfl, ⟨trivial, ⟨⟨rfl, ⟨rfl, rfl⟩⟩, ⟨⟨rfl, ⟨rfl, rfl⟩⟩, ⟨⟨rfl, ⟨rfl, rfl⟩⟩, trivial⟩⟩⟩⟩⟩, trivial⟩ <| .vW (vV uz <| vV (ua 53 ([(a.1, a.2.1, ()), (b.1, b.2.1, ())] : List uv)) <| vV uz <| vV (vZ 53 b.1 b.2.1) <| vV (vZ 53 a.1 a.2.1) <| vV (ui 3 (2 : Int)) <| vV uz <| vV (vZ 53 b.1 b.2.1) <| vV (vZ 53 a.1 a.2.1) True) <| .ok (.inl ((z, ())))))
 (.tt <| .tt <| .ite ((match a.1 == b.1 with | true => (match a.2.1 == b.2.1 with | true => true | false => false) | false => false))
 (.ok (.inr (((a.1, a.2.1, ()), 0, ()))))
 (.triv (asT Int 0 ≤ 2 ∧ 2 < (↑4 : Int)) zf <| .call (aA5 (List.take 2 [a.1, b.1], ())) Dd6 fun y1 =>
 .call (aoU (List.take 2 [a.2.1, b.2.1], ())) Dd6 fun y2 =>
 .ite (decide (y1.1 > y2.1))
 (.ok (.inr (((0, 0, ()), 4, ()))))
 (.ok (.inr (((y1.1, y2.1, ()), 0, ()))))))
def aE1 (a : Int × Int × Unit) (b : Int × Int × Unit) : TT uH :=
 .tt <| .tt <| .tt <| .tt <| .loop 0 (.tt <| .triv (((0 : Int) = 0) ∧ (((↑2 : Int) : Int) = (↑2 : Int)) ∧ (((14) = (14)) ∧ (((0) = (0)) ∧ (((2) = (2)) ∧ ((true) = (true))))) ∧ (((15) = (15)) ∧ (((0) = (0)) ∧ ((true) = (true)))) ∧ (((230 : FuncId) = 230) ∧ (True ∧ ((((7) = (7)) ∧ (((0) = (0)) ∧ ((true) = (true)))) ∧ ((((8) = (8)) ∧ (((0) = (0)) ∧ ((true) = (true)))) ∧ ((((6) = (6)) ∧ (((0) = (0)) ∧ ((true) = (true)))) ∧ True))))) ∧ True) ⟨rfl, rfl, ⟨rfl, ⟨rfl, ⟨rfl, rfl⟩⟩⟩, ⟨rfl, ⟨rfl, rfl⟩⟩, ⟨rfl, ⟨trivial, ⟨⟨rfl, ⟨rfl, rfl⟩⟩, ⟨⟨rfl, ⟨rfl, rfl⟩⟩, ⟨⟨rfl, ⟨rfl, rfl⟩⟩, trivial⟩⟩⟩⟩⟩, trivial⟩ <| .vW (vV uz <| vV (ua 53 ([(a.1, a.2.1, ()), (b.1, b.2.1, ())] : List uv)) <| vV uz <| vV (vZ 53 b.1 b.2.1) <| vV (vZ 53 a.1 a.2.1) <| vV (ui 3 (2 : Int)) <| vV uz <| vV (vZ 53 b.1 b.2.1) <| vV (vZ 53 a.1 a.2.1) True) <| .ok ((0, ()))) (aoH a b)
def aRw : LTab := [(113, 26, 13312, ⟨0, (Int) × Unit, .dat (.s 11) uq <| .nil, [10, 9, 4, 0], [8, 7, 3, 2, 1, 0], 0⟩)]
def ak2 (b : Int × Int × Unit) (lo : Int) (hi : Int) (i : (Int) × Unit) : TT (uY ⊕ uH) :=
 .ite (decide (i.1 < (↑1 : Int)))
 (.need (inb i.1 (↑1 : Int)) <| .call (aeQ ((List.getD [(b.1, b.2.1, ())] (0 + Int.toNat i.1) (0, 0, ())).1, (List.getD [(b.1, b.2.1, ())] (0 + Int.toNat i.1) (0, 0, ())).2.1, ())) Dd1 fun y =>
 .ite (!y.1)
 (.ok (.inr (((0, 0, ()), 30, ()))))
 (.tt <| .lt (w64 (i.1 + 1) : Int) fun z => .triv (((z : Int) = z) ∧ (((↑1 : Int) : Int) = (↑1 : Int)) ∧ (((7) = (7)) ∧ (((0) = (0)) ∧ (((1) = (1)) ∧ ((true) = (true))))) ∧ (((8) = (8)) ∧ (((0) = (0)) ∧ ((true) = (true)))) ∧ (((114 : FuncId) = 114) ∧ (True ∧ ((((1) = (1)) ∧ (((0) = (0)) ∧ ((true) = (true)))) ∧ ((((2) = (2)) ∧ (((0) = (0)) ∧ ((true) = (true)))) ∧ ((((0) = (0)) ∧ (((0) = (0)) ∧ ((true) = (true)))) ∧ True))))) ∧ True) ⟨rfl, rfl, ⟨rfl, ⟨rfl, ⟨rfl, rfl⟩⟩⟩, ⟨rfl, ⟨rfl, rfl⟩⟩, ⟨rfl, ⟨trivial, ⟨⟨rfl, ⟨rfl, rfl⟩⟩, ⟨⟨rfl, ⟨rfl, rfl⟩⟩, ⟨⟨rfl, ⟨rfl, rfl⟩⟩, trivial⟩⟩⟩⟩⟩, trivial⟩ <| .vW (vV uz <| vV (ua 53 ([(b.1, b.2.1, ())] : List uv)) <| vV uz <| vV (ui 3 hi) <| vV (ui 3 lo) <| vV (vZ 53 b.1 b.2.1) True) <| .ok (.inl ((z, ())))))
 (.tt <| .tt <| .call (aeQ (lo, hi, ())) Dd1 fun y1 =>
 .ite (!y1.1)
 (.ok (.inr (((0, 0, ()), 2, ()))))
 (.call (aj3 (if hi < if lo > b.1 then lo else b.1 then hi else if lo > b.1 then lo else b.1, if hi < if lo > b.2.1 then lo else b.2.1 then hi else if lo > b.2.1 then lo else b.2.1, ())) am9 fun y2 =>
 .ok (.inr (((y2.1.1, y2.1.2.1, ()), y2.2.1, ())))))
def aAT (b : Int × Int × Unit) (lo : Int) (hi : Int) : TT uH :=
 .tt <| .tt <| .loop 0 (.tt <| .triv (((0 : Int) = 0) ∧ (((↑1 : Int) : Int) = (↑1 : Int)) ∧ (((7) = (7)) ∧ (((0) = (0)) ∧ (((1) = (1)) ∧ ((true) = (true))))) ∧ (((8) = (8)) ∧ (((0) = (0)) ∧ ((true) = (true)))) ∧ (((114 : FuncId) = 114) ∧ (True ∧ ((((1) = (1)) ∧ (((0) = (0)) ∧ ((true) = (true)))) ∧ ((((2) = (2)) ∧ (((0) = (0)) ∧ ((true) = (true)))) ∧ ((((0) = (0)) ∧ (((0) = (0)) ∧ ((true) = (true)))) ∧ True))))) ∧ True) ⟨rfl, rfl, ⟨rfl, ⟨rfl, ⟨rfl, rfl⟩⟩⟩, ⟨rfl, ⟨rfl, rfl⟩⟩, ⟨rfl, ⟨trivial, ⟨⟨rfl, ⟨rfl, rfl⟩⟩, ⟨⟨rfl, ⟨rfl, rfl⟩⟩, ⟨⟨rfl, ⟨rfl, rfl⟩⟩, trivial⟩⟩⟩⟩⟩, trivial⟩ <| .vW (vV uz <| vV (ua 53 ([(b.1, b.2.1, ())] : List uv)) <| vV uz <| vV (ui 3 hi) <| vV (ui 3 lo) <| vV (vZ 53 b.1 b.2.1) True) <| .ok ((0, ()))) (ak2 b lo hi)
def aUd : LTab := [(251, 3, 1024, ⟨0, Unit, .nil, [2, 0], [], 0⟩), (251, 122, 6144, ⟨1, (Int) × (Int) × Unit, .dat (.s 4) uq <| .dat (.s 3) uq <| .nil, [2, 0], [], 0⟩)]
def aKx (x : List Int) (j : Unit) (i : (Int) × (Int) × Unit) : TT (uQ ⊕ uS) :=
 .ite (decide (i.1 < len x))
 (.need (inb i.1 (len x)) <| .tt <| .lt (w64 (i.1 + 1) : Int) fun z1 => .lt (if gi x i.1 0 < i.2.1 then gi x i.1 0 else i.2.1 : Int) fun z2 => .vW (vY z2 z1 (0 : Int) x) <| .tr <| .ok (.inl ((z1, z2, ()))))
 (.ok (.inr ((i.2.1, ()))))
def aSh (x : List Int) (j : Unit) : TT uS :=
 .need (asT Int 0 ≤ 0 ∧ 0 < len x) <| .loop 1 (.tt <| .lt (gi x 0 0 : Int) fun z => .vW (vY z (1 : Int) (0 : Int) x) <| .tr <| .ok ((1, z, ()))) (aKx x j)
def aIm (x : List Int) : TT uS :=
 .join 0 (ι := Unit) (.ite (decide (len x < 1))
 (.bad)
 (.tt <| .vW (ui (0 : Int) x) <| .tr <| .ok (.inl (())))) (aSh x)
def aUe : LTab := [(252, 3, 1024, ⟨0, Unit, .nil, [2, 0], [], 0⟩), (252, 122, 6144, ⟨1, (Int) × (Int) × Unit, .dat (.s 4) uq <| .dat (.s 3) uq <| .nil, [2, 0], [], 0⟩)]
def aKy (x : List Int) (j : Unit) (i : (Int) × (Int) × Unit) : TT (uQ ⊕ uS) :=
 .ite (decide (i.1 < len x))
 (.need (inb i.1 (len x)) <| .tt <| .lt (w64 (i.1 + 1) : Int) fun z1 => .lt (if gi x i.1 0 > i.2.1 then gi x i.1 0 else i.2.1 : Int) fun z2 => .vW (vY z2 z1 (0 : Int) x) <| .tr <| .ok (.inl ((z1, z2, ()))))
 (.ok (.inr ((i.2.1, ()))))
def aSi (x : List Int) (j : Unit) : TT uS :=
 .need (asT Int 0 ≤ 0 ∧ 0 < len x) <| .loop 1 (.tt <| .lt (gi x 0 0 : Int) fun z => .vW (vY z (1 : Int) (0 : Int) x) <| .tr <| .ok ((1, z, ()))) (aKy x j)
def aIn (x : List Int) : TT uS :=
 .join 0 (ι := Unit) (.ite (decide (len x < 1))
 (.bad)
 (.tt <| .vW (ui (0 : Int) x) <| .tr <| .ok (.inl (())))) (aSi x)
def aI2 : LTab := []
def aqU (n : Int) : TT tl :=
 .call (aLs (#[48].toList, n, ())) Dd2 fun y =>
 .need (List.length #[49].toList + List.length y.1 ≤ lim) <| .ok ((#[49].toList ++ y.1, ()))
def aSC : LTab := []
def aD7 (a : List UInt8) (k : Int) : TT (List UInt8 × Bool × Int × Unit) :=
 .call (atA (a, k, ())) aKm fun y =>
 .ite (y.2.1 != 0)
 (.ok ((#[].toList, false, y.2.1, ())))
 (.call (aoM (y.1, k, ())) aKm fun y1 =>
 .ite (y1.2.1 != 0)
 (.ok ((#[].toList, false, y1.2.1, ())))
 (.ok ((y.1, y1.1 == a, 0, ()))))
def aI3 : LTab := []
def aqV (a : List UInt8) (up0 : Bool) : TT uv :=
 .call (amW (a, ())) aDr fun y =>
 .ite (y.2.1 != 0)
 (.ok ((0, y.2.1, ())))
 (.ite (decide (y.1 > 1000000000000000000))
 (.ok ((0, 6, ())))
 (.ite (up0)
 (.ok ((w64 (y.1 + 1), 0, ())))
 (.ok ((y.1, 0, ())))))
def aMB : LTab := []
def auW (e : Int × Int × Unit) : TT uP :=
 .ite (decide (e.1 ≥ 1))
 (.ite (decide (e.1 ≤ 36))
 (.ite (decide (e.2.1 ≥ 1))
 (.ok ((decide (e.2.1 ≤ 12), ())))
 (.ok ((false, ()))))
 (.ok ((false, ()))))
 (.ok ((false, ())))
def aSy : LTab := []
def aD2 (p : uv × Unit) (n : Int) (up0 : Bool) : TT uv :=
 .call (aw7 (n, ())) Dd2 fun y =>
 .call (aoM (y.1, p.1.1, ())) aKm fun y1 =>
 .ite (y1.2.1 != 0)
 (.ok ((0, y1.2.1, ())))
 (.ite (decide (p.1.1 ≤ p.1.2.1))
 (.call (ai5 (w64 (12 * w64 (p.1.2.1 - p.1.1)), ())) Dd2 fun y2 =>
 .call (avY (y1.1, y2.1, ())) aKm fun y3 =>
 .ite (y3.2.1 != 0)
 (.ok ((0, y3.2.1, ())))
 (.call (atK (y3.1, p.1.2.1, ())) aWr fun y4 =>
 .ite (y4.2.2.1 != 0)
 (.ok ((0, y4.2.2.1, ())))
 (.ite (up0)
 (.ite (y4.2.1)
 (.call (ac2 (y4.1, !#[48].toList == #[48].toList, ())) aDr fun y5 =>
 .ok ((y5.1, y5.2.1, ())))
 (.call (ac2 (y4.1, !false, ())) aDr fun y6 =>
 .ok ((y6.1, y6.2.1, ()))))
 (.call (ac2 (y4.1, false, ())) aDr fun y7 =>
 .ok ((y7.1, y7.2.1, ()))))))
 (.call (ai5 (w64 (12 * w64 (p.1.1 - p.1.2.1)), ())) Dd2 fun y8 =>
 .call (avZ (y1.1, y8.1, ())) aWy fun y9 =>
 .ite (y9.2.2.1 != 0)
 (.ok ((0, y9.2.2.1, ())))
 (.call (atK (y9.1, p.1.2.1, ())) aWr fun y10 =>
 .ite (y10.2.2.1 != 0)
 (.ok ((0, y10.2.2.1, ())))
 (.ite (up0)
 (.ite (y10.2.1)
 (.call (ac2 (y10.1, !y9.2.1 == #[48].toList, ())) aDr fun y11 =>
 .ok ((y11.1, y11.2.1, ())))
 (.call (ac2 (y10.1, !false, ())) aDr fun y12 =>
 .ok ((y12.1, y12.2.1, ()))))
 (.call (ac2 (y10.1, false, ())) aDr fun y13 =>
 .ok ((y13.1, y13.2.1, ())))))))
def aPs : LTab := []
def azJ (b : Int × Int × Unit) (p : Int) (q : Int) : TT uH :=
 .call (atT ((b.1, b.2.1, ()), ())) Dd6 fun y =>
 .ite (y.1 != 0)
 (.ok (((0, 0, ()), y.1, ())))
 (.call (av3 ((p, q, ()), ())) Dd1 fun y1 =>
 .ite (!y1.1)
 (.ok (((0, 0, ()), 2, ())))
 (.ite (decide (b.1 < 0))
 (.ok (((0, 0, ()), 2, ())))
 (.tt <| .tt <| .call (atJ (((p, q, ()), ()), b.1, false, ())) aDr fun y2 =>
 .ite (y2.2.1 != 0)
 (.ok (((0, 0, ()), y2.2.1, ())))
 (.call (atJ (((p, q, ()), ()), b.2.1, true, ())) aDr fun y3 =>
 .ite (y3.2.1 != 0)
 (.ok (((0, 0, ()), y3.2.1, ())))
 (.call (aLt (y2.1, y3.1, ())) am9 fun y4 =>
 .ite (y4.2.1 != 0)
 (.ok (((0, 0, ()), 6, ())))
 (.ok (((y4.1.1, y4.1.2.1, ()), 0, ()))))))))
end
open Go Go.Vg
theorem aJ9 (lo hi : Int) (y) (h : aeQ (lo, hi, ()) = some y) : (aAS lo hi).toO = some y := by
 injection h with h
 subst h
 unfold aAS
 by_cases h1 : -1000000000000000000 ≤ lo
 ·refine uT (zo h1) ?_
  by_cases h2 : lo ≤ hi
  ·refine uT (zo h2) ?_
   simp [aaI, okB, h1, h2]
  ·refine uF (zn h2) ?_
   simp [aaI, okB, h2]
 ·refine uF (zn h1) ?_
  simp [aaI, okB, h1]
theorem aoZ (lo hi : Int) : aeQ (lo, hi, ()) = some (decide (okB lo hi), ()) := rfl
theorem aNS (lo hi : Int) (y) (h : aj3 (lo, hi, ()) = some y) : (aE0 lo hi).toO = some y := by
 unfold aj3 mkB at h
 dsimp only at h
 unfold aE0
 refine uC _ (aoZ lo hi) ?_
 by_cases h1 : okB lo hi
 ·rw [if_pos h1] at h
  exact uF (by rw [zo h1]; rfl) h
 ·rw [if_neg h1] at h
  exact uT (by rw [zn h1]; rfl) h
theorem aTB (lo hi : Int) (y) (h : aLt (lo, hi, ()) = some y) : (aRv lo hi).toO = some y := by
 unfold aLt mkB at h
 dsimp only at h
 unfold aRv
 refine uC _ (aoZ lo hi) ?_
 by_cases h1 : okB lo hi
 ·rw [if_pos h1] at h
  exact uF (by rw [zo h1]; rfl) h
 ·rw [if_neg h1] at h
  exact uT (by rw [zn h1]; rfl) h
theorem aKc (b : BdT) (y) (h : atT (b, ()) = some y) : (aAU b).toO = some y := by
 unfold atT at h
 dsimp only at h
 unfold aAU
 refine uC _ (aoZ b.1 b.2.1) ?_
 by_cases h1 : okB b.1 b.2.1
 ·rw [if_pos h1] at h
  exact uF (by rw [zo h1]; rfl) h
 ·rw [if_neg h1] at h
  exact uT (by rw [zn h1]; rfl) h
theorem aOE (x : List Int) (y) (h : aA2 (x, ()) = some y) : (aIm x).toO = some y := by
 unfold aA2 at h
 cases x with
 | nil => cases h
 | cons a l =>
  simp only at h
  split at h
  ·rename_i hl
   injection h with h
   subst h
   unfold aIm
   refine uL () (uF (by (try simp only [yl, yj, yA, xi, beq_eq_false_iff_ne, bne_eq_false_iff_eq, zT, yD]) <;> (try simp only [aaB, inb, inc, ge_iff_le, gt_iff_lt, zp, asT, ne_eq]) <;> simp only [zG] <;> omega) rfl) ?_
   refine uN ⟨by simp [asT], by (try simp only [aaB, inb, inc, ge_iff_le, gt_iff_lt, zp, asT, ne_eq]); simp only [zG]; omega⟩ ?_
   refine uO (1, a, ()) rfl ?_
   refine aaK (fun i : Int × Int × Unit => ∃ k : Nat, k ≤ l.length ∧ i = (((k + 1 : Nat) : Int), (l.take k).foldl (fun m y => if y < m then y else m) a, ())) (fun i => ((l.length + 1 : Nat) - i.1).toNat) (fun _ => (l.foldl (fun m y => if y < m then y else m) a, ())) ?_ _ ⟨0, by omega, rfl⟩
   rintro i ⟨k, hk, rfl⟩
   simp only [aKx, aaL]
   rcases zr k l.length with h1 | h1
   ·left
    refine ⟨(((k + 1 + 1 : Nat) : Int), (l.take (k + 1)).foldl (fun m y => if y < m then y else m) a, ()), ?_, ⟨k + 1, by omega, rfl⟩, by simp only; omega, ze⟩
    refine uT (by (try simp only [yl, yj, yA, xi, beq_eq_false_iff_ne, bne_eq_false_iff_eq, zT, yD]) <;> (try simp only [aaB, inb, inc, ge_iff_le, gt_iff_lt, zp, asT, ne_eq]) <;> simp only [zG] <;> omega) (uN ⟨by omega, by (try simp only [aaB, inb, inc, ge_iff_le, gt_iff_lt, zp, asT, ne_eq]); simp only [zG]; omega⟩ ?_)
    repeat refine za ?_
    rw [zW h1, vz]
    have e : (a :: l).getD (k + 1) 0 = l[k] := by simp [h1]
    rw [e, aaA (x := ((k + 1 : Nat) : Int) + 1) zc]
    rfl
   ·right
    refine uF (by (try simp only [yl, yj, yA, xi, beq_eq_false_iff_ne, bne_eq_false_iff_eq, zT, yD]) <;> (try simp only [aaB, inb, inc, ge_iff_le, gt_iff_lt, zp, asT, ne_eq]) <;> simp only [zG] <;> omega) ?_
    rw [zy h1]; rfl
  ·cases h
theorem aOF (x : List Int) (y) (h : aA3 (x, ()) = some y) : (aIn x).toO = some y := by
 unfold aA3 at h
 cases x with
 | nil => cases h
 | cons a l =>
  simp only at h
  split at h
  ·rename_i hl
   injection h with h
   subst h
   unfold aIn
   refine uL () (uF (by (try simp only [yl, yj, yA, xi, beq_eq_false_iff_ne, bne_eq_false_iff_eq, zT, yD]) <;> (try simp only [aaB, inb, inc, ge_iff_le, gt_iff_lt, zp, asT, ne_eq]) <;> simp only [zG] <;> omega) rfl) ?_
   refine uN ⟨by simp [asT], by (try simp only [aaB, inb, inc, ge_iff_le, gt_iff_lt, zp, asT, ne_eq]); simp only [zG]; omega⟩ ?_
   refine uO (1, a, ()) rfl ?_
   refine aaK (fun i : Int × Int × Unit => ∃ k : Nat, k ≤ l.length ∧ i = (((k + 1 : Nat) : Int), (l.take k).foldl (fun m y => if y > m then y else m) a, ())) (fun i => ((l.length + 1 : Nat) - i.1).toNat) (fun _ => (l.foldl (fun m y => if y > m then y else m) a, ())) ?_ _ ⟨0, by omega, rfl⟩
   rintro i ⟨k, hk, rfl⟩
   simp only [aKy, aaL]
   rcases zr k l.length with h1 | h1
   ·left
    refine ⟨(((k + 1 + 1 : Nat) : Int), (l.take (k + 1)).foldl (fun m y => if y > m then y else m) a, ()), ?_, ⟨k + 1, by omega, rfl⟩, by simp only; omega, ze⟩
    refine uT (by (try simp only [yl, yj, yA, xi, beq_eq_false_iff_ne, bne_eq_false_iff_eq, zT, yD]) <;> (try simp only [aaB, inb, inc, ge_iff_le, gt_iff_lt, zp, asT, ne_eq]) <;> simp only [zG] <;> omega) (uN ⟨by omega, by (try simp only [aaB, inb, inc, ge_iff_le, gt_iff_lt, zp, asT, ne_eq]); simp only [zG]; omega⟩ ?_)
    repeat refine za ?_
    rw [zW h1, vz]
    have e : (a :: l).getD (k + 1) 0 = l[k] := by simp [h1]
    rw [e, aaA (x := ((k + 1 : Nat) : Int) + 1) zc]
    rfl
   ·right
    refine uF (by (try simp only [yl, yj, yA, xi, beq_eq_false_iff_ne, bne_eq_false_iff_eq, zT, yD]) <;> (try simp only [aaB, inb, inc, ge_iff_le, gt_iff_lt, zp, asT, ne_eq]) <;> simp only [zG] <;> omega) ?_
    rw [zy h1]; rfl
  ·cases h
theorem aKa (l : List Int) (y) (h : aA5 (l, ()) = some y) : (aHC l).toO = some y := uC _ h rfl
theorem aBM (l : List Int) (y) (h : aoU (l, ()) = some y) : (aw5 l).toO = some y := uC _ h rfl
theorem akX (q : Rat) (n : Int) : n ≤ fl q ↔ (n : Rat) ≤ q := by
 unfold fl
 rw [Rat.le_iff, xw (by have := q.den_pos; omega)]
 simp
theorem aFE (a b : Rat) : a < b ∨ a = b ∨ b < a := by grind
theorem aNk {q : Rat} {n : Int} (h1 : (n : Rat) ≤ q) (h2 : q < ((n + 1 : Int) : Rat)) : fl q = n := by
 have e1 := (akX q n).2 h1
 have e2 : ¬ (n + 1 ≤ fl q) := fun h => by
  have := (akX q (n + 1)).1 h
  exact absurd h2 (vP.2 this)
 omega
theorem aVz (q : Rat) : ((fl q : Int) : Rat) ≤ q := (akX q _).1 (vA _)
theorem aWc (q : Rat) : q < ((fl q + 1 : Int) : Rat) := by
 rcases wy.1 (fun h => by have := (akX q (fl q + 1)).2 h; omega) with h
 exact h
theorem aKf {x : Rat} {n : Int} (hn : fl (x + 1 / 2) = n) : (x = n → fl x = n ∧ -fl (-x) = n) ∧ (x < n → fl x = n - 1 ∧ -fl (-x) = n) ∧ ((n : Rat) < x → fl x = n ∧ -fl (-x) = n + 1) := by
 have a1 := aVz (x + 1 / 2)
 have a2 := aWc (x + 1 / 2)
 rw [hn] at a1 a2
 rw [xK] at a2
 refine ⟨fun h => ⟨aNk ?_ ?_, ?_⟩, fun h => ⟨aNk ?_ ?_, ?_⟩, fun h => ⟨aNk ?_ ?_, ?_⟩⟩
 ·grind
 ·rw [xK]; grind
 ·have : fl (-x) = -n := aNk (by rw [xL]; grind) (by rw [xK, xL]; grind)
  omega
 ·rw [vQ]; grind
 ·rw [xK, vQ]; grind
 ·have : fl (-x) = -n := aNk (by rw [xL]; grind) (by rw [xK, xL]; grind)
  omega
 ·grind
 ·rw [xK]; grind
 ·have : fl (-x) = -n - 1 := aNk (by rw [vQ, xL]; grind) (by rw [xK, vQ, xL]; grind)
  omega
theorem aeL {n : Int} {d : Nat} (hd : d ≠ 0) (h1 : Fit n) (h2 : Fit d) : acB (mkRat n d) := by
 obtain ⟨g, t, hg, g0, e0, e1, e2⟩ := aeH n hd
 refine ⟨agB h1 ?_, agB h2 ?_⟩
 ·rw [e1, ← acT e0 g0]; exact yS _ _
 ·rw [e2]; simp only [zK]; exact yS _ _
theorem aPA {n : Int} {d : Nat} (hd : d ≠ 0) (h1 : Fit n) (h2 : Fit d) : ofQ n d = (fx (mkRat n d), 0, ()) := by
 unfold ofQ
 rw [if_neg zc, xl, aH5 (aeL hd h1 h2)]
theorem aVU {n : Int} {d : Nat} (hn : aa3 n) (hd : d ≠ 0) (h2 : d ≤ 9223372036854775807) : am5 (n, (d : Int), ()) = some (fx (mkRat n d), 0, ()) := by
 have hd2 : aa3 (d : Int) := ⟨by omega, by omega⟩
 unfold am5
 rw [if_pos ⟨hn, hd2⟩]
 simp only [aPA hd (abK hn) (abK hd2)]
theorem asD (n : Int) {d : Nat} (hd : d ≠ 0) : mkRat n d * (d : Rat) = (n : Rat) := by
 rw [Rat.mkRat_eq_div]
 exact Rat.div_mul_cancel (by simpa using hd)
theorem aVs (q : Rat) : asC q 1000000000000 = fl (q * adJ + 1 / 2) := by
 unfold asC adJ
 rw [show mkRat 1 2 = (1 / 2 : Rat) by rw [Rat.mkRat_eq_div]; rfl]
theorem aHE (a : FxT) (y) (h : ad2 (a, ()) = some y) : (avU a).toO = some y := by
 unfold ad2 at h
 dsimp only at h
 unfold avU
 cases ha : rdF a with
 | none =>
  simp only [ha] at h
  exact uC (0, 20, ()) (by unfold amZ; dsimp only; rw [show rdF (a.1, a.2.1, ()) = none from ha]) (uT rfl h)
 | some q =>
  simp only [ha] at h
  have hq := (acW ha).1
  have hnear : amZ ((a.1, a.2.1, ()), 1000000000000, ()) = some (if aa3 (asC q 1000000000000) then (asC q 1000000000000, 0, ()) else (0, 6, ())) := by
   unfold amZ
   dsimp only
   rw [show rdF (a.1, a.2.1, ()) = some q from ha]
   simp only
   rw [if_neg zc]
   rfl
  rw [aVs] at hnear
  have hst := aKf (x := q * adJ) rfl
  generalize hn : fl (q * adJ + 1 / 2) = n at *
  unfold aeV mkB at h
  by_cases hi : aa3 n
  ·rw [if_pos hi] at hnear
   refine uC _ hnear (uF rfl ?_)
   have hof := aVU (n := n) (d := 1000000000000) hi zc zc
   refine uC _ hof (uF rfl ?_)
   have hfr : acB (mkRat n 1000000000000) := aeL zc (abK hi) (abK ⟨by omega, by omega⟩)
   have hm := asD n (d := 1000000000000) zc
   have hcmp : agO ((a.1, a.2.1, ()), (dec (mkRat n 1000000000000).num, aa4 (mkRat n 1000000000000).den, ()), ()) = some (axD q (mkRat n 1000000000000), 0, ()) := by
    unfold agO
    simp only [show rdF (a.1, a.2.1, ()) = some q from ha, ae3 hfr]
   refine uC _ hcmp (uF rfl ?_)
   refine uC _ (aoZ n n) ?_
   have hx : adJ = ((1000000000000 : Nat) : Rat) := rfl
   generalize mkRat n 1000000000000 = r at *
   rw [← hx] at hm
   have hone : (0 : Rat) < adJ := by rw [hx]; decide
   have hlt : q < r ↔ q * adJ < n := by rw [← hm]; exact (vR hone).symm
   have heq : q = r ↔ q * adJ = n := by
    rw [← hm]
    constructor
    ·rintro rfl; rfl
    ·intro h
     rcases aFE q r with c | c | c
     ·have := (vR hone).2 c; grind
     ·exact c
     ·have := (vR hone).2 c; grind
   generalize q * adJ = x at *
   by_cases hv : okB n n
   ·refine uF (by rw [zo hv]; rfl) ?_
    obtain ⟨v1, v2, v3⟩ := hv
    have key : ∀ lo hi : Int, w64 (n + if 0 < axD q r then 0 else axD q r) = lo → w64 (n + if 0 > axD q r then 0 else axD q r) = hi → fl x = lo ∧ -fl (-x) = hi → (TT.call (aj3 (w64 (n + if 0 < axD q r then 0 else axD q r), w64 (n + if 0 > axD q r then 0 else axD q r), ())) (Ty.dflt (Ty.pair sb uW)) fun y4 => TT.ok ((y4.1.1, y4.1.2.1, ()), y4.2.1, ())).toO = some y := by
     intro lo hi' h1 h2 h3
     rw [h1, h2]
     refine uC (mkB 6 lo hi') rfl ?_
     rw [h3.1, h3.2] at h
     exact h
    refine key _ _ rfl rfl ?_
    unfold axD
    by_cases c1 : q < r
    ·rw [if_pos c1]
     obtain ⟨g1, g2⟩ := hst.2.1 (hlt.1 c1)
     rw [if_neg zc, if_pos zc, aaA zc, aaA zc, g1, g2]
     omega
    ·rw [if_neg c1]
     by_cases c2 : q = r
     ·rw [if_pos c2]
      obtain ⟨g1, g2⟩ := hst.1 (heq.1 c2)
      rw [if_neg zc, aaA zc, g1, g2]
      omega
     ·rw [if_neg c2]
      have c3 : (n : Rat) < x := by
       rcases aFE x n with c | c | c
       ·exact absurd (hlt.2 c) c1
       ·exact absurd (heq.2 c) c2
       ·exact c
      obtain ⟨g1, g2⟩ := hst.2.2 c3
      rw [if_pos zc, if_neg zc, aaA zc, aaA zc, g1, g2]
      omega
   ·refine uT (by rw [zn hv]; rfl) ?_
    rw [if_neg] at h
    ·exact h
    ·intro hok
     apply hv
     unfold okB at hok ⊢
     rcases aFE x n with c | c | c
     ·have := hst.2.1 c; omega
     ·have := hst.1 c; omega
     ·have := hst.2.2 c; omega
  ·rw [if_neg hi] at hnear
   refine uC _ hnear (uT rfl ?_)
   rw [if_neg] at h
   ·exact h
   ·intro hok
    apply hi
    unfold okB at hok
    unfold aa3
    rcases aFE (q * adJ) n with c | c | c
    ·have := hst.2.1 c; omega
    ·have := hst.1 c; omega
    ·have := hst.2.2 c; omega
theorem aLA (lo hi : Int) : aj3 (lo, hi, ()) = some (mkB 6 lo hi) := rfl
theorem aVu {α : Type} {R : Int × Unit → Option ((Int × Unit) ⊕ α)} {a : α} (ok0 ok1 : Prop) [Decidable ok0] [Decidable ok1] {e z : α}
  (h0 : R (0, ()) = if ok0 then some (.inl (1, ())) else some (.inr e)) (h1 : R (1, ()) = if ok1 then some (.inl (2, ())) else some (.inr e)) (h2 : ok0 → ok1 → R (2, ()) = some (.inr z))
  (hz : a = if ok0 ∧ ok1 then z else e) : adK R (0, ()) = some a := by
 subst hz
 by_cases c0 : ok0
 ·rw [if_pos c0] at h0
  rw [ac7 h0]
  by_cases c1 : ok1
  ·rw [if_pos c1] at h1
   rw [ac7 h1, acS (h2 c0 c1), if_pos ⟨c0, c1⟩]
  ·rw [if_neg c1] at h1
   rw [acS h1, if_neg (fun h => c1 h.2)]
 ·rw [if_neg c0] at h0
  rw [acS h0, if_neg (fun h => c0 h.1)]
theorem aRy (a b : BdT) (y) (h : aKi (a, b, ()) = some y) : (aKd a b).toO = some y := by
 injection h with h
 unfold aKd
 refine uV (uV (uO (0, ()) rfl ?_))
 refine aVu (okB a.1 a.2.1) (okB b.1 b.2.1) (z := mkB 6 (a.1 + b.1) (a.2.1 + b.2.1)) ?_ ?_ ?_ h.symm
 ·by_cases c : okB a.1 a.2.1
  ·rw [if_pos c]
   unfold as5
   refine uT zf (uN zf (uC (decide (okB a.1 a.2.1), ()) rfl (uF (by rw [zo c]; rfl) ?_)))
   repeat refine za ?_
   rfl
  ·rw [if_neg c]
   unfold as5
   exact uT zf (uN zf (uC (decide (okB a.1 a.2.1), ()) rfl (uT (by rw [zn c]; rfl) rfl)))
 ·by_cases c : okB b.1 b.2.1
  ·rw [if_pos c]
   unfold as5
   refine uT zf (uN zf (uC (decide (okB b.1 b.2.1), ()) rfl (uF (by rw [zo c]; rfl) ?_)))
   repeat refine za ?_
   rfl
  ·rw [if_neg c]
   unfold as5
   exact uT zf (uN zf (uC (decide (okB b.1 b.2.1), ()) rfl (uT (by rw [zn c]; rfl) rfl)))
 ·intro c0 c1
  obtain ⟨u1, u2, u3⟩ := c0
  obtain ⟨w1, w2, w3⟩ := c1
  refine uF zf (uV (uV ?_))
  rw [aaA (x := a.1 + b.1) zc, aaA (x := a.2.1 + b.2.1) zc]
  exact uC _ (aLA _ _) rfl
theorem aNT (a b : BdT) (y) (h : atS (a, b, ()) = some y) : (aE1 a b).toO = some y := by
 injection h with h
 unfold aE1
 refine uV (uV (uV (uV (uO (0, ()) rfl ?_))))
 refine aVu (okB a.1 a.2.1) (okB b.1 b.2.1) (z := ((min a.1 b.1, max a.2.1 b.2.1, ()), 0, ())) ?_ ?_ ?_ h.symm
 ·by_cases c : okB a.1 a.2.1
  ·rw [if_pos c]
   unfold aoH
   refine uT zf (uN zf (uC (decide (okB a.1 a.2.1), ()) rfl (uF (by rw [zo c]; rfl) ?_)))
   repeat refine za ?_
   rfl
  ·rw [if_neg c]
   unfold aoH
   exact uT zf (uN zf (uC (decide (okB a.1 a.2.1), ()) rfl (uT (by rw [zn c]; rfl) rfl)))
 ·by_cases c : okB b.1 b.2.1
  ·rw [if_pos c]
   unfold aoH
   refine uT zf (uN zf (uC (decide (okB b.1 b.2.1), ()) rfl (uF (by rw [zo c]; rfl) ?_)))
   repeat refine za ?_
   rfl
  ·rw [if_neg c]
   unfold aoH
   exact uT zf (uN zf (uC (decide (okB b.1 b.2.1), ()) rfl (uT (by rw [zn c]; rfl) rfl)))
 ·intro c0 c1
  obtain ⟨u1, u2, u3⟩ := c0
  obtain ⟨w1, w2, w3⟩ := c1
  refine uF zf (uV (uV ?_))
  by_cases he : a.1 = b.1 ∧ a.2.1 = b.2.1
  ·refine uT ?_ ?_
   ·rw [he.1, he.2]; simp
   ·rw [aaI, he.1, he.2, Int.min_self, Int.max_self]
  ·refine uF ?_ ?_
   ·by_cases e1 : a.1 = b.1
    ·have e2 : a.2.1 ≠ b.2.1 := fun h => he ⟨e1, h⟩
     have b1 : (a.1 == b.1) = true := by rw [e1]; simp
     have b2 : (a.2.1 == b.2.1) = false := by rw [beq_eq_false_iff_ne]; exact e2
     rw [b1, b2]
    ·have b1 : (a.1 == b.1) = false := by rw [beq_eq_false_iff_ne]; exact e1
     rw [b1]
   refine uV ?_
   refine uC (if b.1 < a.1 then b.1 else a.1, ()) rfl ?_
   refine uC (if b.2.1 > a.2.1 then b.2.1 else a.2.1, ()) rfl ?_
   have m1 : (if b.1 < a.1 then b.1 else a.1) = min a.1 b.1 := by rw [Int.min_def]; split <;> split <;> omega
   have m2 : (if b.2.1 > a.2.1 then b.2.1 else a.2.1) = max a.2.1 b.2.1 := by rw [Int.max_def]; split <;> split <;> omega
   simp only [m1, m2]
   refine uF sd rfl
theorem aKb (b : BdT) (lo hi : Int) (y) (h : alP (b, lo, hi, ()) = some y) : (aAT b lo hi).toO = some y := by
 injection h with h
 unfold aAT
 refine uV (uV (uO (0, ()) rfl ?_))
 unfold aC5 at h
 dsimp only at h
 by_cases c : okB b.1 b.2.1
 ·rw [if_pos c] at h
  have h0 : (ak2 b lo hi (0, ())).toO = some (.inl (1, ())) := by
   unfold ak2
   refine uT zf (uN zf (uC (decide (okB b.1 b.2.1), ()) rfl (uF (by rw [zo c]; rfl) ?_)))
   repeat refine za ?_
   rfl
  rw [ac7 h0]
  refine acS ?_
  unfold ak2
  refine uF zf (uV (uV (uC _ (aoZ lo hi) ?_)))
  by_cases c2 : okB lo hi
  ·rw [if_pos c2] at h
   refine uF (by rw [zo c2]; rfl) ?_
   have m : ∀ x : Int, (if hi < if lo > x then lo else x then hi else if lo > x then lo else x) = min (max x lo) hi := by
    intro x
    rw [Int.min_def, Int.max_def]
    split <;> split <;> split <;> omega
   simp only [m]
   refine uC _ (aLA _ _) ?_
   unfold okB at c c2
   unfold mkB
   rw [if_pos (by unfold okB; omega), ← h]
   rfl
  ·rw [if_neg c2] at h
   exact uT (by rw [zn c2]; rfl) (by rw [← h]; rfl)
 ·rw [if_neg c] at h
  refine acS ?_
  unfold ak2
  exact uT zf (uN zf (uC (decide (okB b.1 b.2.1), ()) rfl (uT (by rw [zn c]; rfl) (by rw [← h]; rfl))))
theorem aTr (n : Nat) : aa4 (10 ^ n) = 49 :: List.replicate n 48 := by
 induction n with
 | zero => rw [Nat.pow_zero, abN zc]; rfl
 | succ n ih =>
  have h1 : 1 ≤ 10 ^ n := xg zc
  rw [yC, agC zc, wJ _ zc, Nat.mul_mod_left, ih, wT]
  rfl
theorem aVy (n : Nat) : (List.replicate n ([48] : List UInt8)).flatten = List.replicate n 48 := by
 induction n with
 | zero => rfl
 | succ n ih => rw [xq, List.flatten_cons, ih, xq]; rfl
theorem aBf {n : Nat} (h : n ≤ 1000) : ai5 ((n : Int), ()) = some (aa4 (10 ^ n), ()) := aaE (enc := fun x : Nat => ((x : Int), ())) n h (fun b hb => Int.ofNat.inj (Prod.mk.inj hb).1)
theorem aD6 (n : Int) (y) (h : ai5 (n, ()) = some y) : (aqU n).toO = some y := by
 obtain ⟨k, hp, hx, rfl⟩ := aaC h
 obtain ⟨rfl, -⟩ := Prod.mk.inj hx
 unfold aqU
 refine uC (List.replicate k 48, ()) ?_ ?_
 ·unfold aLs
  rw [if_pos ⟨by simp only; omega, by simp only; omega, by show 1 ≤ 1000; omega⟩]
  simp only [zp]
  rw [aVy]
 ·refine uN ?_ ?_
  ·simp only [xY]
   show 1 + k ≤ lim
   unfold lim; omega
  ·rw [aTr]; rfl
theorem alY {n : Nat} (h : Fit (n : Int)) : rdW (aa4 n) = some (n : Int) := by rw [← ae7]; exact anL h
theorem aQ5 {p q : Nat × Nat} (h : (aa4 p.1, (p.2 : Int), ()) = (aa4 q.1, (q.2 : Int), ())) : p = q := by
 obtain ⟨h1, h2⟩ := Prod.mk.inj h
 obtain ⟨h2, -⟩ := Prod.mk.inj h2
 exact Prod.ext (ajP h1) (Int.ofNat.inj h2)
theorem aLw {n k : Nat} (h1 : Fit (n : Int)) (h2 : 1 ≤ k) (h3 : k ≤ 12) : atK (aa4 n, (k : Int), ()) = some (aa4 (aeK k n), decide (aeK k n ^ k = n), 0, ()) := aaE (enc := fun x : Nat × Nat => (aa4 x.1, (x.2 : Int), ())) (n, k) ⟨h1, h2, h3⟩ (fun b hb => aQ5 hb)
theorem aMD (a : List UInt8) (k : Int) (y) (h : atK (a, k, ()) = some y) : (aD7 a k).toO = some y := by
 obtain ⟨⟨n, j⟩, hp, hx, rfl⟩ := aaC h
 obtain ⟨rfl, hx2⟩ := Prod.mk.inj hx; obtain ⟨rfl, -⟩ := Prod.mk.inj hx2; dsimp only
 obtain ⟨h1, h2, h3⟩ := hp
 simp only at h1 h2 h3
 obtain ⟨s1, s2⟩ := akW n h2
 have hle := axY (n := n) h2
 have f1 : Fit (aeK j n : Int) := agB h1 (by simp only [zK]; exact hle)
 have f2 : Fit ((aeK j n ^ j : Nat) : Int) := agB h1 (by simp only [zK]; exact s1)
 unfold aD7
 refine uC (aa4 (aeK j n), 0, ()) ?_ (uF rfl ?_)
 ·unfold atA
  dsimp only
  rw [alY h1]
  dsimp only
  rw [if_neg zc, zp, zK, aj5 f1, ae7]
 refine uC (aa4 (aeK j n ^ j), 0, ()) ?_ (uF rfl ?_)
 ·unfold aoM
  dsimp only
  rw [alY f1]
  dsimp only
  rw [if_neg zc, zp, ← wh, aj5 f2, ae7]
 ·rw [aaI]
  have : (aa4 (aeK j n ^ j) == aa4 n) = decide (aeK j n ^ j = n) := by
   by_cases c : aeK j n ^ j = n
   ·rw [c, zo rfl]; simp
   ·rw [zn c, beq_eq_false_iff_ne]
    exact fun h => c (ajP h)
  rw [this]
theorem ag9 {n : Nat} {u : Bool} (h1 : Fit (n : Int)) : ac2 (aa4 n, u, ()) = some (if n > 1000000000000000000 then (0, 6, ()) else ((n : Int) + (if u then 1 else 0), 0, ())) := by
 refine aaE (enc := fun x : Nat × Bool => (aa4 x.1, x.2, ())) (n, u) h1 (fun b hb => ?_)
 obtain ⟨e1, e2⟩ := Prod.mk.inj hb
 obtain ⟨e2, -⟩ := Prod.mk.inj e2
 exact Prod.ext (ajP e1) e2
theorem aD8 (a : List UInt8) (u : Bool) (y) (h : ac2 (a, u, ()) = some y) : (aqV a u).toO = some y := by
 obtain ⟨⟨n, v⟩, hp, hx, rfl⟩ := aaC h
 obtain ⟨rfl, hx2⟩ := Prod.mk.inj hx; obtain ⟨rfl, -⟩ := Prod.mk.inj hx2; dsimp only
 simp only at hp
 unfold aqV
 have hi : amW (aa4 n, ()) = some (if aa3 n then ((n : Int), 0, ()) else (0, 6, ())) := by rw [← ae7]; exact aBa hp
 by_cases c : aa3 n
 ·rw [if_pos c] at hi
  unfold aa3 at c
  refine uC _ hi (uF rfl ?_)
  by_cases c2 : n > 1000000000000000000
  ·rw [if_pos c2]
   exact uT (zo zk) rfl
  ·rw [if_neg c2]
   refine uF (zn zk) ?_
   cases u
   ·exact uF rfl (by simp [aaI])
   ·refine uT rfl ?_
    rw [aaI, aaA zk]; rfl
 ·rw [if_neg c] at hi
  unfold aa3 at c
  rw [if_pos zc]
  exact uC _ hi (uT rfl rfl)
theorem aGj (e : Int × Int × Unit) (y) (h : av3 (e, ()) = some y) : (auW e).toO = some y := by
 injection h with h
 subst h
 unfold auW
 by_cases h1 : e.1 ≥ 1
 ·refine uT (zo h1) ?_
  by_cases h2 : e.1 ≤ 36
  ·refine uT (zo h2) ?_
   by_cases h3 : e.2.1 ≥ 1
   ·refine uT (zo h3) ?_
    rw [aaI]
    congr 2
    exact decide_eq_decide.2 ⟨fun h => ⟨h1, h2, h3, h⟩, fun h => h.2.2.2⟩
   ·refine uF (zn h3) ?_
    rw [aaI, zn (fun h : okE e.1 e.2.1 => h3 h.2.2.1)]
  ·refine uF (zn h2) ?_
   rw [aaI, zn (fun h : okE e.1 e.2.1 => h2 h.2.1)]
 ·refine uF (zn h1) ?_
  rw [aaI, zn (fun h : okE e.1 e.2.1 => h1 h.1)]
theorem aU0 (p q n : Nat) : (p ≤ q → n ^ p * 10 ^ (12 * q) / 10 ^ (12 * p) = n ^ p * 10 ^ (12 * (q - p)) ∧ n ^ p * 10 ^ (12 * q) = n ^ p * 10 ^ (12 * (q - p)) * 10 ^ (12 * p)) ∧ (q < p → n ^ p * 10 ^ (12 * q) / 10 ^ (12 * p) = n ^ p / 10 ^ (12 * (p - q)) ∧ (10 : Nat) ^ (12 * p) = 10 ^ (12 * (p - q)) * 10 ^ (12 * q)) := by
 constructor
 ·intro h
  have e : (10 : Nat) ^ (12 * q) = 10 ^ (12 * (q - p)) * 10 ^ (12 * p) := by rw [← xF]; congr 1; omega
  have h2 : n ^ p * 10 ^ (12 * q) = n ^ p * 10 ^ (12 * (q - p)) * 10 ^ (12 * p) := by rw [e, wF]
  exact ⟨by rw [h2, wJ _ (xg zc)], h2⟩
 ·intro h
  have e : (10 : Nat) ^ (12 * p) = 10 ^ (12 * (p - q)) * 10 ^ (12 * q) := by rw [← xF]; congr 1; omega
  refine ⟨?_, e⟩
  rw [e, ← vD, vD, yN (10 ^ (12 * (p - q))), ← vD, wJ _ (xg zc)]
theorem apM {n k : Nat} (h : n < 10 ^ k) (hk : k ≤ 600) : Fit (n : Int) := by
 show (aa4 n).length ≤ 600
 have h2 : (aa4 n).length ≤ k + 1 := ac1 (yn h (zY zc zc))
 rcases zC k with h0 | h0
 ·omega
 ·have := (adC h0).2 h
  omega
theorem aUD {n K : Nat} (hK : K = 600) (h : ¬ Fit (n : Int)) : 10 ^ K ≤ n := by
 rcases zr n (10 ^ K) with h2 | h2
 ·exact absurd (apM h2 zc) h
 ·exact h2
theorem aU1 {p q n : Nat} (hq : 1 ≤ q) (hq2 : q ≤ 12) (hp2 : p ≤ 36) (h : ¬ Fit ((n ^ p : Nat) : Int)) : arA p q n > 1000000000000000000 := by
 obtain ⟨K, hK⟩ : ∃ K : Nat, K = 600 := ⟨_, rfl⟩
 have h1 := aUD hK h
 unfold arA
 obtain ⟨s1, s2⟩ := akW (n ^ p * 10 ^ (12 * q) / 10 ^ (12 * p)) hq
 generalize aeK q (n ^ p * 10 ^ (12 * q) / 10 ^ (12 * p)) = v at *
 rcases zr 1000000000000000000 v with h2 | h2
 ·exact h2
 ·exfalso
  rw [yE (xg zc)] at s2
  have h3 : (v + 1) ^ q ≤ (10 ^ 19) ^ q := xr zc q
  have h4 : (10 ^ 19 : Nat) ^ q * 10 ^ (12 * p) ≤ 10 ^ K * 10 ^ (12 * q) := by
   rw [← xG, ← xF, ← xF]
   exact zY zc zc
  have h5 : (v + 1) ^ q * 10 ^ (12 * p) ≤ (10 ^ 19) ^ q * 10 ^ (12 * p) := zU _ h3
  have h6 : 10 ^ K * 10 ^ (12 * q) ≤ n ^ p * 10 ^ (12 * q) := zU _ h1
  generalize (v + 1) ^ q * 10 ^ (12 * p) = a1 at *
  generalize (10 ^ 19 : Nat) ^ q * 10 ^ (12 * p) = a2 at *
  generalize 10 ^ K * 10 ^ (12 * q) = a3 at *
  omega
theorem aEK (n : Nat) : (aa4 n == #[48].toList) = decide (n = 0) := by
 by_cases c : n = 0
 ·subst c; rw [abN zc]; rfl
 ·rw [zn c, beq_eq_false_iff_ne]
  intro h
  have h0 : aa4 0 = #[48].toList := by rw [abN zc]; rfl
  exact c (ajP (h.trans h0.symm))
theorem aLv {p q n : Nat} {u : Bool} (h : okE p q) (hn : n ≤ 1000000000000000000) : atJ ((((p : Int), (q : Int), ()), ()), (n : Int), u, ()) = some (at6 p q n u) := by
 refine aaE (enc := fun x : (Nat × Nat) × Nat × Bool => ((((x.1.1 : Int), (x.1.2 : Int), ()), ()), (x.2.1 : Int), x.2.2, ())) ((p, q), n, u) ⟨h, hn⟩ (fun b hb => ?_)
 obtain ⟨⟨b1, b2⟩, b3, b4⟩ := b
 simp only [Prod.mk.injEq, Int.ofNat.injEq, Int.natCast_inj, and_true] at hb
 obtain ⟨⟨h1, h2⟩, h3, h4⟩ := hb
 rw [h1, h2, h3, h4]
theorem aMA (e : (Int × Int × Unit) × Unit) (n : Int) (u : Bool) (y) (h : atJ (e, n, u, ()) = some y) : (aD2 e n u).toO = some y := by
 obtain ⟨⟨⟨p, q⟩, m, b⟩, hp, hx, rfl⟩ := aaC h
 obtain ⟨rfl, hx2⟩ := Prod.mk.inj hx
 obtain ⟨rfl, hx3⟩ := Prod.mk.inj hx2
 obtain ⟨rfl, -⟩ := Prod.mk.inj hx3
 obtain ⟨⟨p1, p2, q1, q2⟩, hm⟩ := hp
 dsimp only at p1 p2 q1 q2 hm ⊢
 have fm : Fit (m : Int) := abK ⟨by omega, by omega⟩
 unfold aD2
 dsimp only
 refine uC (aa4 m, ()) (by rw [aRK ⟨by omega, by omega⟩, ae7]) ?_
 have hpow : aoM (aa4 m, (p : Int), ()) = some (wrW ((m ^ p : Nat) : Int)) := by
  unfold aoM
  dsimp only
  rw [alY fm]
  dsimp only
  rw [if_neg zc, zp, ← wh]
 obtain ⟨r1, r2⟩ := aU0 p q m
 by_cases hf : Fit ((m ^ p : Nat) : Int)
 ·rw [aj5 hf, ae7] at hpow
  refine uC _ hpow (uF rfl ?_)
  by_cases hpq : p ≤ q
  ·obtain ⟨e1, e2⟩ := r1 hpq
   refine uT sd ?_
   have ew : w64 (12 * w64 ((q : Int) - p)) = ((12 * (q - p) : Nat) : Int) := by rw [aaA (x := (q : Int) - p) zc, aaA zc]; omega
   refine uC (aa4 (10 ^ (12 * (q - p))), ()) (by rw [ew]; exact aBf zc) ?_
   obtain ⟨K, hK⟩ : ∃ K : Nat, K = 400 := ⟨_, rfl⟩
   have hlt : m ^ p * 10 ^ (12 * (q - p)) < 10 ^ K := by
    have a1 : m ^ p ≤ (10 ^ 18) ^ p := xr zc p
    have a2 : (10 ^ 18 : Nat) ^ p * 10 ^ (12 * (q - p)) < 10 ^ K := by
     rw [← xG, ← xF]
     exact wx zc zc
    exact Nat.lt_of_le_of_lt (zU _ a1) a2
   have hfm : Fit ((m ^ p * 10 ^ (12 * (q - p)) : Nat) : Int) := apM hlt zc
   have hft : Fit ((10 ^ (12 * (q - p)) : Nat) : Int) := apM (k := K) (wx zc zc) zc
   have hmul : avY (aa4 (m ^ p), aa4 (10 ^ (12 * (q - p))), ()) = some (aa4 (m ^ p * 10 ^ (12 * (q - p))), 0, ()) := by
    unfold avY
    dsimp only
    rw [alY hf, alY hft]
    dsimp only
    rw [← yg, aj5 hfm, ae7]
   refine uC _ hmul (uF rfl ?_)
   refine uC _ (aLw hfm zc zc) (uF rfl ?_)
   have hv : aeK q (m ^ p * 10 ^ (12 * (q - p))) = arA p q m := by unfold arA; rw [e1]
   have hfv : Fit (arA p q m : Int) := by rw [← hv]; exact agB hfm zl
   have hex : decide (aeK q (m ^ p * 10 ^ (12 * (q - p))) ^ q = m ^ p * 10 ^ (12 * (q - p))) = decide (arA p q m ^ q * 10 ^ (12 * p) = m ^ p * 10 ^ (12 * q)) := by
    rw [hv, e2]
    exact decide_eq_decide.2 ⟨fun h => by rw [h], fun h => Nat.eq_of_mul_eq_mul_right (xg zc) h⟩
   unfold at6
   rw [hex, hv]
   dsimp only
   cases u
   ·refine uF rfl (uC _ (ag9 hfv) ?_)
    simp only [yo, false_and, if_false]
    rfl
   ·refine uT rfl ?_
    by_cases c : arA p q m ^ q * 10 ^ (12 * p) = m ^ p * 10 ^ (12 * q)
    ·refine uT (zo c) (uC _ (show ac2 (aa4 (arA p q m), (!#[48].toList == #[48].toList), ()) = some _ from ag9 (u := false) hfv) ?_)
     simp only [yo, if_false, c, ne_eq, not_true_eq_false, and_false]
     rfl
    ·refine uF (zn c) (uC _ (ag9 (u := !false) hfv) ?_)
     simp only [wN, if_true, c, ne_eq, not_false_eq_true, and_self]
     rfl
  ·obtain ⟨e1, e2⟩ := r2 zc
   refine uF sd ?_
   have ew : w64 (12 * w64 ((p : Int) - q)) = ((12 * (p - q) : Nat) : Int) := by rw [aaA (x := (p : Int) - q) zc, aaA zc]; omega
   refine uC (aa4 (10 ^ (12 * (p - q))), ()) (by rw [ew]; exact aBf zc) ?_
   obtain ⟨K, hK⟩ : ∃ K : Nat, K = 600 := ⟨_, rfl⟩
   have hft : Fit ((10 ^ (12 * (p - q)) : Nat) : Int) := apM (k := K) (wx zc zc) zc
   have hD : 0 < 10 ^ (12 * (p - q)) := xg zc
   have hdiv : avZ (aa4 (m ^ p), aa4 (10 ^ (12 * (p - q))), ()) = some (aa4 (m ^ p / 10 ^ (12 * (p - q))), aa4 (m ^ p % 10 ^ (12 * (p - q))), 0, ()) := by
    unfold avZ
    dsimp only
    rw [alY hf, alY hft]
    dsimp only
    rw [if_neg zc, ← Int.natCast_ediv, ← Int.natCast_emod, ae7, ae7]
   refine uC _ hdiv (uF rfl ?_)
   have hfm : Fit ((m ^ p / 10 ^ (12 * (p - q)) : Nat) : Int) := agB hf (by simp only [zK]; exact yS _ _)
   refine uC _ (aLw hfm zc zc) (uF rfl ?_)
   have hv : aeK q (m ^ p / 10 ^ (12 * (p - q))) = arA p q m := by unfold arA; rw [e1]
   have hfv : Fit (arA p q m : Int) := by rw [← hv]; exact agB hfm zl
   have hex : (arA p q m ^ q = m ^ p / 10 ^ (12 * (p - q)) ∧ m ^ p % 10 ^ (12 * (p - q)) = 0) ↔ arA p q m ^ q * 10 ^ (12 * p) = m ^ p * 10 ^ (12 * q) := by
    rw [e2, ← wF]
    have hdm := xZ (m ^ p) (10 ^ (12 * (p - q)))
    constructor
    ·rintro ⟨h1, h2⟩
     rw [h1]
     rw [h2, zv, yN] at hdm
     rw [hdm]
    ·intro h
     have h3 := Nat.eq_of_mul_eq_mul_right (xg zc) h
     constructor
     ·rw [← h3, wJ _ hD]
     ·rw [← h3, Nat.mul_mod_left]
   unfold at6
   rw [hv]
   dsimp only
   cases u
   ·refine uF rfl (uC _ (ag9 hfv) ?_)
    simp only [yo, false_and, if_false]
    rfl
   ·refine uT rfl ?_
    by_cases c1 : arA p q m ^ q = m ^ p / 10 ^ (12 * (p - q))
    ·refine uT (zo c1) ?_
     rw [aEK]
     refine uC _ (ag9 hfv) ?_
     by_cases c2 : m ^ p % 10 ^ (12 * (p - q)) = 0
     ·have c := hex.1 ⟨c1, c2⟩
      simp only [zo c2, Bool.not_true, yo, if_false, c, ne_eq, not_true_eq_false, and_false]
      rfl
     ·have c : ¬ _ := fun h => c2 (hex.2 h).2
      simp only [zn c2, wN, if_true, c, ne_eq, not_false_eq_true, and_self]
      rfl
    ·refine uF (zn c1) (uC _ (ag9 (u := !false) hfv) ?_)
     have c : ¬ _ := fun h => c1 (hex.2 h).1
     simp only [wN, if_true, c, ne_eq, not_false_eq_true, and_self]
     rfl
 ·rw [at7 hf] at hpow
  refine uC _ hpow (uT rfl ?_)
  have := aU1 (q := q) (n := m) zc zc zc hf
  unfold at6
  rw [if_pos this]
  rfl
theorem aCY (p q n : Nat) (u : Bool) : (at6 p q n u).2.1 = 0 ∨ (at6 p q n u).2.1 = 6 := by
 unfold at6
 split
 ·right; rfl
 ·left; rfl
theorem aI4 (b : BdT) (p q : Int) (y) (h : aA4 (b, p, q, ()) = some y) : (azJ b p q).toO = some y := by
 injection h with h
 unfold aH2 at h
 dsimp only at h
 unfold azJ
 refine uC (if okB b.1 b.2.1 then 0 else 30, ()) rfl ?_
 by_cases c : okB b.1 b.2.1
 ·rw [if_pos c] at h ⊢
  refine uF rfl ?_
  refine uC (decide (okE p q), ()) rfl ?_
  by_cases c2 : okE p q
  ·refine uF (by rw [zo c2]; rfl) ?_
   by_cases c3 : b.1 < 0
   ·rw [if_neg (fun h => by have := h.2; omega)] at h
    exact uT (zo c3) (by rw [← h]; rfl)
   ·rw [if_pos ⟨c2, by omega⟩] at h
    obtain ⟨k1, k2, k3⟩ := c
    refine uF (zn c3) (uV (uV ?_))
    obtain ⟨P, rfl⟩ := zu (show 0 ≤ p by have := c2.1; omega)
    obtain ⟨Q, rfl⟩ := zu (show 0 ≤ q by have := c2.2.2.1; omega)
    obtain ⟨lo, hlo⟩ := zu (show 0 ≤ b.1 by omega)
    obtain ⟨hi, hhi⟩ := zu (show 0 ≤ b.2.1 by omega)
    rw [hlo, hhi] at h ⊢
    simp only [zp] at h
    refine uC _ (aLv c2 zc) ?_
    by_cases d1 : (at6 P Q lo false).2.1 ≠ 0
    ·rw [if_pos d1] at h
     refine uT (by simpa using d1) ?_
     have : (at6 P Q lo false).2.1 = 6 := by rcases aCY P Q lo false with e | e <;> omega
     rw [this, ← h]; rfl
    ·rw [if_neg d1] at h
     refine uF (by simpa using d1) ?_
     refine uC _ (aLv c2 zc) ?_
     by_cases d2 : (at6 P Q hi true).2.1 ≠ 0
     ·rw [if_pos d2] at h
      refine uT (by simpa using d2) ?_
      have : (at6 P Q hi true).2.1 = 6 := by rcases aCY P Q hi true with e | e <;> omega
      rw [this, ← h]; rfl
     ·rw [if_neg d2] at h
      refine uF (by simpa using d2) ?_
      unfold mkB at h
      refine uC (mkB 30 (at6 P Q lo false).1 (at6 P Q hi true).1) rfl ?_
      unfold mkB
      by_cases d3 : okB (at6 P Q lo false).1 (at6 P Q hi true).1
      ·rw [if_pos d3] at h ⊢
       exact uF rfl (by rw [← h]; rfl)
      ·rw [if_neg d3] at h ⊢
       exact uT rfl (by rw [← h]; rfl)
  ·rw [if_neg (fun h => c2 h.1)] at h
   exact uT (by rw [zn c2]; rfl) (by rw [← h]; rfl)
 ·rw [if_neg c] at h ⊢
  exact uT rfl (by rw [← h]; rfl)
set_option maxRecDepth 100000
open Go Go.Vg Go.Proofs
noncomputable section
def aNG : LTab := []
def avQ (n : Int) (low : Int) (high : Int) : TT uP :=
 .ite (decide (low ≤ n))
 (.ok ((decide (n ≤ high), ())))
 (.ok ((false, ())))
def aTw : LTab := []
def aLo (n : Int) (d : Int) : TT sA :=
 .call (am5 (n, d, ())) adZ fun y =>
 .ok (((y.1.1, y.1.2.1, ()), ()))
def aJ3 : LTab := []
def aAG (n : Int) : TT sA :=
 .call (ab4 (n, 1, ())) ac5 fun y =>
 .ok (((y.1.1, y.1.2.1, ()), ()))
def aEV : LTab := []
def amO (x : List UInt8 × List UInt8 × Unit) : TT sA :=
 .call (aaJ (0, ())) ac5 fun y =>
 .call (aaJ (1, ())) ac5 fun y1 =>
 .tt <| .tt <| .tt <| .tt <| .call (agO ((x.1, x.2.1, ()), (y.1.1, y.1.2.1, ()), ())) aDr fun y2 =>
 .ite (decide (y2.1 < 0))
 (.ok (((y.1.1, y.1.2.1, ()), ())))
 (.tt <| .tt <| .call (agO ((x.1, x.2.1, ()), (y1.1.1, y1.1.2.1, ()), ())) aDr fun y3 =>
 .ite (decide (y3.1 > 0))
 (.ok (((y1.1.1, y1.1.2.1, ()), ())))
 (.ok (((x.1, x.2.1, ()), ()))))
def aBK : LTab := [(76, 3, 1024, ⟨0, (Bool) × Unit, .dat (.s 2) se <| .nil, [0], [], 0⟩), (76, 58, 4096, ⟨1, (Int) × Unit, .dat (.s 15) uq <| .nil, [14, 13], [], 0⟩)]
def aoB (am7 : List Int) (j : Bool × Unit) (i : (Int) × Unit) : TT tX :=
 .ite (decide (i.1 < len am7))
 (.need (inb i.1 (len am7)) <| .call (acV (gi am7 i.1 0, 0, 65535, ())) Dd1 fun y =>
 .ite (!y.1)
 (.ok (.inr ((false, ()))))
 (.tt <| .lt (w64 (i.1 + 1) : Int) fun z => .vW (vZ z (len am7) am7) <| .tr <| .ok (.inl ((z, ())))))
 (.ok (.inr ((true, ()))))
def aAI (am7 : List Int) (j : (Bool) × Unit) : TT uP :=
 .loop 1 (.tt <| .vW (vZ (0 : Int) (len am7) am7) <| .tr <| .ok ((0, ()))) (aoB am7 j)
def akH (am7 : List Int) : TT uP :=
 .join 0 (ι := (Bool) × Unit) (.ite (decide (len am7 < 2))
 (.ok (.inr ((false, ()))))
 (.ite (decide (len am7 > 17))
 (.ok (.inr ((false, ()))))
 (.tt <| .vW (ui false am7) <| .tr <| .ok (.inl ((false, ())))))) (aAI am7)
def aNz : LTab := [(129, 26, 13312, ⟨0, (Int) × Unit, .dat (.s 17) uq <| .nil, [16, 1], [0], 0⟩), (129, 7, 14336, ⟨1, Unit, .nil, [1], [0], 0⟩), (129, 124, 22528, ⟨2, (Int) × (Int) × Unit, .dat (.s 6) uq <| .dat (.s 5) uq <| .nil, [], [0], 0⟩)]
def aAt (p : uo × Int × Bool × Unit) (i : Int × Unit) (j : Unit) (i1 : (Int) × (Int) × Unit) : TT (uQ ⊕ tX) :=
 .ite (i1.1 != 0)
 (.need (i1.1 ≠ 0) <| .tt <| .lt (Int.tmod i1.2.1 i1.1 : Int) fun z3 => .vW (ui i1.1 z3) <| .vW (vV (ug 122 p.1.1 p.1.2.1 p.1.2.2.1 p.1.2.2.2.1 p.1.2.2.2.2.1 p.1.2.2.2.2.2.1 p.2.1 <| uf p.2.2.1) True) <| .ok (.inl ((z3, i1.1, ()))))
 (.ok (.inr (.inr ((i1.2.1 == 1, ())))))
def aJX (p : uo × Int × Bool × Unit) (i : Int × Unit) (j : Unit) : TT tX :=
 .loop 2 (.tt <| .lt (p.1.2.2.2.2.1 : Int) fun z1 => .lt (p.1.2.2.2.1 : Int) fun z2 => .vW (ui z2 z1) <| .vW (vV (ug 122 p.1.1 p.1.2.1 p.1.2.2.1 z2 z1 p.1.2.2.2.2.2.1 p.2.1 <| uf p.2.2.1) True) <| .ok ((z1, z2, ()))) (aAt p i j)
def agV (p : uo × Int × Bool × Unit) (i : (Int) × Unit) : TT tX :=
 .ite (decide (i.1 < 3))
 (.need (inb i.1 (↑3 : Int)) <| .call (acV (gi [p.1.2.1, p.1.2.2.1, p.1.2.2.2.2.2.1] i.1 0, -100000000, 100000000, ())) Dd1 fun y =>
 .ite (!y.1)
 (.ok (.inr ((false, ()))))
 (.tt <| .lt (w64 (i.1 + 1) : Int) fun z => .vW (ud z ([p.1.2.1, p.1.2.2.1, p.1.2.2.2.2.2.1] : List Int) <| ux ∧ True) <| .vW (vV (ug 122 p.1.1 p.1.2.1 p.1.2.2.1 p.1.2.2.2.1 p.1.2.2.2.2.1 p.1.2.2.2.2.2.1 p.2.1 <| uf p.2.2.1) True) <| .ok (.inl ((z, ())))))
 (.join 1 (ι := Unit) (.call (acV (p.1.1, w64 (p.2.1 + 1), 1000000, ())) Dd1 fun y1 =>
 .ite (!y1.1)
 (.ok (.inr (.inr ((false, ())))))
 (.call (acV (p.1.2.2.2.1, 1, 36, ())) Dd1 fun y2 =>
 .ite (!y2.1)
 (.ok (.inr (.inr ((false, ())))))
 (.call (acV (p.1.2.2.2.2.1, 1, 12, ())) Dd1 fun y3 =>
 .ite (!y3.1)
 (.ok (.inr (.inr ((false, ())))))
 (.tt <| .vW (ux ∧ True) <| .vW (vV (ug 122 p.1.1 p.1.2.1 p.1.2.2.1 p.1.2.2.2.1 p.1.2.2.2.2.1 p.1.2.2.2.2.2.1 p.2.1 <| uf p.2.2.1) True) <| .ok (.inl (())))))) (aJX p i))
def avK (p : uo × Int × Bool × Unit) : TT uP :=
 .loop 0 (.tt <| .vW (ud (0 : Int) ([p.1.2.1, p.1.2.2.1, p.1.2.2.2.2.2.1] : List Int) <| ux ∧ True) <| .vW (vV (ug 122 p.1.1 p.1.2.1 p.1.2.2.1 p.1.2.2.2.1 p.1.2.2.2.2.1 p.1.2.2.2.2.2.1 p.2.1 <| uf p.2.2.1) True) <| .ok ((0, ()))) (agV p)
def avR : LTab := [(77, 6, 2048, ⟨0, (Bool) × Unit, .dat (.s 2) se <| .nil, [1], [0], 0⟩), (128, 14, 14336, ⟨1, (Int) × (Int) × Unit, .dat (.s 9) uq <| .dat (.s 3) uq <| .nil, [8, 7, 0], [8, 4, 2, 0], 0⟩)]
def ajQ (c : Int × List Int × List uo × Unit) (j : Bool × Unit) (i : (Int) × (Int) × Unit) : TT (uQ ⊕ uP) :=
 .ite (decide (i.1 < len c.2.2.1))
 (.need (inb i.1 (len c.2.2.1)) <| .call (ag4 ((((gi c.2.2.1 i.1 (0, 0, 0, 0, 0, 0, ())).1, (gi c.2.2.1 i.1 (0, 0, 0, 0, 0, 0, ())).2.1, (gi c.2.2.1 i.1 (0, 0, 0, 0, 0, 0, ())).2.2.1, (gi c.2.2.1 i.1 (0, 0, 0, 0, 0, 0, ())).2.2.2.1, (gi c.2.2.1 i.1 (0, 0, 0, 0, 0, 0, ())).2.2.2.2.1, (gi c.2.2.1 i.1 (0, 0, 0, 0, 0, 0, ())).2.2.2.2.2.1, ()), i.2.1, i.1 == 0, ()), ())) Dd1 fun y =>
 .ite (!y.1)
 (.ok (.inr ((false, ()))))
 (.tt <| .lt (w64 (i.1 + 1) : Int) fun z => .lt ((gi c.2.2.1 i.1 (0, 0, 0, 0, 0, 0, ())).1 : Int) fun z1 => .vW (ue z1 z (len c.2.2.1) c.2.2.1 <| (ua 8 true) ∧ True) <| .vW (vV (ul (LoopState.ready : LoopState) (none : Option Code) 34 (#[17] : Array Tmp) (ap4 (aeB Tryz.f77) [1, 0, 1, 1, 1, 0, 1, 0, 0]) (ap4 (aeB Tryz.f77) [1, 0, 1, 1, 1, 0, 1, 0, 1]) <| (vX (128 : FuncId) <| True ∧ tk ∧ True) ∧ (vX ((c.1, c.2.1, c.2.2.1, ()) : Int × List Int × List uo × Unit) <| uK ∧ (vX j.1 <| ux ∧ True))) <| vV (vY 42 c.1 c.2.1 c.2.2.1) <| vV (ui 4 true) <| vV (vY 42 c.1 c.2.1 c.2.2.1) True) <| .ok (.inl ((z, z1, ())))))
 (.need (inb (w64 (len c.2.2.1 - 1)) (len c.2.2.1)) <| .ok (.inr (((gi c.2.2.1 (w64 (len c.2.2.1 - 1)) (0, 0, 0, 0, 0, 0, ())).1 == 1000000, ()))))
def as3 (c : Int × List Int × List uo × Unit) (j : (Bool) × Unit) : TT uP :=
 .tt <| .tt <| .tt <| .tt <| .loop 1 (.tt <| .vW (ue (0 : Int) (0 : Int) (len c.2.2.1) c.2.2.1 <| (ua 8 true) ∧ True) <| .vW (vV (ul (LoopState.ready : LoopState) (none : Option Code) 34 (#[17] : Array Tmp) (ap4 (aeB Tryz.f77) [1, 0, 1, 1, 1, 0, 1, 0, 0]) (ap4 (aeB Tryz.f77) [1, 0, 1, 1, 1, 0, 1, 0, 1]) <| (vX (128 : FuncId) <| True ∧ tk ∧ True) ∧ (vX ((c.1, c.2.1, c.2.2.1, ()) : Int × List Int × List uo × Unit) <| uK ∧ (vX j.1 <| ux ∧ True))) <| vV (vY 42 c.1 c.2.1 c.2.2.1) <| vV (ui 4 true) <| vV (vY 42 c.1 c.2.1 c.2.2.1) True) <| .ok ((0, 0, ()))) (ajQ c j)
def agW (c : Int × List Int × List uo × Unit) : TT uP :=
 .join 0 (ι := (Bool) × Unit) (.ite (decide (len c.2.2.1 < 1))
 (.ok (.inr ((false, ()))))
 (.ite (decide (len c.2.2.1 > 4))
 (.ok (.inr ((false, ()))))
 (.tt <| .vW (vX false <| ux ∧ True) <| .vW (vV (vY 42 c.1 c.2.1 c.2.2.1) True) <| .ok (.inl ((false, ())))))) (as3 c)
def aRl : LTab := []
def aAL (c : Int × List Int × List uo × Unit) : TT uS :=
 .ite (c.1 == 1)
 (.ite (len c.2.1 == 0)
 (.ite (!len c.2.2.1 == 0)
 (.ok ((90, ())))
 (.ok ((0, ()))))
 (.ok ((90, ()))))
 (.ite (c.1 == 2)
 (.call (akI (c.2.1, ())) Dd1 fun y =>
 .ite (y.1)
 (.ite (!len c.2.2.1 == 0)
 (.ok ((90, ())))
 (.ok ((0, ()))))
 (.ok ((90, ()))))
 (.ite (c.1 == 3)
 (.ite (len c.2.1 == 0)
 (.call (ag7 ((c.1, c.2.1, c.2.2.1, ()), ())) Dd1 fun y1 =>
 .ite (!y1.1)
 (.ok ((90, ())))
 (.ok ((0, ()))))
 (.ok ((90, ()))))
 (.ok ((90, ())))))
def aRk : LTab := [(25, 122, 11264, ⟨0, (Int) × (Bool) × (Bool) × Unit, .dat (.s 7) uq <| .dat (.s 6) se <| .dat (.s 5) se <| .nil, [3, 2, 1], [0], 0⟩)]
def aC8 (c : Int × List Int × List uo × Unit) (y : Int × Unit) (i : (Int) × (Bool) × (Bool) × Unit) : TT (((Int) × (Bool) × (Bool) × Unit) ⊕ uv) :=
 .ite (decide (i.1 < len c.2.1))
 (.ite (i.2.2.1)
 (.ite (i.2.1)
 (.tt <| .lt (w64 (i.1 + 1) : Int) fun z => .vW (uc true true z (0 : Int) (0 : Int) <| ux ∧ True) <| .vW (vV (vY 42 c.1 c.2.1 c.2.2.1) True) <| .ok (.inl ((z, true, true, ()))))
 (.need (inb i.1 (len c.2.1)) <| .need (inb (w64 (i.1 - 1)) (len c.2.1)) <| .tt <| .lt (w64 (i.1 + 1) : Int) fun z1 => .lt (decide (gi c.2.1 i.1 0 < gi c.2.1 (w64 (i.1 - 1)) 0) : Bool) fun z2 => .vW (uc true z2 z1 (0 : Int) (0 : Int) <| ux ∧ True) <| .vW (vV (vY 42 c.1 c.2.1 c.2.2.1) True) <| .ok (.inl ((z1, z2, true, ())))))
 (.need (inb i.1 (len c.2.1)) <| .need (inb (w64 (i.1 - 1)) (len c.2.1)) <| .ite (i.2.1)
 (.tt <| .lt (w64 (i.1 + 1) : Int) fun z3 => .lt (decide (gi c.2.1 i.1 0 > gi c.2.1 (w64 (i.1 - 1)) 0) : Bool) fun z4 => .vW (uc z4 true z3 (0 : Int) (0 : Int) <| ux ∧ True) <| .vW (vV (vY 42 c.1 c.2.1 c.2.2.1) True) <| .ok (.inl ((z3, true, z4, ()))))
 (.need (inb i.1 (len c.2.1)) <| .need (inb (w64 (i.1 - 1)) (len c.2.1)) <| .tt <| .lt (w64 (i.1 + 1) : Int) fun z5 => .lt (decide (gi c.2.1 i.1 0 < gi c.2.1 (w64 (i.1 - 1)) 0) : Bool) fun z6 => .lt (decide (gi c.2.1 i.1 0 > gi c.2.1 (w64 (i.1 - 1)) 0) : Bool) fun z7 => .vW (uc z7 z6 z5 (0 : Int) (0 : Int) <| ux ∧ True) <| .vW (vV (vY 42 c.1 c.2.1 c.2.2.1) True) <| .ok (.inl ((z5, z6, z7, ()))))))
 (.ite (c.1 == 3)
 (.need (asT Int 0 ≤ 0 ∧ 0 < len c.2.2.1) <| .ite (decide ((gi c.2.2.1 0 (0, 0, 0, 0, 0, 0, ())).2.1 < 0))
 (.ite (!decide (len c.2.2.1 > 1))
 (.ok (.inr ((-1, 0, ()))))
 (.ok (.inr ((0, 0, ())))))
 (.ite (!decide (len c.2.2.1 > 1))
 (.ok (.inr ((1, 0, ()))))
 (.ite (!decide (len c.2.2.1 > 1))
 (.ok (.inr ((-1, 0, ()))))
 (.ok (.inr ((0, 0, ())))))))
 (.ite (!i.2.1)
 (.ok (.inr ((1, 0, ()))))
 (.ite (!i.2.2.1)
 (.ok (.inr ((-1, 0, ()))))
 (.ok (.inr ((0, 0, ())))))))
def aAK (c : Int × List Int × List uo × Unit) : TT uv :=
 .call (ahV ((c.1, c.2.1, c.2.2.1, ()), ())) Dd6 fun y =>
 .ite (y.1 != 0)
 (.ok ((0, y.1, ())))
 (.loop 0 (.tt <| .vW (uc false false (1 : Int) (0 : Int) (0 : Int) <| ux ∧ True) <| .vW (vV (vY 42 c.1 c.2.1 c.2.2.1) True) <| .ok ((1, false, false, ()))) (aC8 c y))
end
theorem aHv (n a b : Int) (y) (h : acV (n, a, b, ()) = some y) : (avQ n a b).toO = some y := by
 injection h with h
 subst h
 unfold avQ
 by_cases c : a ≤ n
 ·refine uT (zo c) ?_
  rw [aaI]
  congr 2
  exact decide_eq_decide.2 ⟨fun h => ⟨c, h⟩, fun h => h.2⟩
 ·refine uF (zn c) ?_
  rw [aaI, zn (fun h : inR n a b => c h.1)]
theorem acH (n a b : Int) : acV (n, a, b, ()) = some (decide (inR n a b), ()) := rfl
theorem aNH (n d : Int) (y) (h : ab4 (n, d, ()) = some y) : (aLo n d).toO = some y := by
 unfold ab4 at h
 split at h
 ·rename_i hp
  exact uC (ofQ n d) (by unfold am5; rw [if_pos hp]) h
 ·cases h
theorem agP {n : Int} {d : Nat} (hn : aa3 n) (hd : d ≠ 0) (h2 : d ≤ 9223372036854775807) : ab4 (n, (d : Int), ()) = some (fx (mkRat n d), ()) := by
 have hd2 : aa3 (d : Int) := ⟨by omega, by omega⟩
 unfold ab4
 rw [if_pos ⟨hn, hd2⟩]
 simp only [aPA hd (abK hn) (abK hd2)]
theorem aET (n : Int) (y) (h : aaJ (n, ()) = some y) : (aAG n).toO = some y := by
 unfold aaJ at h
 split at h
 ·rename_i hp
  exact uC _ (agP (d := 1) hp zc zc) h
 ·cases h
theorem acN {n : Int} (h : aa3 n) : aaJ (n, ()) = some (fx (mkRat n 1), ()) := by unfold aaJ; rw [if_pos h]
theorem acJ (n : Int) : mkRat n 1 = (n : Rat) := by rw [Rat.mkRat_eq_div, show ((1 : Nat) : Rat) = 1 from rfl]; grind
theorem aa9 {n : Int} (h : aa3 n) : acB (mkRat n 1) := aeL zc (abK h) (abK ⟨by omega, by omega⟩)
theorem aFe {p q : Rat} (hp : acB p) (hq : acB q) : agO (fx p, fx q, ()) = some (axD p q, 0, ()) := by
 unfold agO
 simp only [ae3 hp, ae3 hq]
theorem ajF (p q : Rat) : axD p q < 0 ↔ p < q := by
 unfold axD
 split
 ·simp_all
 ·split <;> simp_all
theorem ao8 (p q : Rat) : axD p q > 0 ↔ q < p := by
 unfold axD
 split
 ·rename_i h; constructor
  ·intro h2; omega
  ·intro h2; exact absurd h2 (by grind)
 ·split
  ·rename_i h; subst h; simp
  ·rename_i h1 h2
   constructor
   ·intro _; rcases aFE p q with c | c | c
    ·exact absurd c h1
    ·exact absurd c h2
    ·exact c
   ·intro _; omega
theorem ae2 {q : Rat} (h : acB q) : acC (fx q, ()) = some (fx (afF q), ()) := aaE (enc := fun x : Rat => (fx x, ())) q h (fun b hb => ad8 (Prod.mk.inj hb).1)
theorem aAH (x : FxT) (y) (h : acC (x, ()) = some y) : (amO x).toO = some y := by
 obtain ⟨q, hp, hx, rfl⟩ := aaC h
 obtain ⟨rfl, -⟩ := Prod.mk.inj hx
 have i0 : aa3 0 := ⟨by omega, by omega⟩
 have i1 : aa3 1 := ⟨by omega, by omega⟩
 unfold amO
 refine uC _ (acN i0) (uC _ (acN i1) (uV (uV (uV (uV ?_)))))
 refine uC _ (aFe hp (aa9 i0)) ?_
 have e0 : mkRat 0 1 = (0 : Rat) := by rw [acJ]; rfl
 have e1 : mkRat 1 1 = (1 : Rat) := by rw [acJ]; rfl
 unfold afF
 by_cases c : q < 0
 ·rw [if_pos c]
  refine uT (zo ((ajF _ _).2 (by rw [e0]; exact c))) ?_
  rw [e0]; rfl
 ·rw [if_neg c]
  refine uF (zn (fun h => c (by rw [← e0]; exact (ajF _ _).1 h))) (uV (uV ?_))
  refine uC _ (aFe hp (aa9 i1)) ?_
  by_cases c2 : q > 1
  ·rw [if_pos c2]
   refine uT (zo ((ao8 _ _).2 (by rw [e1]; exact c2))) ?_
   rw [e1]; rfl
  ·rw [if_neg c2]
   exact uF (zn (fun h => c2 (by rw [← e1]; exact (ao8 _ _).1 h))) rfl
theorem axL (l : List Int) (y) (h : akI (l, ()) = some y) : (akH l).toO = some y := by
 injection h with h
 subst h
 unfold akH
 dsimp only
 by_cases h1 : l.length < 2
 ·rw [zn (fun h : adM l => by have := h.1; omega)]
  exact uR _ (uT sd rfl)
 by_cases h2 : l.length > 17
 ·rw [zn (fun h : adM l => by have := h.2.1; omega)]
  exact uR _ (uF sd (uT sd rfl))
 refine uL (false, ()) (uF sd (uF sd rfl)) ?_
 refine uO (0, ()) rfl ?_
 refine aaK (fun i : Int × Unit => ∃ k : Nat, k ≤ l.length ∧ i = ((k : Int), ()) ∧ ∀ v ∈ l.take k, inR v 0 65535) (fun i => ((l.length : Int) - i.1).toNat) (fun _ => (decide (adM l), ())) ?_ _ ⟨0, by omega, rfl, by simp⟩
 rintro i ⟨k, h3, rfl, h4⟩
 simp only [aoB, aaL]
 rcases zr k l.length with hk | hk
 ·have e : l.getD k 0 = l[k] := by simp [hk]
  rw [e]
  by_cases c : inR l[k] 0 65535
  ·left
   refine ⟨(((k + 1 : Nat) : Int), ()), ?_, ⟨k + 1, by omega, rfl, ?_⟩, by simp only; omega, ze⟩
   ·refine uT sd (uN sd (uC _ (acH _ _ _) (uF (by rw [zo c]; rfl) ?_)))
    repeat refine za ?_
    simp (disch := omega) only [aaI, aaA, aaP, aa1, abU, aaL, zv, zp, aaB, zt]
    rfl
   ·intro v hv
    rw [zW hk] at hv
    rcases zJ.1 hv with hv | hv
    ·exact h4 v hv
    ·rw [ya.1 hv]; exact c
  ·right
   rw [zn (fun h : adM l => c (h.2.2 _ (ym hk)))]
   exact uT sd (uN sd (uC _ (acH _ _ _) (uT (by rw [zn c]; rfl) rfl)))
 ·right
  rw [zy hk] at h4
  rw [zo (show adM l from ⟨by omega, by omega, h4⟩)]
  exact uF sd rfl
theorem aTc {a b : Int} (ha : 0 ≤ a) (hb : 0 < b) : Nat.gcd b.natAbs (Int.tmod a b).natAbs = Nat.gcd a.natAbs b.natAbs := by
 obtain ⟨m, rfl⟩ := zu ha
 obtain ⟨n, rfl⟩ := zu (xu hb)
 rw [zF ha]
 have : ((m : Int) % (n : Int)) = ((m % n : Nat) : Int) := zi
 rw [this, zK, zK, zK, xI n, xI m n, Nat.gcd_rec n m]
theorem aOa {p : PcT} (h : inR p.2.1 0 1000000) : ag4 (p, ()) = some (decide (akL p.2.1 p.1), ()) := by unfold ag4; rw [if_pos h]
theorem aHn (p : PcT) (y) (h : ag4 (p, ()) = some y) : (avK p).toO = some y := by
 unfold ag4 at h
 split at h
 case isFalse => cases h
 case isTrue hfrom =>
 injection h with h
 subst h
 obtain ⟨hf0, hf1⟩ := hfrom
 dsimp only at hf0 hf1 ⊢
 obtain ⟨⟨till, mul, add, nu, de, off, u⟩, fr, first, u'⟩ := p
 dsimp only at hf0 hf1 ⊢
 unfold avK
 refine uO (0, ()) rfl ?_
 have bad : ∀ b : Bool, b = false → (decide (akL fr (till, mul, add, nu, de, off, u)), ()) = (false, ()) ∨ akL fr (till, mul, add, nu, de, off, u) := fun b hb => by
  by_cases c : akL fr (till, mul, add, nu, de, off, u)
  ·exact Or.inr c
  ·left; rw [zn c]
 have step : ∀ (k : Nat) (x : Int), k < 3 → gi [mul, add, off] (k : Int) 0 = x → (inR x (-100000000) 100000000 → (agV ((till, mul, add, nu, de, off, u), fr, first, u') ((k : Int), ())).toO = some (.inl (((k + 1 : Nat) : Int), ()))) ∧ (¬ inR x (-100000000) 100000000 → (agV ((till, mul, add, nu, de, off, u), fr, first, u') ((k : Int), ())).toO = some (.inr (false, ()))) := by
  intro k x hk hx
  constructor
  ·intro c
   unfold agV
   dsimp only
   refine uT sd (uN ⟨by omega, by omega⟩ ?_)
   rw [hx]
   refine uC _ (acH _ _ _) (uF (by rw [zo c]; rfl) ?_)
   repeat refine za ?_
   simp (disch := omega) only [aaI, aaA, aaP, aa1, abU, aaL, zv, zp, aaB, zt]
   rfl
  ·intro c
   unfold agV
   dsimp only
   refine uT sd (uN ⟨by omega, by omega⟩ ?_)
   rw [hx]
   exact uC _ (acH _ _ _) (uT (by rw [zn c]; rfl) rfl)
 by_cases c1 : inR mul (-100000000) 100000000
 case neg =>
  rw [zn (fun h : akL _ _ => c1 h.1.1)]
  exact acS ((step 0 mul zc rfl).2 c1)
 rw [ac7 ((step 0 mul zc rfl).1 c1)]
 by_cases c2 : inR add (-100000000) 100000000
 case neg =>
  rw [zn (fun h : akL _ _ => c2 h.1.2.1)]
  exact acS ((step 1 add zc rfl).2 c2)
 rw [ac7 ((step 1 add zc rfl).1 c2)]
 by_cases c3 : inR off (-100000000) 100000000
 case neg =>
  rw [zn (fun h : akL _ _ => c3 h.1.2.2.1)]
  exact acS ((step 2 off zc rfl).2 c3)
 rw [ac7 ((step 2 off zc rfl).1 c3)]
 refine acS ?_
 unfold agV
 refine uF rfl ?_
 dsimp only
 have hw : w64 (fr + 1) = fr + 1 := aaA zc
 by_cases c4 : inR till (fr + 1) 1000000
 case neg =>
  rw [zn (fun h : akL _ _ => c4 h.2)]
  refine uR _ (uC _ (acH _ _ _) (uT (by rw [hw, zn c4]; rfl) rfl))
 by_cases c5 : inR nu 1 36
 case neg =>
  rw [zn (fun h : akL _ _ => c5 h.1.2.2.2.1)]
  refine uR _ (uC _ (acH _ _ _) (uF (by rw [hw, zo c4]; rfl) (uC _ (acH _ _ _) (uT (by rw [zn c5]; rfl) rfl))))
 by_cases c6 : inR de 1 12
 case neg =>
  rw [zn (fun h : akL _ _ => c6 h.1.2.2.2.2.1)]
  refine uR _ (uC _ (acH _ _ _) (uF (by rw [hw, zo c4]; rfl) (uC _ (acH _ _ _) (uF (by rw [zo c5]; rfl) (uC _ (acH _ _ _) (uT (by rw [zn c6]; rfl) rfl))))))
 refine uL () (uC _ (acH _ _ _) (uF (by rw [hw, zo c4]; rfl) (uC _ (acH _ _ _) (uF (by rw [zo c5]; rfl) (uC _ (acH _ _ _) (uF (by rw [zo c6]; rfl) rfl)))))) ?_
 refine uO (de, nu, ()) rfl ?_
 have hd : decide (akL fr (till, mul, add, nu, de, off, u)) = decide (Nat.gcd nu.natAbs de.natAbs = 1) := decide_eq_decide.2 ⟨fun h => h.1.2.2.2.2.2, fun h => ⟨⟨c1, c2, c3, c5, c6, h⟩, c4⟩⟩
 rw [hd]
 refine aaK (fun i : Int × Int × Unit => 0 ≤ i.1 ∧ 0 ≤ i.2.1 ∧ Nat.gcd i.2.1.natAbs i.1.natAbs = Nat.gcd nu.natAbs de.natAbs) (fun i => i.1.toNat) (fun _ => (.inr (decide (Nat.gcd nu.natAbs de.natAbs = 1), ()) : (Int × Unit) ⊕ (Bool × Unit))) ?_ _ ⟨by show (0 : Int) ≤ de; have := c6.1; omega, by show (0 : Int) ≤ nu; have := c5.1; omega, rfl⟩
 rintro ⟨b, a, u2⟩ ⟨g1, g2, g3⟩
 dsimp only at g1 g2 g3
 unfold aAt
 by_cases hb : b = 0
 ·right
  subst hb
  refine uF rfl ?_
  have g4 : a.natAbs = Nat.gcd nu.natAbs de.natAbs := by simpa using g3
  show some (Sum.inr (Sum.inr (a == 1, ()))) = _
  by_cases c : a = 1
  ·rw [zo (show Nat.gcd nu.natAbs de.natAbs = 1 by omega), c]; rfl
  ·rw [zn (show ¬ Nat.gcd nu.natAbs de.natAbs = 1 by omega), beq_eq_false_iff_ne.2 c]
 ·left
  have hlt : Int.tmod a b < b := by rw [zF g2]; exact yB _ zc
  have hge : 0 ≤ Int.tmod a b := by rw [zF g2]; exact yQ _ hb
  refine ⟨(Int.tmod a b, b, ()), ?_, ⟨hge, by dsimp only; omega, ?_⟩, by dsimp only; omega, ze⟩
  ·refine uT (by simpa using hb) (uN hb ?_)
   repeat refine za ?_
   rfl
  ·dsimp only
   rw [← g3]; exact aTc g2 zc
abbrev zs : adI := (0, 0, 0, 0, 0, 0, ())
theorem aLY {last : Int} : ahJ last [] ↔ last = 1000000 := Iff.rfl
theorem aIq {last : Int} {s : adI} {r : List adI} : ahJ last (s :: r) ↔ akL last s ∧ ahJ s.1 r := Iff.rfl
theorem arG (c : CvT) (y) (h : ag7 (c, ()) = some y) : (agW c).toO = some y := by
 injection h with h
 subst h
 obtain ⟨kind, tab, l, u0⟩ := c
 dsimp only
 unfold agW
 dsimp only
 by_cases h1 : l.length < 1
 ·rw [zn (fun h : acA l => by have := h.1; omega)]
  exact uR _ (uT sd rfl)
 by_cases h2 : l.length > 4
 ·rw [zn (fun h : acA l => by have := h.2.1; omega)]
  exact uR _ (uF sd (uT sd rfl))
 refine uL (false, ()) (uF sd (uF sd rfl)) ?_
 refine uO (0, 0, ()) rfl ?_
 have hl : decide (acA l) = decide (ahJ 0 l) := decide_eq_decide.2 ⟨fun h => h.2.2, fun h => ⟨by omega, by omega, h⟩⟩
 rw [hl]
 refine aaK (fun i : Int × Int × Unit => ∃ k : Nat, k ≤ l.length ∧ i.1 = (k : Int) ∧ inR i.2.1 0 1000000 ∧ (ahJ 0 l ↔ ahJ i.2.1 (l.drop k)) ∧ (k ≠ 0 → i.2.1 = (l.getD (k - 1) zs).1)) (fun i => ((l.length : Int) - i.1).toNat) (fun _ => (decide (ahJ 0 l), ())) ?_ _ ⟨0, by omega, rfl, ⟨by simp, by simp⟩, by simp, by simp⟩
 rintro ⟨i, last, u⟩ ⟨k, h3, h4, h5, h6, h7⟩
 dsimp only at h4 h5 h6 h7
 subst h4
 simp only [ajQ, aaL]
 rcases zr k l.length with hk | hk
 ·have e : l.getD k zs = l[k] := by simp [hk]
  have hv : ag4 ((((l.getD k zs).1, (l.getD k zs).2.1, (l.getD k zs).2.2.1, (l.getD k zs).2.2.2.1, (l.getD k zs).2.2.2.2.1, (l.getD k zs).2.2.2.2.2.1, ()), last, (k : Int) == 0, ()), ()) = some (decide (akL last l[k]), ()) := by
   rw [aOa h5, e]
  rw [yu hk, aIq] at h6
  by_cases c : akL last l[k]
  ·left
   refine ⟨(((k + 1 : Nat) : Int), l[k].1, ()), ?_, ⟨k + 1, by omega, rfl, ⟨?_, c.2.2⟩, ⟨fun h => (h6.1 h).2, fun h => h6.2 ⟨c, h⟩⟩, fun _ => by rw [xB, e]⟩, by dsimp only; omega, ze⟩
   ·refine uT sd (uN sd (uC _ hv (uF (by rw [zo c]; rfl) ?_)))
    repeat refine za ?_
    rw [aaA (x := (k : Int) + 1) zc]
    show some (Sum.inl (((k + 1 : Nat) : Int), (l.getD k zs).1, ())) = _
    rw [e]
   ·have := h5.1; have := c.2.1; dsimp only; omega
  ·right
   rw [zn (fun h => c (h6.1 h).1)]
   exact uT sd (uN sd (uC _ hv (uT (by rw [zn c]; rfl) rfl)))
 ·right
  have hkl : k = l.length := zc
  subst hkl
  rw [List.drop_length, aLY] at h6
  have hw : w64 (len l - 1) = ((l.length - 1 : Nat) : Int) := by rw [aaB, aaA (x := (l.length : Int) - 1) zc]; omega
  simp only [hw, aaL]
  refine uF sd (uN sd ?_)
  rw [h7 zc] at h6
  show some (Sum.inr ((l.getD (l.length - 1) zs).1 == 1000000, ())) = _
  by_cases c : (l.getD (l.length - 1) zs).1 = 1000000
  ·rw [zo (h6.2 c), yA.2 c]
  ·rw [zn (fun h => c (h6.1 h)), beq_eq_false_iff_ne.2 c]
theorem al9 {α : Type} (l : List α) : (len l == 0) = decide (l = []) := by
 cases l with
 | nil => rfl
 | cons a l => rw [zn zi, beq_eq_false_iff_ne]; simp [len]; omega
theorem aJ5 (c : CvT) (y) (h : ahV (c, ()) = some y) : (aAL c).toO = some y := by
 injection h with h
 subst h
 obtain ⟨kind, tab, l, u⟩ := c
 unfold aAL
 dsimp only
 simp only [al9]
 by_cases k1 : kind = 1
 ·subst k1
  refine uT rfl ?_
  by_cases a1 : tab = []
  ·refine uT (zo a1) ?_
   by_cases a2 : l = []
   ·rw [if_pos (show abJ (1, tab, l, u) from Or.inl ⟨rfl, a1, a2⟩)]
    exact uF (by rw [zo a2]; rfl) rfl
   ·rw [if_neg (fun h => by rcases h with h | h | h; exact a2 h.2.2; exact absurd h.1 zj; exact absurd h.1 zj)]
    exact uT (by rw [zn a2]; rfl) rfl
  ·rw [if_neg (fun h => by rcases h with h | h | h; exact a1 h.2.1; exact absurd h.1 zj; exact absurd h.1 zj)]
   exact uF (zn a1) rfl
 refine uF (beq_eq_false_iff_ne.2 k1) ?_
 by_cases k2 : kind = 2
 ·subst k2
  refine uT rfl (uC (decide (adM tab), ()) rfl ?_)
  by_cases a1 : adM tab
  ·refine uT (zo a1) ?_
   by_cases a2 : l = []
   ·rw [if_pos (show abJ (2, tab, l, u) from Or.inr (Or.inl ⟨rfl, a1, a2⟩))]
    exact uF (by rw [zo a2]; rfl) rfl
   ·rw [if_neg (fun h => by rcases h with h | h | h; exact absurd h.1 zj; exact a2 h.2.2; exact absurd h.1 zj)]
    exact uT (by rw [zn a2]; rfl) rfl
  ·rw [if_neg (fun h => by rcases h with h | h | h; exact absurd h.1 zj; exact a1 h.2.1; exact absurd h.1 zj)]
   exact uF (zn a1) rfl
 refine uF (beq_eq_false_iff_ne.2 k2) ?_
 by_cases k3 : kind = 3
 ·subst k3
  refine uT rfl ?_
  by_cases a1 : tab = []
  ·refine uT (zo a1) (uC (decide (acA l), ()) rfl ?_)
   by_cases a2 : acA l
   ·rw [if_pos (show abJ (3, tab, l, u) from Or.inr (Or.inr ⟨rfl, a1, a2⟩))]
    exact uF (by rw [zo a2]; rfl) rfl
   ·rw [if_neg (fun h => by rcases h with h | h | h; exact absurd h.1 zj; exact absurd h.1 zj; exact a2 h.2.2)]
    exact uT (by rw [zn a2]; rfl) rfl
  ·rw [if_neg (fun h => by rcases h with h | h | h; exact absurd h.1 zj; exact absurd h.1 zj; exact a1 h.2.1)]
   exact uF (zn a1) rfl
 ·rw [if_neg (fun h => by rcases h with h | h | h; exact k1 h.1; exact k2 h.1; exact k3 h.1)]
  exact uF (beq_eq_false_iff_ne.2 k3) rfl
theorem aBk (c : CvT) : ahV (c, ()) = some (if abJ c then 0 else 90, ()) := rfl
end Go.Vs
