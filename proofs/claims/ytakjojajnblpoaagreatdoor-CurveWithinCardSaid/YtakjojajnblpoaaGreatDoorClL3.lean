/-
  Trees of what the functions compute, and their laws. Own work; no condition.
-/
import Derived.Test.YtakjojajnblpoaaGreatDoorClL2
import Derived.Test.YtakjojajnblpoaaGreatDoorProg
set_option linter.unusedVariables false
set_option linter.unusedSimpArgs false
set_option maxRecDepth 100000
namespace Go.Vs
open Go Go.Vg Go.Proofs
noncomputable section
def aNM : LTab := []
def ayC (lo : Int) (hi : Int) : TT uI :=
 .ite (decide (-1000000000000000000 ≤ lo))
 (.ite (decide (lo ≤ hi))
 (.ok ((decide (hi ≤ 1000000000000000000), ())))
 (.ok ((false, ()))))
 (.ok ((false, ())))
def aPV : LTab := []
def aCK (lo : Int) (hi : Int) : TT uA :=
 .call (adW (lo, hi, ())) Dd1 fun y =>
 .ite (!y.1)
 (.ok (((0, 0, ()), 6, ())))
 (.ok (((lo, hi, ()), 0, ())))
def aNQ : LTab := []
def ayE (b : Int × Int × Unit) : TT uK :=
 .call (adW (b.1, b.2.1, ())) Dd1 fun y =>
 .ite (!y.1)
 (.ok ((30, ())))
 (.ok ((0, ())))
def aR8 : LTab := []
def aNO (lo : Int) (hi : Int) : TT uA :=
 .call (adW (lo, hi, ())) Dd1 fun y =>
 .ite (!y.1)
 (.ok (((0, 0, ()), 30, ())))
 (.ok (((lo, hi, ()), 0, ())))
def aNN : LTab := []
def aE2 (l : List Int) : TT uK :=
 .call (ayM (l, ())) Dd6 fun y =>
 .ok ((y.1, ()))
def aE3 : LTab := []
def auE (l : List Int) : TT uK :=
 .call (ayN (l, ())) Dd6 fun y =>
 .ok ((y.1, ()))
def aKt : LTab := []
def as0 (a : List UInt8 × List UInt8 × Unit) : TT uA :=
 .call (ak4 ((a.1, a.2.1, ()), 1000000000000, ())) aFj fun y =>
 .ite (y.2.1 != 0)
 (.ok (((0, 0, ()), y.2.1, ())))
 (.call (amI (y.1, 1000000000000, ())) afR fun y1 =>
 .ite (y1.2.1 != 0)
 (.ok (((0, 0, ()), y1.2.1, ())))
 (.call (ah4 ((a.1, a.2.1, ()), (y1.1.1, y1.1.2.1, ()), ())) aFj fun y2 =>
 .ite (y2.2.1 != 0)
 (.ok (((0, 0, ()), y2.2.1, ())))
 (.call (adW (y.1, y.1, ())) Dd1 fun y3 =>
 .ite (!y3.1)
 (.ok (((0, 0, ()), 6, ())))
 (.call (aiR (w64 (y.1 + if 0 < y2.1 then 0 else y2.1), w64 (y.1 + if 0 > y2.1 then 0 else y2.1), ())) atE fun y4 =>
 .ok (((y4.1.1, y4.1.2.1, ()), y4.2.1, ()))))))
def aRr : LTab := [(113, 26, 13312, ⟨0, (Int) × Unit, .dat (.s 11) uk <| .nil, [10, 9, 4, 0], [8, 7, 2, 1, 0], 0⟩)]
def aqP (a : Int × Int × Unit) (b : Int × Int × Unit) (i : (Int) × Unit) : TT (uW ⊕ uA) :=
 .ite (decide (i.1 < (↑2 : Int)))
 (.need (inb i.1 (↑2 : Int)) <| .call (adW ((List.getD [(a.1, a.2.1, ()), (b.1, b.2.1, ())] (0 + Int.toNat i.1) (0, 0, ())).1, (List.getD [(a.1, a.2.1, ()), (b.1, b.2.1, ())] (0 + Int.toNat i.1) (0, 0, ())).2.1, ())) Dd1 fun y =>
 .ite (!y.1)
 (.ok (.inr (((0, 0, ()), 30, ()))))
 (.tt <| .lt (w64 (i.1 + 1) : Int) fun z => .triv (((z : Int) = z) ∧ (((↑2 : Int) : Int) = (↑2 : Int)) ∧ (((7) = (7)) ∧ (((0) = (0)) ∧ (((2) = (2)) ∧ ((true) = (true))))) ∧ (((8) = (8)) ∧ (((0) = (0)) ∧ ((true) = (true)))) ∧ (((201 : FuncId) = 201) ∧ (True ∧ ((((0) = (0)) ∧ (((0) = (0)) ∧ ((true) = (true)))) ∧ ((((1) = (1)) ∧ (((0) = (0)) ∧ ((true) = (true)))) ∧ True)))) ∧ True) ⟨rfl, rfl, ⟨rfl, ⟨rfl, ⟨rfl, rfl⟩⟩⟩, ⟨rfl, ⟨rfl, rfl⟩⟩, ⟨rfl, ⟨trivial, ⟨⟨rfl, ⟨rfl, rfl⟩⟩, ⟨⟨rfl, ⟨rfl, rfl⟩⟩, trivial⟩⟩⟩⟩, trivial⟩ <| .vT (vS ur <| vS (vX 53 ([(a.1, a.2.1, ()), (b.1, b.2.1, ())] : List uo)) <| vS ur <| vS (vW 53 b.1 b.2.1) <| vS (vW 53 a.1 a.2.1) True) <| .ok (.inl ((z, ())))))
 (.tt <| .tt <| .call (aiR (w64 (a.1 + b.1), w64 (a.2.1 + b.2.1), ())) atE fun y1 =>
 .ok (.inr (((y1.1.1, y1.1.2.1, ()), y1.2.1, ()))))
def aHe (a : Int × Int × Unit) (b : Int × Int × Unit) : TT uA :=
 .tt <| .tt <| .loop 0 (.tt <| .triv (((0 : Int) = 0) ∧ (((↑2 : Int) : Int) = (↑2 : Int)) ∧ (((7) = (7)) ∧ (((0) = (0)) ∧ (((2) = (2)) ∧ ((true) = (true))))) ∧ (((8) = (8)) ∧ (((0) = (0)) ∧ ((true) = (true)))) ∧ (((201 : FuncId) = 201) ∧ (True ∧ ((((0) = (0)) ∧ (((0) = (0)) ∧ ((true) = (true)))) ∧ ((((1) = (1)) ∧ (((0) = (0)) ∧ ((true) = (true)))) ∧ True)))) ∧ True) ⟨rfl, rfl, ⟨rfl, ⟨rfl, ⟨rfl, rfl⟩⟩⟩, ⟨rfl, ⟨rfl, rfl⟩⟩, ⟨rfl, ⟨trivial, ⟨⟨rfl, ⟨rfl, rfl⟩⟩, ⟨⟨rfl, ⟨rfl, rfl⟩⟩, trivial⟩⟩⟩⟩, trivial⟩ <| .vT (vS ur <| vS (vX 53 ([(a.1, a.2.1, ()), (b.1, b.2.1, ())] : List uo)) <| vS ur <| vS (vW 53 b.1 b.2.1) <| vS (vW 53 a.1 a.2.1) True) <| .ok ((0, ()))) (aqP a b)
def aPX : LTab := [(113, 26, 20480, ⟨0, (Int) × Unit, .dat (.s 11) uk <| .nil, [10, 9, 4, 0], [15, 14, 9, 8, 7, 6, 2, 1, 0], 0⟩)]
def amA (a : Int × Int × Unit) (b : Int × Int × Unit) (i : (Int) × Unit) : TT (uW ⊕ uA) :=
 .ite (decide (i.1 < (↑2 : Int)))
 (.need (inb i.1 (↑2 : Int)) <| .call (adW ((List.getD [(a.1, a.2.1, ()), (b.1, b.2.1, ())] (0 + Int.toNat i.1) (0, 0, ())).1, (List.getD [(a.1, a.2.1, ()), (b.1, b.2.1, ())] (0 + Int.toNat i.1) (0, 0, ())).2.1, ())) Dd1 fun y =>
 .ite (!y.1)
 (.ok (.inr (((0, 0, ()), 30, ()))))
 (.tt <| .lt (w64 (i.1 + 1) : Int) fun z => .triv (((z : Int) = z) ∧ (((↑2 : Int) : Int) = (↑2 : Int)) ∧ (((14) = (14)) ∧ (((0) = (0)) ∧ (((2) = (2)) ∧ ((true) = (true))))) ∧ (((15) = (15)) ∧ (((0) = (0)) ∧ ((true) = (true)))) ∧ (((230 : FuncId) = 230) ∧ (True ∧ ((((7) = (7)) ∧ (((0) = (0)) ∧ ((true) = (true)))) ∧ ((((8) = (8)) ∧ (((0) = (0)) ∧ ((true) = (true)))) ∧ ((((6) = (6)) ∧ (((0) = (0)) ∧ ((true) = (true)))) ∧ True))))) ∧ True) ⟨rfl, rfl, ⟨rfl, ⟨rfl, ⟨rfl, rfl⟩⟩⟩, ⟨rfl, ⟨rfl, rfl⟩⟩, ⟨rfl, ⟨trivial, ⟨⟨rfl, ⟨rfl, rfl⟩⟩, ⟨⟨rfl, ⟨rfl, rfl⟩⟩, ⟨⟨rfl, ⟨rfl, rfl⟩⟩, trivial⟩⟩⟩⟩⟩, trivial⟩ <| .vT (vS ur <| vS (vX 53 ([(a.1, a.2.1, ()), (b.1, b.2.1, ())] : List uo)) <| vS ur <| vS (vW 53 b.1 b.2.1) <| vS (vW 53 a.1 a.2.1) <| vS (uf 3 (2 : Int)) <| vS ur <| vS (vW 53 b.1 b.2.1) <| vS (vW 53 a.1 a.2.1) True) <| .ok (.inl ((z, ())))))
 (.tt <| .tt <| .ite (match a.1 == b.1 with
| true =>
 match a.2.1 == b.2.1 with
 | true => true
 | false => false
| false => false)
 (.ok (.inr (((a.1, a.2.1, ()), 0, ()))))
 (.triv (asT Int 0 ≤ 2 ∧ 2 < (↑4 : Int)) zf <| .call (ayR (List.take 2 [a.1, b.1], ())) Dd6 fun y1 =>
 .call (amK (List.take 2 [a.2.1, b.2.1], ())) Dd6 fun y2 =>
 .ite (decide (y1.1 > y2.1))
 (.ok (.inr (((0, 0, ()), 4, ()))))
 (.ok (.inr (((y1.1, y2.1, ()), 0, ()))))))
def aCL (a : Int × Int × Unit) (b : Int × Int × Unit) : TT uA :=
 .tt <| .tt <| .tt <| .tt <| .loop 0 (.tt <| .triv (((0 : Int) = 0) ∧ (((↑2 : Int) : Int) = (↑2 : Int)) ∧ (((14) = (14)) ∧ (((0) = (0)) ∧ (((2) = (2)) ∧ ((true) = (true))))) ∧ (((15) = (15)) ∧ (((0) = (0)) ∧ ((true) = (true)))) ∧ (((230 : FuncId) = 230) ∧ (True ∧ ((((7) = (7)) ∧ (((0) = (0)) ∧ ((true) = (true)))) ∧ ((((8) = (8)) ∧ (((0) = (0)) ∧ ((true) = (true)))) ∧ ((((6) = (6)) ∧ (((0) = (0)) ∧ ((true) = (true)))) ∧ True))))) ∧ True) ⟨rfl, rfl, ⟨rfl, ⟨rfl, ⟨rfl, rfl⟩⟩⟩, ⟨rfl, ⟨rfl, rfl⟩⟩, ⟨rfl, ⟨trivial, ⟨⟨rfl, ⟨rfl, rfl⟩⟩, ⟨⟨rfl, ⟨rfl, rfl⟩⟩, ⟨⟨rfl, ⟨rfl, rfl⟩⟩, trivial⟩⟩⟩⟩⟩, trivial⟩ <| .vT (vS ur <| vS (vX 53 ([(a.1, a.2.1, ()), (b.1, b.2.1, ())] : List uo)) <| vS ur <| vS (vW 53 b.1 b.2.1) <| vS (vW 53 a.1 a.2.1) <| vS (uf 3 (2 : Int)) <| vS ur <| vS (vW 53 b.1 b.2.1) <| vS (vW 53 a.1 a.2.1) True) <| .ok ((0, ()))) (amA a b)
def aNP : LTab := [(113, 26, 13312, ⟨0, (Int) × Unit, .dat (.s 11) uk <| .nil, [10, 9, 4, 0], [8, 7, 3, 2, 1, 0], 0⟩)]
def ajN (b : Int × Int × Unit) (lo : Int) (hi : Int) (i : (Int) × Unit) : TT (uW ⊕ uA) :=
 .ite (decide (i.1 < (↑1 : Int)))
 (.need (inb i.1 (↑1 : Int)) <| .call (adW ((List.getD [(b.1, b.2.1, ())] (0 + Int.toNat i.1) (0, 0, ())).1, (List.getD [(b.1, b.2.1, ())] (0 + Int.toNat i.1) (0, 0, ())).2.1, ())) Dd1 fun y =>
 .ite (!y.1)
 (.ok (.inr (((0, 0, ()), 30, ()))))
 (.tt <| .lt (w64 (i.1 + 1) : Int) fun z => .triv (((z : Int) = z) ∧ (((↑1 : Int) : Int) = (↑1 : Int)) ∧ (((7) = (7)) ∧ (((0) = (0)) ∧ (((1) = (1)) ∧ ((true) = (true))))) ∧ (((8) = (8)) ∧ (((0) = (0)) ∧ ((true) = (true)))) ∧ (((114 : FuncId) = 114) ∧ (True ∧ ((((1) = (1)) ∧ (((0) = (0)) ∧ ((true) = (true)))) ∧ ((((2) = (2)) ∧ (((0) = (0)) ∧ ((true) = (true)))) ∧ ((((0) = (0)) ∧ (((0) = (0)) ∧ ((true) = (true)))) ∧ True))))) ∧ True) ⟨rfl, rfl, ⟨rfl, ⟨rfl, ⟨rfl, rfl⟩⟩⟩, ⟨rfl, ⟨rfl, rfl⟩⟩, ⟨rfl, ⟨trivial, ⟨⟨rfl, ⟨rfl, rfl⟩⟩, ⟨⟨rfl, ⟨rfl, rfl⟩⟩, ⟨⟨rfl, ⟨rfl, rfl⟩⟩, trivial⟩⟩⟩⟩⟩, trivial⟩ <| .vT (vS ur <| vS (vX 53 ([(b.1, b.2.1, ())] : List uo)) <| vS ur <| vS (uf 3 hi) <| vS (uf 3 lo) <| vS (vW 53 b.1 b.2.1) True) <| .ok (.inl ((z, ())))))
 (.tt <| .tt <| .call (adW (lo, hi, ())) Dd1 fun y1 =>
 .ite (!y1.1)
 (.ok (.inr (((0, 0, ()), 2, ()))))
 (.call (aiR (if hi < if lo > b.1 then lo else b.1 then hi else if lo > b.1 then lo else b.1, if hi < if lo > b.2.1 then lo else b.2.1 then hi else if lo > b.2.1 then lo else b.2.1, ())) atE fun y2 =>
 .ok (.inr (((y2.1.1, y2.1.2.1, ()), y2.2.1, ())))))
def ayD (b : Int × Int × Unit) (lo : Int) (hi : Int) : TT uA :=
 .tt <| .tt <| .loop 0 (.tt <| .triv (((0 : Int) = 0) ∧ (((↑1 : Int) : Int) = (↑1 : Int)) ∧ (((7) = (7)) ∧ (((0) = (0)) ∧ (((1) = (1)) ∧ ((true) = (true))))) ∧ (((8) = (8)) ∧ (((0) = (0)) ∧ ((true) = (true)))) ∧ (((114 : FuncId) = 114) ∧ (True ∧ ((((1) = (1)) ∧ (((0) = (0)) ∧ ((true) = (true)))) ∧ ((((2) = (2)) ∧ (((0) = (0)) ∧ ((true) = (true)))) ∧ ((((0) = (0)) ∧ (((0) = (0)) ∧ ((true) = (true)))) ∧ True))))) ∧ True) ⟨rfl, rfl, ⟨rfl, ⟨rfl, ⟨rfl, rfl⟩⟩⟩, ⟨rfl, ⟨rfl, rfl⟩⟩, ⟨rfl, ⟨trivial, ⟨⟨rfl, ⟨rfl, rfl⟩⟩, ⟨⟨rfl, ⟨rfl, rfl⟩⟩, ⟨⟨rfl, ⟨rfl, rfl⟩⟩, trivial⟩⟩⟩⟩⟩, trivial⟩ <| .vT (vS ur <| vS (vX 53 ([(b.1, b.2.1, ())] : List uo)) <| vS ur <| vS (uf 3 hi) <| vS (uf 3 lo) <| vS (vW 53 b.1 b.2.1) True) <| .ok ((0, ()))) (ajN b lo hi)
def aQu : LTab := [(251, 3, 1024, ⟨0, Unit, .nil, [2, 0], [], 0⟩), (251, 122, 6144, ⟨1, (Int) × (Int) × Unit, .dat (.s 4) uk <| .dat (.s 3) uk <| .nil, [2, 0], [], 0⟩)]
def aHv (x : List Int) (j : Unit) (i : (Int) × (Int) × Unit) : TT (uG ⊕ uK) :=
 .ite (decide (i.1 < len x))
 (.need (inb i.1 (len x)) <| .tt <| .lt (w64 (i.1 + 1) : Int) fun z1 => .lt (if gi x i.1 0 < i.2.1 then gi x i.1 0 else i.2.1 : Int) fun z2 => .vT (vV z2 z1 (0 : Int) x) <| .tr <| .ok (.inl ((z1, z2, ()))))
 (.ok (.inr ((i.2.1, ()))))
def aOC (x : List Int) (j : Unit) : TT uK :=
 .need (asT Int 0 ≤ 0 ∧ 0 < len x) <| .loop 1 (.tt <| .lt (gi x 0 0 : Int) fun z => .vT (vV z (1 : Int) (0 : Int) x) <| .tr <| .ok ((1, z, ()))) (aHv x j)
def aFF (x : List Int) : TT uK :=
 .join 0 (ι := Unit) (.ite (decide (len x < 1))
 (.bad)
 (.tt <| .vT (uf (0 : Int) x) <| .tr <| .ok (.inl (())))) (aOC x)
def aQv : LTab := [(252, 3, 1024, ⟨0, Unit, .nil, [2, 0], [], 0⟩), (252, 122, 6144, ⟨1, (Int) × (Int) × Unit, .dat (.s 4) uk <| .dat (.s 3) uk <| .nil, [2, 0], [], 0⟩)]
def aHw (x : List Int) (j : Unit) (i : (Int) × (Int) × Unit) : TT (uG ⊕ uK) :=
 .ite (decide (i.1 < len x))
 (.need (inb i.1 (len x)) <| .tt <| .lt (w64 (i.1 + 1) : Int) fun z1 => .lt (if gi x i.1 0 > i.2.1 then gi x i.1 0 else i.2.1 : Int) fun z2 => .vT (vV z2 z1 (0 : Int) x) <| .tr <| .ok (.inl ((z1, z2, ()))))
 (.ok (.inr ((i.2.1, ()))))
def aOD (x : List Int) (j : Unit) : TT uK :=
 .need (asT Int 0 ≤ 0 ∧ 0 < len x) <| .loop 1 (.tt <| .lt (gi x 0 0 : Int) fun z => .vT (vV z (1 : Int) (0 : Int) x) <| .tr <| .ok ((1, z, ()))) (aHw x j)
def aFG (x : List Int) : TT uK :=
 .join 0 (ι := Unit) (.ite (decide (len x < 1))
 (.bad)
 (.tt <| .vT (uf (0 : Int) x) <| .tr <| .ok (.inl (())))) (aOD x)
def aF1 : LTab := []
def aoF (n : Int) : TT tc :=
 .call (aIl (#[48].toList, n, ())) Dd2 fun y =>
 .need (List.length #[49].toList + List.length y.1 ≤ lim) <| .ok ((#[49].toList ++ y.1, ()))
def aOZ : LTab := []
def aBT (a : List UInt8) (k : Int) : TT (List UInt8 × Bool × Int × Unit) :=
 .call (aqV (a, k, ())) aHn fun y =>
 .ite (y.2.1 != 0)
 (.ok ((#[].toList, false, y.2.1, ())))
 (.call (amF (y.1, k, ())) aHn fun y1 =>
 .ite (y1.2.1 != 0)
 (.ok ((#[].toList, false, y1.2.1, ())))
 (.ok ((y.1, y1.1 == a, 0, ()))))
def aF2 : LTab := []
def aoG (a : List UInt8) (up0 : Bool) : TT uo :=
 .call (ak2 (a, ())) aFj fun y =>
 .ite (y.2.1 != 0)
 (.ok ((0, y.2.1, ())))
 (.ite (decide (y.1 > 1000000000000000000))
 (.ok ((0, 6, ())))
 (.ite (up0)
 (.ok ((w64 (y.1 + 1), 0, ())))
 (.ok ((y.1, 0, ())))))
def aJc : LTab := []
def ar2 (e : Int × Int × Unit) : TT uI :=
 .ite (decide (e.1 ≥ 1))
 (.ite (decide (e.1 ≤ 36))
 (.ite (decide (e.2.1 ≥ 1))
 (.ok ((decide (e.2.1 ≤ 12), ())))
 (.ok ((false, ()))))
 (.ok ((false, ()))))
 (.ok ((false, ())))
def aOQ : LTab := []
def aBM (p : uo × Unit) (n : Int) (up0 : Bool) : TT uo :=
 .call (auG (n, ())) Dd2 fun y =>
 .call (amF (y.1, p.1.1, ())) aHn fun y1 =>
 .ite (y1.2.1 != 0)
 (.ok ((0, y1.2.1, ())))
 (.ite (decide (p.1.1 ≤ p.1.2.1))
 (.call (ah1 (w64 (12 * w64 (p.1.2.1 - p.1.1)), ())) Dd2 fun y2 =>
 .call (as5 (y1.1, y2.1, ())) aHn fun y3 =>
 .ite (y3.2.1 != 0)
 (.ok ((0, y3.2.1, ())))
 (.call (aq1 (y3.1, p.1.2.1, ())) aSK fun y4 =>
 .ite (y4.2.2.1 != 0)
 (.ok ((0, y4.2.2.1, ())))
 (.ite (up0)
 (.ite (y4.2.1)
 (.call (acL (y4.1, !#[48].toList == #[48].toList, ())) aFj fun y5 =>
 .ok ((y5.1, y5.2.1, ())))
 (.call (acL (y4.1, !false, ())) aFj fun y6 =>
 .ok ((y6.1, y6.2.1, ()))))
 (.call (acL (y4.1, false, ())) aFj fun y7 =>
 .ok ((y7.1, y7.2.1, ()))))))
 (.call (ah1 (w64 (12 * w64 (p.1.1 - p.1.2.1)), ())) Dd2 fun y8 =>
 .call (as6 (y1.1, y8.1, ())) aST fun y9 =>
 .ite (y9.2.2.1 != 0)
 (.ok ((0, y9.2.2.1, ())))
 (.call (aq1 (y9.1, p.1.2.1, ())) aSK fun y10 =>
 .ite (y10.2.2.1 != 0)
 (.ok ((0, y10.2.2.1, ())))
 (.ite (up0)
 (.ite (y10.2.1)
 (.call (acL (y10.1, !y9.2.1 == #[48].toList, ())) aFj fun y11 =>
 .ok ((y11.1, y11.2.1, ())))
 (.call (acL (y10.1, !false, ())) aFj fun y12 =>
 .ok ((y12.1, y12.2.1, ()))))
 (.call (acL (y10.1, false, ())) aFj fun y13 =>
 .ok ((y13.1, y13.2.1, ())))))))
def aLM : LTab := []
def awE (b : Int × Int × Unit) (p : Int) (q : Int) : TT uA :=
 .call (arB ((b.1, b.2.1, ()), ())) Dd6 fun y =>
 .ite (y.1 != 0)
 (.ok (((0, 0, ()), y.1, ())))
 (.call (as8 ((p, q, ()), ())) Dd1 fun y1 =>
 .ite (!y1.1)
 (.ok (((0, 0, ()), 2, ())))
 (.ite (decide (b.1 < 0))
 (.ok (((0, 0, ()), 2, ())))
 (.tt <| .tt <| .call (aq0 (((p, q, ()), ()), b.1, false, ())) aFj fun y2 =>
 .ite (y2.2.1 != 0)
 (.ok (((0, 0, ()), y2.2.1, ())))
 (.call (aq0 (((p, q, ()), ()), b.2.1, true, ())) aFj fun y3 =>
 .ite (y3.2.1 != 0)
 (.ok (((0, 0, ()), y3.2.1, ())))
 (.call (aIn (y2.1, y3.1, ())) atE fun y4 =>
 .ite (y4.2.1 != 0)
 (.ok (((0, 0, ()), 6, ())))
 (.ok (((y4.1.1, y4.1.2.1, ()), 0, ()))))))))
end
open Go Go.Vg
theorem aHa (lo hi : Int) (y) (h : adW (lo, hi, ()) = some y) : (ayC lo hi).toO = some y := by
 injection h with h
 subst h
 unfold ayC
 by_cases h1 : -1000000000000000000 ≤ lo
 ·refine uT (zo h1) ?_
  by_cases h2 : lo ≤ hi
  ·refine uT (zo h2) ?_
   simp [aaK, okB, h1, h2]
  ·refine uF (zn h2) ?_
   simp [aaK, okB, h2]
 ·refine uF (zn h1) ?_
  simp [aaK, okB, h1]
theorem amO (lo hi : Int) : adW (lo, hi, ()) = some (decide (okB lo hi), ()) := rfl
theorem aKr (lo hi : Int) (y) (h : aiR (lo, hi, ()) = some y) : (aCK lo hi).toO = some y := by
 unfold aiR mkB at h
 dsimp only at h
 unfold aCK
 refine uC _ (amO lo hi) ?_
 by_cases h1 : okB lo hi
 ·rw [if_pos h1] at h
  exact uF (by rw [zo h1]; rfl) h
 ·rw [if_neg h1] at h
  exact uT (by rw [zn h1]; rfl) h
theorem aPW (lo hi : Int) (y) (h : aIn (lo, hi, ()) = some y) : (aNO lo hi).toO = some y := by
 unfold aIn mkB at h
 dsimp only at h
 unfold aNO
 refine uC _ (amO lo hi) ?_
 by_cases h1 : okB lo hi
 ·rw [if_pos h1] at h
  exact uF (by rw [zo h1]; rfl) h
 ·rw [if_neg h1] at h
  exact uT (by rw [zn h1]; rfl) h
theorem aHd (b : BdT) (y) (h : arB (b, ()) = some y) : (ayE b).toO = some y := by
 unfold arB at h
 dsimp only at h
 unfold ayE
 refine uC _ (amO b.1 b.2.1) ?_
 by_cases h1 : okB b.1 b.2.1
 ·rw [if_pos h1] at h
  exact uF (by rw [zo h1]; rfl) h
 ·rw [if_neg h1] at h
  exact uT (by rw [zn h1]; rfl) h
theorem aLa (x : List Int) (y) (h : ayM (x, ()) = some y) : (aFF x).toO = some y := by
 unfold ayM at h
 cases x with
 | nil => cases h
 | cons a l =>
  simp only at h
  split at h
  ·rename_i hl
   injection h with h
   subst h
   unfold aFF
   refine uL () (uF (by (try simp only [yn, yk, yJ, yW, beq_eq_false_iff_ne, bne_eq_false_iff_eq, zS, yE]) <;> (try simp only [aaC, inb, inc, ge_iff_le, gt_iff_lt, zp, asT, ne_eq]) <;> simp only [zL] <;> omega) rfl) ?_
   refine uN ⟨by simp [asT], by (try simp only [aaC, inb, inc, ge_iff_le, gt_iff_lt, zp, asT, ne_eq]); simp only [zL]; omega⟩ ?_
   refine uO (1, a, ()) rfl ?_
   refine aaO (fun i : Int × Int × Unit => ∃ k : Nat, k ≤ l.length ∧ i = (((k + 1 : Nat) : Int), (l.take k).foldl (fun m y => if y < m then y else m) a, ())) (fun i => ((l.length + 1 : Nat) - i.1).toNat) (fun _ => (l.foldl (fun m y => if y < m then y else m) a, ())) ?_ _ ⟨0, by omega, rfl⟩
   rintro i ⟨k, hk, rfl⟩
   simp only [aHv, aaM]
   rcases zr k l.length with h1 | h1
   ·left
    refine ⟨(((k + 1 + 1 : Nat) : Int), (l.take (k + 1)).foldl (fun m y => if y < m then y else m) a, ()), ?_, ⟨k + 1, by omega, rfl⟩, by simp only; omega, ze⟩
    refine uT (by (try simp only [yn, yk, yJ, yW, beq_eq_false_iff_ne, bne_eq_false_iff_eq, zS, yE]) <;> (try simp only [aaC, inb, inc, ge_iff_le, gt_iff_lt, zp, asT, ne_eq]) <;> simp only [zL] <;> omega) (uN ⟨by omega, by (try simp only [aaC, inb, inc, ge_iff_le, gt_iff_lt, zp, asT, ne_eq]); simp only [zL]; omega⟩ ?_)
    repeat refine za ?_
    rw [zW h1, List.foldl_append]
    have e : (a :: l).getD (k + 1) 0 = l[k] := by simp [h1]
    rw [e, aaA (x := ((k + 1 : Nat) : Int) + 1) zc]
    rfl
   ·right
    refine uF (by (try simp only [yn, yk, yJ, yW, beq_eq_false_iff_ne, bne_eq_false_iff_eq, zS, yE]) <;> (try simp only [aaC, inb, inc, ge_iff_le, gt_iff_lt, zp, asT, ne_eq]) <;> simp only [zL] <;> omega) ?_
    rw [zz h1]; rfl
  ·cases h
theorem aLb (x : List Int) (y) (h : ayN (x, ()) = some y) : (aFG x).toO = some y := by
 unfold ayN at h
 cases x with
 | nil => cases h
 | cons a l =>
  simp only at h
  split at h
  ·rename_i hl
   injection h with h
   subst h
   unfold aFG
   refine uL () (uF (by (try simp only [yn, yk, yJ, yW, beq_eq_false_iff_ne, bne_eq_false_iff_eq, zS, yE]) <;> (try simp only [aaC, inb, inc, ge_iff_le, gt_iff_lt, zp, asT, ne_eq]) <;> simp only [zL] <;> omega) rfl) ?_
   refine uN ⟨by simp [asT], by (try simp only [aaC, inb, inc, ge_iff_le, gt_iff_lt, zp, asT, ne_eq]); simp only [zL]; omega⟩ ?_
   refine uO (1, a, ()) rfl ?_
   refine aaO (fun i : Int × Int × Unit => ∃ k : Nat, k ≤ l.length ∧ i = (((k + 1 : Nat) : Int), (l.take k).foldl (fun m y => if y > m then y else m) a, ())) (fun i => ((l.length + 1 : Nat) - i.1).toNat) (fun _ => (l.foldl (fun m y => if y > m then y else m) a, ())) ?_ _ ⟨0, by omega, rfl⟩
   rintro i ⟨k, hk, rfl⟩
   simp only [aHw, aaM]
   rcases zr k l.length with h1 | h1
   ·left
    refine ⟨(((k + 1 + 1 : Nat) : Int), (l.take (k + 1)).foldl (fun m y => if y > m then y else m) a, ()), ?_, ⟨k + 1, by omega, rfl⟩, by simp only; omega, ze⟩
    refine uT (by (try simp only [yn, yk, yJ, yW, beq_eq_false_iff_ne, bne_eq_false_iff_eq, zS, yE]) <;> (try simp only [aaC, inb, inc, ge_iff_le, gt_iff_lt, zp, asT, ne_eq]) <;> simp only [zL] <;> omega) (uN ⟨by omega, by (try simp only [aaC, inb, inc, ge_iff_le, gt_iff_lt, zp, asT, ne_eq]); simp only [zL]; omega⟩ ?_)
    repeat refine za ?_
    rw [zW h1, List.foldl_append]
    have e : (a :: l).getD (k + 1) 0 = l[k] := by simp [h1]
    rw [e, aaA (x := ((k + 1 : Nat) : Int) + 1) zc]
    rfl
   ·right
    refine uF (by (try simp only [yn, yk, yJ, yW, beq_eq_false_iff_ne, bne_eq_false_iff_eq, zS, yE]) <;> (try simp only [aaC, inb, inc, ge_iff_le, gt_iff_lt, zp, asT, ne_eq]) <;> simp only [zL] <;> omega) ?_
    rw [zz h1]; rfl
  ·cases h
theorem aHb (l : List Int) (y) (h : ayR (l, ()) = some y) : (aE2 l).toO = some y := uC _ h rfl
theorem azT (l : List Int) (y) (h : amK (l, ()) = some y) : (auE l).toO = some y := uC _ h rfl
theorem ajI (q : Rat) (n : Int) : n ≤ fl q ↔ (n : Rat) ≤ q := by
 unfold fl
 rw [Rat.le_iff, xy (by have := q.den_pos; omega)]
 simp
theorem aDp (a b : Rat) : a < b ∨ a = b ∨ b < a := by grind
theorem aJQ {q : Rat} {n : Int} (h1 : (n : Rat) ≤ q) (h2 : q < ((n + 1 : Int) : Rat)) : fl q = n := by
 have e1 := (ajI q n).2 h1
 have e2 : ¬ (n + 1 ≤ fl q) := fun h => by
  have := (ajI q (n + 1)).1 h
  exact absurd h2 (wT.2 this)
 omega
theorem aRX (q : Rat) : ((fl q : Int) : Rat) ≤ q := (ajI q _).1 (yl _)
theorem aSv (q : Rat) : q < ((fl q + 1 : Int) : Rat) := by
 rcases vO.1 (fun h => by have := (ajI q (fl q + 1)).2 h; omega) with h
 exact h
theorem aHg {x : Rat} {n : Int} (hn : fl (x + 1 / 2) = n) : (x = n → fl x = n ∧ -fl (-x) = n) ∧ (x < n → fl x = n - 1 ∧ -fl (-x) = n) ∧ ((n : Rat) < x → fl x = n ∧ -fl (-x) = n + 1) := by
 have a1 := aRX (x + 1 / 2)
 have a2 := aSv (x + 1 / 2)
 rw [hn] at a1 a2
 rw [xq] at a2
 refine ⟨fun h => ⟨aJQ ?_ ?_, ?_⟩, fun h => ⟨aJQ ?_ ?_, ?_⟩, fun h => ⟨aJQ ?_ ?_, ?_⟩⟩
 ·grind
 ·rw [xq]; grind
 ·have : fl (-x) = -n := aJQ (by rw [wg]; grind) (by rw [xq, wg]; grind)
  omega
 ·rw [vP]; grind
 ·rw [xq, vP]; grind
 ·have : fl (-x) = -n := aJQ (by rw [wg]; grind) (by rw [xq, wg]; grind)
  omega
 ·grind
 ·rw [xq]; grind
 ·have : fl (-x) = -n - 1 := aJQ (by rw [vP, wg]; grind) (by rw [xq, vP, wg]; grind)
  omega
theorem ad8 {n : Int} {d : Nat} (hd : d ≠ 0) (h1 : Fit n) (h2 : Fit d) : adK (mkRat n d) := by
 obtain ⟨g, t, hg, g0, e0, e1, e2⟩ := aeO n hd
 refine ⟨afA h1 ?_, afA h2 ?_⟩
 ·rw [e1, ← acV e0 g0]; exact xo _ _
 ·rw [e2]; simp only [zM]; exact xo _ _
theorem aLT {n : Int} {d : Nat} (hd : d ≠ 0) (h1 : Fit n) (h2 : Fit d) : ofQ n d = (fx (mkRat n d), 0, ()) := by
 unfold ofQ
 rw [if_neg zc, xP, aFn (ad8 hd h1 h2)]
theorem aSd {n : Int} {d : Nat} (hn : aa8 n) (hd : d ≠ 0) (h2 : d ≤ 9223372036854775807) : amI (n, (d : Int), ()) = some (fx (mkRat n d), 0, ()) := by
 have hd2 : aa8 (d : Int) := ⟨by omega, by omega⟩
 unfold amI
 rw [if_pos ⟨hn, hd2⟩]
 simp only [aLT hd (abJ hn) (abJ hd2)]
theorem apV (n : Int) {d : Nat} (hd : d ≠ 0) : mkRat n d * (d : Rat) = (n : Rat) := by
 rw [Rat.mkRat_eq_div]
 exact Rat.div_mul_cancel (by simpa using hd)
theorem aRQ (q : Rat) : apU q 1000000000000 = fl (q * acE + 1 / 2) := by
 unfold apU acE
 rw [show mkRat 1 2 = (1 / 2 : Rat) by rw [Rat.mkRat_eq_div]; rfl]
theorem aE4 (a : FxT) (y) (h : agA (a, ()) = some y) : (as0 a).toO = some y := by
 unfold agA at h
 dsimp only at h
 unfold as0
 cases ha : rdF a with
 | none =>
  simp only [ha] at h
  exact uC (0, 20, ()) (by unfold ak4; dsimp only; rw [show rdF (a.1, a.2.1, ()) = none from ha]) (uT rfl h)
 | some q =>
  simp only [ha] at h
  have hq := (ah7 ha).1
  have hnear : ak4 ((a.1, a.2.1, ()), 1000000000000, ()) = some (if aa8 (apU q 1000000000000) then (apU q 1000000000000, 0, ()) else (0, 6, ())) := by
   unfold ak4
   dsimp only
   rw [show rdF (a.1, a.2.1, ()) = some q from ha]
   simp only
   rw [if_neg zc]
   rfl
  rw [aRQ] at hnear
  have hst := aHg (x := q * acE) rfl
  generalize hn : fl (q * acE + 1 / 2) = n at *
  unfold agJ mkB at h
  by_cases hi : aa8 n
  ·rw [if_pos hi] at hnear
   refine uC _ hnear (uF rfl ?_)
   have hof := aSd (n := n) (d := 1000000000000) hi zc zc
   refine uC _ hof (uF rfl ?_)
   have hfr : adK (mkRat n 1000000000000) := ad8 zc (abJ hi) (abJ ⟨by omega, by omega⟩)
   have hm := apV n (d := 1000000000000) zc
   have hcmp : ah4 ((a.1, a.2.1, ()), (dec (mkRat n 1000000000000).num, aa3 (mkRat n 1000000000000).den, ()), ()) = some (auZ q (mkRat n 1000000000000), 0, ()) := by
    unfold ah4
    simp only [show rdF (a.1, a.2.1, ()) = some q from ha, ae7 hfr]
   refine uC _ hcmp (uF rfl ?_)
   refine uC _ (amO n n) ?_
   have hx : acE = ((1000000000000 : Nat) : Rat) := rfl
   generalize mkRat n 1000000000000 = r at *
   rw [← hx] at hm
   have hone : (0 : Rat) < acE := by rw [hx]; decide
   have hlt : q < r ↔ q * acE < n := by rw [← hm]; exact (vQ hone).symm
   have heq : q = r ↔ q * acE = n := by
    rw [← hm]
    constructor
    ·rintro rfl; rfl
    ·intro h
     rcases aDp q r with c | c | c
     ·have := (vQ hone).2 c; grind
     ·exact c
     ·have := (vQ hone).2 c; grind
   generalize q * acE = x at *
   by_cases hv : okB n n
   ·refine uF (by rw [zo hv]; rfl) ?_
    obtain ⟨v1, v2, v3⟩ := hv
    have key : ∀ lo hi : Int, w64 (n + if 0 < auZ q r then 0 else auZ q r) = lo → w64 (n + if 0 > auZ q r then 0 else auZ q r) = hi → fl x = lo ∧ -fl (-x) = hi → (TT.call (aiR (w64 (n + if 0 < auZ q r then 0 else auZ q r), w64 (n + if 0 > auZ q r then 0 else auZ q r), ())) (Ty.dflt (Ty.pair tH uM)) fun y4 => TT.ok ((y4.1.1, y4.1.2.1, ()), y4.2.1, ())).toO = some y := by
     intro lo hi' h1 h2 h3
     rw [h1, h2]
     refine uC (mkB 6 lo hi') rfl ?_
     rw [h3.1, h3.2] at h
     exact h
    refine key _ _ rfl rfl ?_
    unfold auZ
    by_cases c1 : q < r
    ·rw [if_pos c1]
     obtain ⟨g1, g2⟩ := hst.2.1 (hlt.1 c1)
     rw [if_neg zc, if_pos zc, aaA zc, aaA zc, g1, g2]
     omega
    ·rw [if_neg c1]
     by_cases c2 : q = r
     ·rw [if_pos c2]
      obtain ⟨g1, g2⟩ := hst.1 (heq.1 c2)
      rw [if_neg zc, aaA zc, g1, g2]
      omega
     ·rw [if_neg c2]
      have c3 : (n : Rat) < x := by
       rcases aDp x n with c | c | c
       ·exact absurd (hlt.2 c) c1
       ·exact absurd (heq.2 c) c2
       ·exact c
      obtain ⟨g1, g2⟩ := hst.2.2 c3
      rw [if_pos zc, if_neg zc, aaA zc, aaA zc, g1, g2]
      omega
   ·refine uT (by rw [zn hv]; rfl) ?_
    rw [if_neg] at h
    ·exact h
    ·intro hok
     apply hv
     unfold okB at hok ⊢
     rcases aDp x n with c | c | c
     ·have := hst.2.1 c; omega
     ·have := hst.1 c; omega
     ·have := hst.2.2 c; omega
  ·rw [if_neg hi] at hnear
   refine uC _ hnear (uT rfl ?_)
   rw [if_neg] at h
   ·exact h
   ·intro hok
    apply hi
    unfold okB at hok
    unfold aa8
    rcases aDp (q * acE) n with c | c | c
    ·have := hst.2.1 c; omega
    ·have := hst.1 c; omega
    ·have := hst.2.2 c; omega
theorem aIv (lo hi : Int) : aiR (lo, hi, ()) = some (mkB 6 lo hi) := rfl
theorem aRS {α : Type} {R : Int × Unit → Option ((Int × Unit) ⊕ α)} {a : α} (ok0 ok1 : Prop) [Decidable ok0] [Decidable ok1] {e z : α}
  (h0 : R (0, ()) = if ok0 then some (.inl (1, ())) else some (.inr e)) (h1 : R (1, ()) = if ok1 then some (.inl (2, ())) else some (.inr e)) (h2 : ok0 → ok1 → R (2, ()) = some (.inr z))
  (hz : a = if ok0 ∧ ok1 then z else e) : ac6 R (0, ()) = some a := by
 subst hz
 by_cases c0 : ok0
 ·rw [if_pos c0] at h0
  rw [acR h0]
  by_cases c1 : ok1
  ·rw [if_pos c1] at h1
   rw [acR h1, acB (h2 c0 c1), if_pos ⟨c0, c1⟩]
  ·rw [if_neg c1] at h1
   rw [acB h1, if_neg (fun h => c1 h.2)]
 ·rw [if_neg c0] at h0
  rw [acB h0, if_neg (fun h => c0 h.1)]
theorem aNR (a b : BdT) (y) (h : aHi (a, b, ()) = some y) : (aHe a b).toO = some y := by
 injection h with h
 unfold aHe
 refine uV (uV (uO (0, ()) rfl ?_))
 refine aRS (okB a.1 a.2.1) (okB b.1 b.2.1) (z := mkB 6 (a.1 + b.1) (a.2.1 + b.2.1)) ?_ ?_ ?_ h.symm
 ·by_cases c : okB a.1 a.2.1
  ·rw [if_pos c]
   unfold aqP
   refine uT zf (uN zf (uC (decide (okB a.1 a.2.1), ()) rfl (uF (by rw [zo c]; rfl) ?_)))
   repeat refine za ?_
   rfl
  ·rw [if_neg c]
   unfold aqP
   exact uT zf (uN zf (uC (decide (okB a.1 a.2.1), ()) rfl (uT (by rw [zn c]; rfl) rfl)))
 ·by_cases c : okB b.1 b.2.1
  ·rw [if_pos c]
   unfold aqP
   refine uT zf (uN zf (uC (decide (okB b.1 b.2.1), ()) rfl (uF (by rw [zo c]; rfl) ?_)))
   repeat refine za ?_
   rfl
  ·rw [if_neg c]
   unfold aqP
   exact uT zf (uN zf (uC (decide (okB b.1 b.2.1), ()) rfl (uT (by rw [zn c]; rfl) rfl)))
 ·intro c0 c1
  obtain ⟨u1, u2, u3⟩ := c0
  obtain ⟨w1, w2, w3⟩ := c1
  refine uF zf (uV (uV ?_))
  rw [aaA (x := a.1 + b.1) zc, aaA (x := a.2.1 + b.2.1) zc]
  exact uC _ (aIv _ _) rfl
theorem aKs (a b : BdT) (y) (h : arA (a, b, ()) = some y) : (aCL a b).toO = some y := by
 injection h with h
 unfold aCL
 refine uV (uV (uV (uV (uO (0, ()) rfl ?_))))
 refine aRS (okB a.1 a.2.1) (okB b.1 b.2.1) (z := ((min a.1 b.1, max a.2.1 b.2.1, ()), 0, ())) ?_ ?_ ?_ h.symm
 ·by_cases c : okB a.1 a.2.1
  ·rw [if_pos c]
   unfold amA
   refine uT zf (uN zf (uC (decide (okB a.1 a.2.1), ()) rfl (uF (by rw [zo c]; rfl) ?_)))
   repeat refine za ?_
   rfl
  ·rw [if_neg c]
   unfold amA
   exact uT zf (uN zf (uC (decide (okB a.1 a.2.1), ()) rfl (uT (by rw [zn c]; rfl) rfl)))
 ·by_cases c : okB b.1 b.2.1
  ·rw [if_pos c]
   unfold amA
   refine uT zf (uN zf (uC (decide (okB b.1 b.2.1), ()) rfl (uF (by rw [zo c]; rfl) ?_)))
   repeat refine za ?_
   rfl
  ·rw [if_neg c]
   unfold amA
   exact uT zf (uN zf (uC (decide (okB b.1 b.2.1), ()) rfl (uT (by rw [zn c]; rfl) rfl)))
 ·intro c0 c1
  obtain ⟨u1, u2, u3⟩ := c0
  obtain ⟨w1, w2, w3⟩ := c1
  refine uF zf (uV (uV ?_))
  by_cases he : a.1 = b.1 ∧ a.2.1 = b.2.1
  ·refine uT ?_ ?_
   ·rw [he.1, he.2]; simp
   ·rw [aaK, he.1, he.2, Int.min_self, Int.max_self]
  ·refine uF ?_ ?_
   ·by_cases e1 : a.1 = b.1
    ·have e2 : a.2.1 ≠ b.2.1 := fun h => he ⟨e1, h⟩
     have b1 : (a.1 == b.1) = true := by rw [e1]; simp
     have b2 : (a.2.1 == b.2.1) = false := by rw [beq_eq_false_iff_ne]; exact e2
     rw [b1, b2]
    ·have b1 : (a.1 == b.1) = false := by rw [beq_eq_false_iff_ne]; exact e1
     rw [b1]
   refine uV ?_
   refine uC (if b.1 < a.1 then b.1 else a.1, ()) rfl ?_
   refine uC (if b.2.1 > a.2.1 then b.2.1 else a.2.1, ()) rfl ?_
   have m1 : (if b.1 < a.1 then b.1 else a.1) = min a.1 b.1 := by rw [Int.min_def]; split <;> split <;> omega
   have m2 : (if b.2.1 > a.2.1 then b.2.1 else a.2.1) = max a.2.1 b.2.1 := by rw [Int.max_def]; split <;> split <;> omega
   simp only [m1, m2]
   refine uF sd rfl
theorem aHc (b : BdT) (lo hi : Int) (y) (h : aj5 (b, lo, hi, ()) = some y) : (ayD b lo hi).toO = some y := by
 injection h with h
 unfold ayD
 refine uV (uV (uO (0, ()) rfl ?_))
 unfold aAT at h
 dsimp only at h
 by_cases c : okB b.1 b.2.1
 ·rw [if_pos c] at h
  have h0 : (ajN b lo hi (0, ())).toO = some (.inl (1, ())) := by
   unfold ajN
   refine uT zf (uN zf (uC (decide (okB b.1 b.2.1), ()) rfl (uF (by rw [zo c]; rfl) ?_)))
   repeat refine za ?_
   rfl
  rw [acR h0]
  refine acB ?_
  unfold ajN
  refine uF zf (uV (uV (uC _ (amO lo hi) ?_)))
  by_cases c2 : okB lo hi
  ·rw [if_pos c2] at h
   refine uF (by rw [zo c2]; rfl) ?_
   have m : ∀ x : Int, (if hi < if lo > x then lo else x then hi else if lo > x then lo else x) = min (max x lo) hi := by
    intro x
    rw [Int.min_def, Int.max_def]
    split <;> split <;> split <;> omega
   simp only [m]
   refine uC _ (aIv _ _) ?_
   unfold okB at c c2
   unfold mkB
   rw [if_pos (by unfold okB; omega), ← h]
   rfl
  ·rw [if_neg c2] at h
   exact uT (by rw [zn c2]; rfl) (by rw [← h]; rfl)
 ·rw [if_neg c] at h
  refine acB ?_
  unfold ajN
  exact uT zf (uN zf (uC (decide (okB b.1 b.2.1), ()) rfl (uT (by rw [zn c]; rfl) (by rw [← h]; rfl))))
theorem aPN (n : Nat) : aa3 (10 ^ n) = 49 :: List.replicate n 48 := by
 induction n with
 | zero => rw [Nat.pow_zero, abI zc]; rfl
 | succ n ih =>
  have h1 : 1 ≤ 10 ^ n := yS zc
  rw [yD, afB zc, wI _ zc, Nat.mul_mod_left, ih, wS]
  rfl
theorem aRW (n : Nat) : (List.replicate n ([48] : List UInt8)).flatten = List.replicate n 48 := by
 induction n with
 | zero => rfl
 | succ n ih => rw [xr, List.flatten_cons, ih, xr]; rfl
theorem ay0 {n : Nat} (h : n ≤ 1000) : ah1 ((n : Int), ()) = some (aa3 (10 ^ n), ()) := aaI (enc := fun x : Nat => ((x : Int), ())) n h (fun b hb => Int.ofNat.inj (Prod.mk.inj hb).1)
theorem aBR (n : Int) (y) (h : ah1 (n, ()) = some y) : (aoF n).toO = some y := by
 obtain ⟨k, hp, hx, rfl⟩ := aaD h
 obtain ⟨rfl, -⟩ := Prod.mk.inj hx
 unfold aoF
 refine uC (List.replicate k 48, ()) ?_ ?_
 ·unfold aIl
  rw [if_pos ⟨by simp only; omega, by simp only; omega, by show 1 ≤ 1000; omega⟩]
  simp only [zp]
  rw [aRW]
 ·refine uN ?_ ?_
  ·simp only [xV]
   show 1 + k ≤ lim
   unfold lim; omega
  ·rw [aPN]; rfl
theorem akA {n : Nat} (h : Fit (n : Int)) : rdW (aa3 n) = some (n : Int) := by rw [← aeA]; exact alP h
theorem aNg {p q : Nat × Nat} (h : (aa3 p.1, (p.2 : Int), ()) = (aa3 q.1, (q.2 : Int), ())) : p = q := by
 obtain ⟨h1, h2⟩ := Prod.mk.inj h
 obtain ⟨h2, -⟩ := Prod.mk.inj h2
 exact Prod.ext (aiJ h1) (Int.ofNat.inj h2)
theorem aIr {n k : Nat} (h1 : Fit (n : Int)) (h2 : 1 ≤ k) (h3 : k ≤ 12) : aq1 (aa3 n, (k : Int), ()) = some (aa3 (adR k n), decide (adR k n ^ k = n), 0, ()) := aaI (enc := fun x : Nat × Nat => (aa3 x.1, (x.2 : Int), ())) (n, k) ⟨h1, h2, h3⟩ (fun b hb => aNg hb)
theorem aJe (a : List UInt8) (k : Int) (y) (h : aq1 (a, k, ()) = some y) : (aBT a k).toO = some y := by
 obtain ⟨⟨n, j⟩, hp, hx, rfl⟩ := aaD h
 obtain ⟨rfl, hx2⟩ := Prod.mk.inj hx; obtain ⟨rfl, -⟩ := Prod.mk.inj hx2; dsimp only
 obtain ⟨h1, h2, h3⟩ := hp
 simp only at h1 h2 h3
 obtain ⟨s1, s2⟩ := ajH n h2
 have hle := au7 (n := n) h2
 have f1 : Fit (adR j n : Int) := afA h1 (by simp only [zM]; exact hle)
 have f2 : Fit ((adR j n ^ j : Nat) : Int) := afA h1 (by simp only [zM]; exact s1)
 unfold aBT
 refine uC (aa3 (adR j n), 0, ()) ?_ (uF rfl ?_)
 ·unfold aqV
  dsimp only
  rw [akA h1]
  dsimp only
  rw [if_neg zc, zp, zM, aiU f1, aeA]
 refine uC (aa3 (adR j n ^ j), 0, ()) ?_ (uF rfl ?_)
 ·unfold amF
  dsimp only
  rw [akA f1]
  dsimp only
  rw [if_neg zc, zp, ← we, aiU f2, aeA]
 ·rw [aaK]
  have : (aa3 (adR j n ^ j) == aa3 n) = decide (adR j n ^ j = n) := by
   by_cases c : adR j n ^ j = n
   ·rw [c, zo rfl]; simp
   ·rw [zn c, beq_eq_false_iff_ne]
    exact fun h => c (aiJ h)
  rw [this]
theorem agC {n : Nat} {u : Bool} (h1 : Fit (n : Int)) : acL (aa3 n, u, ()) = some (if n > 1000000000000000000 then (0, 6, ()) else ((n : Int) + (if u then 1 else 0), 0, ())) := by
 refine aaI (enc := fun x : Nat × Bool => (aa3 x.1, x.2, ())) (n, u) h1 (fun b hb => ?_)
 obtain ⟨e1, e2⟩ := Prod.mk.inj hb
 obtain ⟨e2, -⟩ := Prod.mk.inj e2
 exact Prod.ext (aiJ e1) e2
theorem aBU (a : List UInt8) (u : Bool) (y) (h : acL (a, u, ()) = some y) : (aoG a u).toO = some y := by
 obtain ⟨⟨n, v⟩, hp, hx, rfl⟩ := aaD h
 obtain ⟨rfl, hx2⟩ := Prod.mk.inj hx; obtain ⟨rfl, -⟩ := Prod.mk.inj hx2; dsimp only
 simp only at hp
 unfold aoG
 have hi : ak2 (aa3 n, ()) = some (if aa8 n then ((n : Int), 0, ()) else (0, 6, ())) := by rw [← aeA]; exact ayW hp
 by_cases c : aa8 n
 ·rw [if_pos c] at hi
  unfold aa8 at c
  refine uC _ hi (uF rfl ?_)
  by_cases c2 : n > 1000000000000000000
  ·rw [if_pos c2]
   exact uT (zo zl) rfl
  ·rw [if_neg c2]
   refine uF (zn zl) ?_
   cases u
   ·exact uF rfl (by simp [aaK])
   ·refine uT rfl ?_
    rw [aaK, aaA zl]; rfl
 ·rw [if_neg c] at hi
  unfold aa8 at c
  rw [if_pos zc]
  exact uC _ hi (uT rfl rfl)
theorem aDN (e : Int × Int × Unit) (y) (h : as8 (e, ()) = some y) : (ar2 e).toO = some y := by
 injection h with h
 subst h
 unfold ar2
 by_cases h1 : e.1 ≥ 1
 ·refine uT (zo h1) ?_
  by_cases h2 : e.1 ≤ 36
  ·refine uT (zo h2) ?_
   by_cases h3 : e.2.1 ≥ 1
   ·refine uT (zo h3) ?_
    rw [aaK]
    congr 2
    exact decide_eq_decide.2 ⟨fun h => ⟨h1, h2, h3, h⟩, fun h => h.2.2.2⟩
   ·refine uF (zn h3) ?_
    rw [aaK, zn (fun h : okE e.1 e.2.1 => h3 h.2.2.1)]
  ·refine uF (zn h2) ?_
   rw [aaK, zn (fun h : okE e.1 e.2.1 => h2 h.2.1)]
 ·refine uF (zn h1) ?_
  rw [aaK, zn (fun h : okE e.1 e.2.1 => h1 h.1)]
theorem aRh (p q n : Nat) : (p ≤ q → n ^ p * 10 ^ (12 * q) / 10 ^ (12 * p) = n ^ p * 10 ^ (12 * (q - p)) ∧ n ^ p * 10 ^ (12 * q) = n ^ p * 10 ^ (12 * (q - p)) * 10 ^ (12 * p)) ∧ (q < p → n ^ p * 10 ^ (12 * q) / 10 ^ (12 * p) = n ^ p / 10 ^ (12 * (p - q)) ∧ (10 : Nat) ^ (12 * p) = 10 ^ (12 * (p - q)) * 10 ^ (12 * q)) := by
 constructor
 ·intro h
  have e : (10 : Nat) ^ (12 * q) = 10 ^ (12 * (q - p)) * 10 ^ (12 * p) := by rw [← xv]; congr 1; omega
  have h2 : n ^ p * 10 ^ (12 * q) = n ^ p * 10 ^ (12 * (q - p)) * 10 ^ (12 * p) := by rw [e, wE]
  exact ⟨by rw [h2, wI _ (yS zc)], h2⟩
 ·intro h
  have e : (10 : Nat) ^ (12 * p) = 10 ^ (12 * (p - q)) * 10 ^ (12 * q) := by rw [← xv]; congr 1; omega
  refine ⟨?_, e⟩
  rw [e, ← vC, vC, yH (10 ^ (12 * (p - q))), ← vC, wI _ (yS zc)]
theorem am7 {n k : Nat} (h : n < 10 ^ k) (hk : k ≤ 600) : Fit (n : Int) := by
 show (aa3 n).length ≤ 600
 have h2 : (aa3 n).length ≤ k + 1 := acK (yf h (zU zc zc))
 rcases zE k with h0 | h0
 ·omega
 ·have := (abF h0).2 h
  omega
theorem aQT {n K : Nat} (hK : K = 600) (h : ¬ Fit (n : Int)) : 10 ^ K ≤ n := by
 rcases zr n (10 ^ K) with h2 | h2
 ·exact absurd (am7 h2 zc) h
 ·exact h2
theorem aRi {p q n : Nat} (hq : 1 ≤ q) (hq2 : q ≤ 12) (hp2 : p ≤ 36) (h : ¬ Fit ((n ^ p : Nat) : Int)) : afO p q n > 1000000000000000000 := by
 obtain ⟨K, hK⟩ : ∃ K : Nat, K = 600 := ⟨_, rfl⟩
 have h1 := aQT hK h
 unfold afO
 obtain ⟨s1, s2⟩ := ajH (n ^ p * 10 ^ (12 * q) / 10 ^ (12 * p)) hq
 generalize adR q (n ^ p * 10 ^ (12 * q) / 10 ^ (12 * p)) = v at *
 rcases zr 1000000000000000000 v with h2 | h2
 ·exact h2
 ·exfalso
  rw [yF (yS zc)] at s2
  have h3 : (v + 1) ^ q ≤ (10 ^ 19) ^ q := yw zc q
  have h4 : (10 ^ 19 : Nat) ^ q * 10 ^ (12 * p) ≤ 10 ^ K * 10 ^ (12 * q) := by
   rw [← xi, ← xv, ← xv]
   exact zU zc zc
  have h5 : (v + 1) ^ q * 10 ^ (12 * p) ≤ (10 ^ 19) ^ q * 10 ^ (12 * p) := zJ _ h3
  have h6 : 10 ^ K * 10 ^ (12 * q) ≤ n ^ p * 10 ^ (12 * q) := zJ _ h1
  generalize (v + 1) ^ q * 10 ^ (12 * p) = a1 at *
  generalize (10 ^ 19 : Nat) ^ q * 10 ^ (12 * p) = a2 at *
  generalize 10 ^ K * 10 ^ (12 * q) = a3 at *
  omega
theorem aCu (n : Nat) : (aa3 n == #[48].toList) = decide (n = 0) := by
 by_cases c : n = 0
 ·subst c; rw [abI zc]; rfl
 ·rw [zn c, beq_eq_false_iff_ne]
  intro h
  have h0 : aa3 0 = #[48].toList := by rw [abI zc]; rfl
  exact c (aiJ (h.trans h0.symm))
theorem aIq {p q n : Nat} {u : Bool} (h : okE p q) (hn : n ≤ 1000000000000000000) : aq0 ((((p : Int), (q : Int), ()), ()), (n : Int), u, ()) = some (alA p q n u) := by
 refine aaI (enc := fun x : (Nat × Nat) × Nat × Bool => ((((x.1.1 : Int), (x.1.2 : Int), ()), ()), (x.2.1 : Int), x.2.2, ())) ((p, q), n, u) ⟨h, hn⟩ (fun b hb => ?_)
 obtain ⟨⟨b1, b2⟩, b3, b4⟩ := b
 simp only [Prod.mk.injEq, Int.ofNat.injEq, Int.natCast_inj, and_true] at hb
 obtain ⟨⟨h1, h2⟩, h3, h4⟩ := hb
 rw [h1, h2, h3, h4]
theorem aJb (e : (Int × Int × Unit) × Unit) (n : Int) (u : Bool) (y) (h : aq0 (e, n, u, ()) = some y) : (aBM e n u).toO = some y := by
 obtain ⟨⟨⟨p, q⟩, m, b⟩, hp, hx, rfl⟩ := aaD h
 obtain ⟨rfl, hx2⟩ := Prod.mk.inj hx
 obtain ⟨rfl, hx3⟩ := Prod.mk.inj hx2
 obtain ⟨rfl, -⟩ := Prod.mk.inj hx3
 obtain ⟨⟨p1, p2, q1, q2⟩, hm⟩ := hp
 dsimp only at p1 p2 q1 q2 hm ⊢
 have fm : Fit (m : Int) := abJ ⟨by omega, by omega⟩
 unfold aBM
 dsimp only
 refine uC (aa3 m, ()) (by rw [aN5 ⟨by omega, by omega⟩, aeA]) ?_
 have hpow : amF (aa3 m, (p : Int), ()) = some (wrW ((m ^ p : Nat) : Int)) := by
  unfold amF
  dsimp only
  rw [akA fm]
  dsimp only
  rw [if_neg zc, zp, ← we]
 obtain ⟨r1, r2⟩ := aRh p q m
 by_cases hf : Fit ((m ^ p : Nat) : Int)
 ·rw [aiU hf, aeA] at hpow
  refine uC _ hpow (uF rfl ?_)
  by_cases hpq : p ≤ q
  ·obtain ⟨e1, e2⟩ := r1 hpq
   refine uT sd ?_
   have ew : w64 (12 * w64 ((q : Int) - p)) = ((12 * (q - p) : Nat) : Int) := by rw [aaA (x := (q : Int) - p) zc, aaA zc]; omega
   refine uC (aa3 (10 ^ (12 * (q - p))), ()) (by rw [ew]; exact ay0 zc) ?_
   obtain ⟨K, hK⟩ : ∃ K : Nat, K = 400 := ⟨_, rfl⟩
   have hlt : m ^ p * 10 ^ (12 * (q - p)) < 10 ^ K := by
    have a1 : m ^ p ≤ (10 ^ 18) ^ p := yw zc p
    have a2 : (10 ^ 18 : Nat) ^ p * 10 ^ (12 * (q - p)) < 10 ^ K := by
     rw [← xi, ← xv]
     exact wu zc zc
    exact Nat.lt_of_le_of_lt (zJ _ a1) a2
   have hfm : Fit ((m ^ p * 10 ^ (12 * (q - p)) : Nat) : Int) := am7 hlt zc
   have hft : Fit ((10 ^ (12 * (q - p)) : Nat) : Int) := am7 (k := K) (wu zc zc) zc
   have hmul : as5 (aa3 (m ^ p), aa3 (10 ^ (12 * (q - p))), ()) = some (aa3 (m ^ p * 10 ^ (12 * (q - p))), 0, ()) := by
    unfold as5
    dsimp only
    rw [akA hf, akA hft]
    dsimp only
    rw [← yq, aiU hfm, aeA]
   refine uC _ hmul (uF rfl ?_)
   refine uC _ (aIr hfm zc zc) (uF rfl ?_)
   have hv : adR q (m ^ p * 10 ^ (12 * (q - p))) = afO p q m := by unfold afO; rw [e1]
   have hfv : Fit (afO p q m : Int) := by rw [← hv]; exact afA hfm zk
   have hex : decide (adR q (m ^ p * 10 ^ (12 * (q - p))) ^ q = m ^ p * 10 ^ (12 * (q - p))) = decide (afO p q m ^ q * 10 ^ (12 * p) = m ^ p * 10 ^ (12 * q)) := by
    rw [hv, e2]
    exact decide_eq_decide.2 ⟨fun h => by rw [h], fun h => Nat.eq_of_mul_eq_mul_right (yS zc) h⟩
   unfold alA
   rw [hex, hv]
   dsimp only
   cases u
   ·refine uF rfl (uC _ (agC hfv) ?_)
    simp only [yo, false_and, if_false]
    rfl
   ·refine uT rfl ?_
    by_cases c : afO p q m ^ q * 10 ^ (12 * p) = m ^ p * 10 ^ (12 * q)
    ·refine uT (zo c) (uC _ (show acL (aa3 (afO p q m), (!#[48].toList == #[48].toList), ()) = some _ from agC (u := false) hfv) ?_)
     simp only [yo, if_false, c, ne_eq, not_true_eq_false, and_false]
     rfl
    ·refine uF (zn c) (uC _ (agC (u := !false) hfv) ?_)
     simp only [wM, if_true, c, ne_eq, not_false_eq_true, and_self]
     rfl
  ·obtain ⟨e1, e2⟩ := r2 zc
   refine uF sd ?_
   have ew : w64 (12 * w64 ((p : Int) - q)) = ((12 * (p - q) : Nat) : Int) := by rw [aaA (x := (p : Int) - q) zc, aaA zc]; omega
   refine uC (aa3 (10 ^ (12 * (p - q))), ()) (by rw [ew]; exact ay0 zc) ?_
   obtain ⟨K, hK⟩ : ∃ K : Nat, K = 600 := ⟨_, rfl⟩
   have hft : Fit ((10 ^ (12 * (p - q)) : Nat) : Int) := am7 (k := K) (wu zc zc) zc
   have hD : 0 < 10 ^ (12 * (p - q)) := yS zc
   have hdiv : as6 (aa3 (m ^ p), aa3 (10 ^ (12 * (p - q))), ()) = some (aa3 (m ^ p / 10 ^ (12 * (p - q))), aa3 (m ^ p % 10 ^ (12 * (p - q))), 0, ()) := by
    unfold as6
    dsimp only
    rw [akA hf, akA hft]
    dsimp only
    rw [if_neg zc, ← Int.natCast_ediv, ← Int.natCast_emod, aeA, aeA]
   refine uC _ hdiv (uF rfl ?_)
   have hfm : Fit ((m ^ p / 10 ^ (12 * (p - q)) : Nat) : Int) := afA hf (by simp only [zM]; exact xo _ _)
   refine uC _ (aIr hfm zc zc) (uF rfl ?_)
   have hv : adR q (m ^ p / 10 ^ (12 * (p - q))) = afO p q m := by unfold afO; rw [e1]
   have hfv : Fit (afO p q m : Int) := by rw [← hv]; exact afA hfm zk
   have hex : (afO p q m ^ q = m ^ p / 10 ^ (12 * (p - q)) ∧ m ^ p % 10 ^ (12 * (p - q)) = 0) ↔ afO p q m ^ q * 10 ^ (12 * p) = m ^ p * 10 ^ (12 * q) := by
    rw [e2, ← wE]
    have hdm := xY (m ^ p) (10 ^ (12 * (p - q)))
    constructor
    ·rintro ⟨h1, h2⟩
     rw [h1]
     rw [h2, zw, yH] at hdm
     rw [hdm]
    ·intro h
     have h3 := Nat.eq_of_mul_eq_mul_right (yS zc) h
     constructor
     ·rw [← h3, wI _ hD]
     ·rw [← h3, Nat.mul_mod_left]
   unfold alA
   rw [hv]
   dsimp only
   cases u
   ·refine uF rfl (uC _ (agC hfv) ?_)
    simp only [yo, false_and, if_false]
    rfl
   ·refine uT rfl ?_
    by_cases c1 : afO p q m ^ q = m ^ p / 10 ^ (12 * (p - q))
    ·refine uT (zo c1) ?_
     rw [aCu]
     refine uC _ (agC hfv) ?_
     by_cases c2 : m ^ p % 10 ^ (12 * (p - q)) = 0
     ·have c := hex.1 ⟨c1, c2⟩
      simp only [zo c2, Bool.not_true, yo, if_false, c, ne_eq, not_true_eq_false, and_false]
      rfl
     ·have c : ¬ _ := fun h => c2 (hex.2 h).2
      simp only [zn c2, wM, if_true, c, ne_eq, not_false_eq_true, and_self]
      rfl
    ·refine uF (zn c1) (uC _ (agC (u := !false) hfv) ?_)
     have c : ¬ _ := fun h => c1 (hex.2 h).1
     simp only [wM, if_true, c, ne_eq, not_false_eq_true, and_self]
     rfl
 ·rw [arI hf] at hpow
  refine uC _ hpow (uT rfl ?_)
  have := aRi (q := q) (n := m) zc zc zc hf
  unfold alA
  rw [if_pos this]
  rfl
theorem aAM (p q n : Nat) (u : Bool) : (alA p q n u).2.1 = 0 ∨ (alA p q n u).2.1 = 6 := by
 unfold alA
 split
 ·right; rfl
 ·left; rfl
theorem aF3 (b : BdT) (p q : Int) (y) (h : ayQ (b, p, q, ()) = some y) : (awE b p q).toO = some y := by
 injection h with h
 unfold auM at h
 dsimp only at h
 unfold awE
 refine uC (if okB b.1 b.2.1 then 0 else 30, ()) rfl ?_
 by_cases c : okB b.1 b.2.1
 ·rw [if_pos c] at h ⊢
  refine uF rfl ?_
  refine uC (decide (okE p q), ()) rfl ?_
  by_cases c2 : okE p q
  ·refine uF (by rw [zo c2]; rfl) ?_
   by_cases c3 : b.1 < 0
   ·rw [if_neg (fun h => by have := h.2; omega)] at h
    exact uT (zo c3) (by rw [← h]; rfl)
   ·rw [if_pos ⟨c2, by omega⟩] at h
    obtain ⟨k1, k2, k3⟩ := c
    refine uF (zn c3) (uV (uV ?_))
    obtain ⟨P, rfl⟩ := zv (show 0 ≤ p by have := c2.1; omega)
    obtain ⟨Q, rfl⟩ := zv (show 0 ≤ q by have := c2.2.2.1; omega)
    obtain ⟨lo, hlo⟩ := zv (show 0 ≤ b.1 by omega)
    obtain ⟨hi, hhi⟩ := zv (show 0 ≤ b.2.1 by omega)
    rw [hlo, hhi] at h ⊢
    simp only [zp] at h
    refine uC _ (aIq c2 zc) ?_
    by_cases d1 : (alA P Q lo false).2.1 ≠ 0
    ·rw [if_pos d1] at h
     refine uT (by simpa using d1) ?_
     have : (alA P Q lo false).2.1 = 6 := by rcases aAM P Q lo false with e | e <;> omega
     rw [this, ← h]; rfl
    ·rw [if_neg d1] at h
     refine uF (by simpa using d1) ?_
     refine uC _ (aIq c2 zc) ?_
     by_cases d2 : (alA P Q hi true).2.1 ≠ 0
     ·rw [if_pos d2] at h
      refine uT (by simpa using d2) ?_
      have : (alA P Q hi true).2.1 = 6 := by rcases aAM P Q hi true with e | e <;> omega
      rw [this, ← h]; rfl
     ·rw [if_neg d2] at h
      refine uF (by simpa using d2) ?_
      unfold mkB at h
      refine uC (mkB 30 (alA P Q lo false).1 (alA P Q hi true).1) rfl ?_
      unfold mkB
      by_cases d3 : okB (alA P Q lo false).1 (alA P Q hi true).1
      ·rw [if_pos d3] at h ⊢
       exact uF rfl (by rw [← h]; rfl)
      ·rw [if_neg d3] at h ⊢
       exact uT rfl (by rw [← h]; rfl)
  ·rw [if_neg (fun h => c2 h.1)] at h
   exact uT (by rw [zn c2]; rfl) (by rw [← h]; rfl)
 ·rw [if_neg c] at h ⊢
  exact uT rfl (by rw [← h]; rfl)
set_option maxRecDepth 100000
open Go Go.Vg Go.Proofs
noncomputable section
def aKc : LTab := []
def asX (n : Int) (low : Int) (high : Int) : TT uI :=
 .ite (decide (low ≤ n))
 (.ok ((decide (n ≤ high), ())))
 (.ok ((false, ())))
def aPS : LTab := []
def aIg (n : Int) (d : Int) : TT (ul × Unit) :=
 .call (amI (n, d, ())) afR fun y =>
 .ok (((y.1.1, y.1.2.1, ()), ()))
def aG3 : LTab := []
def axZ (n : Int) : TT (ul × Unit) :=
 .call (ab0 (n, 1, ())) ae4 fun y =>
 .ok (((y.1.1, y.1.2.1, ()), ()))
def aCG : LTab := []
def akV (x : List UInt8 × List UInt8 × Unit) : TT (ul × Unit) :=
 .call (aaF (0, ())) ae4 fun y =>
 .call (aaF (1, ())) ae4 fun y1 =>
 .tt <| .tt <| .tt <| .tt <| .call (ah4 ((x.1, x.2.1, ()), (y.1.1, y.1.2.1, ()), ())) aFj fun y2 =>
 .ite (decide (y2.1 < 0))
 (.ok (((y.1.1, y.1.2.1, ()), ())))
 (.tt <| .tt <| .call (ah4 ((x.1, x.2.1, ()), (y1.1.1, y1.1.2.1, ()), ())) aFj fun y3 =>
 .ite (decide (y3.1 > 0))
 (.ok (((y1.1.1, y1.1.2.1, ()), ())))
 (.ok (((x.1, x.2.1, ()), ()))))
def azR : LTab := [(76, 3, 1024, ⟨0, (Bool) × Unit, .dat (.s 2) tU <| .nil, [0], [], 0⟩), (76, 58, 4096, ⟨1, (Int) × Unit, .dat (.s 15) uk <| .nil, [14, 13], [], 0⟩)]
def al8 (alD : List Int) (j : Bool × Unit) (i : (Int) × Unit) : TT sh :=
 .ite (decide (i.1 < len alD))
 (.need (inb i.1 (len alD)) <| .call (acZ (gi alD i.1 0, 0, 65535, ())) Dd1 fun y =>
 .ite (!y.1)
 (.ok (.inr ((false, ()))))
 (.tt <| .lt (w64 (i.1 + 1) : Int) fun z => .vT (vW z (len alD) alD) <| .tr <| .ok (.inl ((z, ())))))
 (.ok (.inr ((true, ()))))
def ax1 (alD : List Int) (j : (Bool) × Unit) : TT uI :=
 .loop 1 (.tt <| .vT (vW (0 : Int) (len alD) alD) <| .tr <| .ok ((0, ()))) (al8 alD j)
def ai3 (alD : List Int) : TT uI :=
 .join 0 (ι := (Bool) × Unit) (.ite (decide (len alD < 2))
 (.ok (.inr ((false, ()))))
 (.ite (decide (len alD > 17))
 (.ok (.inr ((false, ()))))
 (.tt <| .vT (uf false alD) <| .tr <| .ok (.inl ((false, ())))))) (ax1 alD)
def aJ6 : LTab := [(129, 26, 13312, ⟨0, (Int) × Unit, .dat (.s 17) uk <| .nil, [16, 1], [0], 0⟩), (129, 7, 14336, ⟨1, Unit, .nil, [1], [0], 0⟩), (129, 124, 22528, ⟨2, (Int) × (Int) × Unit, .dat (.s 6) uk <| .dat (.s 5) uk <| .nil, [], [0], 0⟩)]
def axL (p : uj × Int × Bool × Unit) (i : Int × Unit) (j : Unit) (i1 : (Int) × (Int) × Unit) : TT (uG ⊕ sh) :=
 .ite (i1.1 != 0)
 (.need (i1.1 ≠ 0) <| .tt <| .lt (Int.tmod i1.2.1 i1.1 : Int) fun z3 => .vT (uf i1.1 z3) <| .vT (vS (ud 122 p.1.1 p.1.2.1 p.1.2.2.1 p.1.2.2.2.1 p.1.2.2.2.2.1 p.1.2.2.2.2.2.1 p.2.1 <| uc p.2.2.1) True) <| .ok (.inl ((z3, i1.1, ()))))
 (.ok (.inr (.inr ((i1.2.1 == 1, ())))))
def aGX (p : uj × Int × Bool × Unit) (i : Int × Unit) (j : Unit) : TT sh :=
 .loop 2 (.tt <| .lt (p.1.2.2.2.2.1 : Int) fun z1 => .lt (p.1.2.2.2.1 : Int) fun z2 => .vT (uf z2 z1) <| .vT (vS (ud 122 p.1.1 p.1.2.1 p.1.2.2.1 z2 z1 p.1.2.2.2.2.2.1 p.2.1 <| uc p.2.2.1) True) <| .ok ((z1, z2, ()))) (axL p i j)
def afW (p : uj × Int × Bool × Unit) (i : (Int) × Unit) : TT sh :=
 .ite (decide (i.1 < 3))
 (.need (inb i.1 (↑3 : Int)) <| .call (acZ (gi [p.1.2.1, p.1.2.2.1, p.1.2.2.2.2.2.1] i.1 0, -100000000, 100000000, ())) Dd1 fun y =>
 .ite (!y.1)
 (.ok (.inr ((false, ()))))
 (.tt <| .lt (w64 (i.1 + 1) : Int) fun z => .vT (ua z ([p.1.2.1, p.1.2.2.1, p.1.2.2.2.2.2.1] : List Int) <| uq ∧ True) <| .vT (vS (ud 122 p.1.1 p.1.2.1 p.1.2.2.1 p.1.2.2.2.1 p.1.2.2.2.2.1 p.1.2.2.2.2.2.1 p.2.1 <| uc p.2.2.1) True) <| .ok (.inl ((z, ())))))
 (.join 1 (ι := Unit) (.call (acZ (p.1.1, w64 (p.2.1 + 1), 1000000, ())) Dd1 fun y1 =>
 .ite (!y1.1)
 (.ok (.inr (.inr ((false, ())))))
 (.call (acZ (p.1.2.2.2.1, 1, 36, ())) Dd1 fun y2 =>
 .ite (!y2.1)
 (.ok (.inr (.inr ((false, ())))))
 (.call (acZ (p.1.2.2.2.2.1, 1, 12, ())) Dd1 fun y3 =>
 .ite (!y3.1)
 (.ok (.inr (.inr ((false, ())))))
 (.tt <| .vT (uq ∧ True) <| .vT (vS (ud 122 p.1.1 p.1.2.1 p.1.2.2.1 p.1.2.2.2.1 p.1.2.2.2.2.1 p.1.2.2.2.2.2.1 p.2.1 <| uc p.2.2.1) True) <| .ok (.inl (())))))) (aGX p i))
def asQ (p : uj × Int × Bool × Unit) : TT uI :=
 .loop 0 (.tt <| .vT (ua (0 : Int) ([p.1.2.1, p.1.2.2.1, p.1.2.2.2.2.2.1] : List Int) <| uq ∧ True) <| .vT (vS (ud 122 p.1.1 p.1.2.1 p.1.2.2.1 p.1.2.2.2.1 p.1.2.2.2.2.1 p.1.2.2.2.2.2.1 p.2.1 <| uc p.2.2.1) True) <| .ok ((0, ()))) (afW p)
def asY : LTab := [(77, 6, 2048, ⟨0, (Bool) × Unit, .dat (.s 2) tU <| .nil, [1], [0], 0⟩), (128, 14, 14336, ⟨1, (Int) × (Int) × Unit, .dat (.s 9) uk <| .dat (.s 3) uk <| .nil, [8, 7, 0], [8, 4, 2, 0], 0⟩)]
def aiK (c : Int × List Int × List uj × Unit) (j : Bool × Unit) (i : (Int) × (Int) × Unit) : TT (uG ⊕ uI) :=
 .ite (decide (i.1 < len c.2.2.1))
 (.need (inb i.1 (len c.2.2.1)) <| .call (af6 ((((gi c.2.2.1 i.1 (0, 0, 0, 0, 0, 0, ())).1, (gi c.2.2.1 i.1 (0, 0, 0, 0, 0, 0, ())).2.1, (gi c.2.2.1 i.1 (0, 0, 0, 0, 0, 0, ())).2.2.1, (gi c.2.2.1 i.1 (0, 0, 0, 0, 0, 0, ())).2.2.2.1, (gi c.2.2.1 i.1 (0, 0, 0, 0, 0, 0, ())).2.2.2.2.1, (gi c.2.2.1 i.1 (0, 0, 0, 0, 0, 0, ())).2.2.2.2.2.1, ()), i.2.1, i.1 == 0, ()), ())) Dd1 fun y =>
 .ite (!y.1)
 (.ok (.inr ((false, ()))))
 (.tt <| .lt (w64 (i.1 + 1) : Int) fun z => .lt ((gi c.2.2.1 i.1 (0, 0, 0, 0, 0, 0, ())).1 : Int) fun z1 => .vT (ub z1 z (len c.2.2.1) c.2.2.1 <| (vX 8 true) ∧ True) <| .vT (vS (ui (LoopState.ready : LoopState) (none : Option Code) 34 (#[17] : Array Tmp) (alE (acN Tryz.f77) [1, 0, 1, 1, 1, 0, 1, 0, 0]) (alE (acN Tryz.f77) [1, 0, 1, 1, 1, 0, 1, 0, 1]) <| (vU (128 : FuncId) <| True ∧ tb ∧ True) ∧ (vU ((c.1, c.2.1, c.2.2.1, ()) : Int × List Int × List uj × Unit) <| uQ ∧ (vU j.1 <| uq ∧ True))) <| vS (vV 42 c.1 c.2.1 c.2.2.1) <| vS (uf 4 true) <| vS (vV 42 c.1 c.2.1 c.2.2.1) True) <| .ok (.inl ((z, z1, ())))))
 (.need (inb (w64 (len c.2.2.1 - 1)) (len c.2.2.1)) <| .ok (.inr (((gi c.2.2.1 (w64 (len c.2.2.1 - 1)) (0, 0, 0, 0, 0, 0, ())).1 == 1000000, ()))))
def aqO (c : Int × List Int × List uj × Unit) (j : (Bool) × Unit) : TT uI :=
 .tt <| .tt <| .tt <| .tt <| .loop 1 (.tt <| .vT (ub (0 : Int) (0 : Int) (len c.2.2.1) c.2.2.1 <| (vX 8 true) ∧ True) <| .vT (vS (ui (LoopState.ready : LoopState) (none : Option Code) 34 (#[17] : Array Tmp) (alE (acN Tryz.f77) [1, 0, 1, 1, 1, 0, 1, 0, 0]) (alE (acN Tryz.f77) [1, 0, 1, 1, 1, 0, 1, 0, 1]) <| (vU (128 : FuncId) <| True ∧ tb ∧ True) ∧ (vU ((c.1, c.2.1, c.2.2.1, ()) : Int × List Int × List uj × Unit) <| uQ ∧ (vU j.1 <| uq ∧ True))) <| vS (vV 42 c.1 c.2.1 c.2.2.1) <| vS (uf 4 true) <| vS (vV 42 c.1 c.2.1 c.2.2.1) True) <| .ok ((0, 0, ()))) (aiK c j)
def afX (c : Int × List Int × List uj × Unit) : TT uI :=
 .join 0 (ι := (Bool) × Unit) (.ite (decide (len c.2.2.1 < 1))
 (.ok (.inr ((false, ()))))
 (.ite (decide (len c.2.2.1 > 4))
 (.ok (.inr ((false, ()))))
 (.tt <| .vT (vU false <| uq ∧ True) <| .vT (vS (vV 42 c.1 c.2.1 c.2.2.1) True) <| .ok (.inl ((false, ())))))) (aqO c)
def aNB : LTab := []
def ax5 (c : Int × List Int × List uj × Unit) : TT uK :=
 .ite (c.1 == 1)
 (.ite (len c.2.1 == 0)
 (.ite (!len c.2.2.1 == 0)
 (.ok ((90, ())))
 (.ok ((0, ()))))
 (.ok ((90, ()))))
 (.ite (c.1 == 2)
 (.call (ai4 (c.2.1, ())) Dd1 fun y =>
 .ite (y.1)
 (.ite (!len c.2.2.1 == 0)
 (.ok ((90, ())))
 (.ok ((0, ()))))
 (.ok ((90, ()))))
 (.ite (c.1 == 3)
 (.ite (len c.2.1 == 0)
 (.call (af9 ((c.1, c.2.1, c.2.2.1, ()), ())) Dd1 fun y1 =>
 .ite (!y1.1)
 (.ok ((90, ())))
 (.ok ((0, ()))))
 (.ok ((90, ()))))
 (.ok ((90, ())))))
def aNA : LTab := [(128, 14, 16384, ⟨0, (Int) × (Int) × Unit, .dat (.s 9) uk <| .dat (.s 3) uk <| .nil, [8, 7, 0], [10, 6, 1, 0], 0⟩)]
def aAX (c : Int × List Int × List uj × Unit) (y : Int × Unit) (i : (Int) × (Int) × Unit) : TT (uG ⊕ uI) :=
 .ite (decide (i.1 < len c.2.2.1))
 (.need (inb i.1 (len c.2.2.1)) <| .ite ((gi c.2.2.1 i.1 (0, 0, 0, 0, 0, 0, ())).2.2.2.2.1 != 1)
 (.ok (.inr ((false, ()))))
 (.tt <| .lt (w64 (i.1 + 1) : Int) fun z => .lt ((gi c.2.2.1 i.1 (0, 0, 0, 0, 0, 0, ())).1 : Int) fun z1 => .vT (ub z1 z (len c.2.2.1) c.2.2.1 <| (vX 10 true) ∧ True) <| .vT (vS (ui (LoopState.ready : LoopState) (none : Option Code) 14 (#[9] : Array Tmp) (alE (acN Tryz.f24) [1, 1, 0, 1, 0, 0]) (alE (acN Tryz.f24) [1, 1, 0, 1, 0, 1]) <| (vU (128 : FuncId) <| True ∧ (uh 6 0 true) ∧ True) ∧ (ub ((c.1, c.2.1, c.2.2.1, ()) : Int × List Int × List uj × Unit) (y.1 != 0) y.1 ((c.1, c.2.1, c.2.2.1, ()) : Int × List Int × List uj × Unit) <| uy ∧ uq ∧ uc c)) <| vS (vV 42 c.1 c.2.1 c.2.2.1) <| vS (uf 4 false) <| vS (vV 42 c.1 c.2.1 c.2.2.1) True) <| .ok (.inl ((z, z1, ())))))
 (.ok (.inr ((true, ()))))
def ax4 (c : Int × List Int × List uj × Unit) : TT uI :=
 .call (afM ((c.1, c.2.1, c.2.2.1, ()), ())) Dd6 fun y =>
 .ite (y.1 != 0)
 (.ok ((false, ())))
 (.tt <| .tt <| .tt <| .tt <| .loop 0 (.tt <| .vT (ub (0 : Int) (0 : Int) (len c.2.2.1) c.2.2.1 <| (vX 10 true) ∧ True) <| .vT (vS (ui (LoopState.ready : LoopState) (none : Option Code) 14 (#[9] : Array Tmp) (alE (acN Tryz.f24) [1, 1, 0, 1, 0, 0]) (alE (acN Tryz.f24) [1, 1, 0, 1, 0, 1]) <| (vU (128 : FuncId) <| True ∧ (uh 6 0 true) ∧ True) ∧ (ub ((c.1, c.2.1, c.2.2.1, ()) : Int × List Int × List uj × Unit) (y.1 != 0) y.1 ((c.1, c.2.1, c.2.2.1, ()) : Int × List Int × List uj × Unit) <| uy ∧ uq ∧ uc c)) <| vS (vV 42 c.1 c.2.1 c.2.2.1) <| vS (uf 4 false) <| vS (vV 42 c.1 c.2.1 c.2.2.1) True) <| .ok ((0, 0, ()))) (aAX c y))
def aNz : LTab := [(25, 122, 11264, ⟨0, (Int) × (Bool) × (Bool) × Unit, .dat (.s 7) uk <| .dat (.s 6) tU <| .dat (.s 5) tU <| .nil, [3, 2, 1], [0], 0⟩)]
def aAW (c : Int × List Int × List uj × Unit) (y : Int × Unit) (i : (Int) × (Bool) × (Bool) × Unit) : TT (((Int) × (Bool) × (Bool) × Unit) ⊕ uo) :=
 .ite (decide (i.1 < len c.2.1))
 (.ite (i.2.2.1)
 (.ite (i.2.1)
 (.tt <| .lt (w64 (i.1 + 1) : Int) fun z => .vT (vZ true true z (0 : Int) (0 : Int) <| uq ∧ True) <| .vT (vS (vV 42 c.1 c.2.1 c.2.2.1) True) <| .ok (.inl ((z, true, true, ()))))
 (.need (inb i.1 (len c.2.1)) <| .need (inb (w64 (i.1 - 1)) (len c.2.1)) <| .tt <| .lt (w64 (i.1 + 1) : Int) fun z1 => .lt (decide (gi c.2.1 i.1 0 < gi c.2.1 (w64 (i.1 - 1)) 0) : Bool) fun z2 => .vT (vZ true z2 z1 (0 : Int) (0 : Int) <| uq ∧ True) <| .vT (vS (vV 42 c.1 c.2.1 c.2.2.1) True) <| .ok (.inl ((z1, z2, true, ())))))
 (.need (inb i.1 (len c.2.1)) <| .need (inb (w64 (i.1 - 1)) (len c.2.1)) <| .ite (i.2.1)
 (.tt <| .lt (w64 (i.1 + 1) : Int) fun z3 => .lt (decide (gi c.2.1 i.1 0 > gi c.2.1 (w64 (i.1 - 1)) 0) : Bool) fun z4 => .vT (vZ z4 true z3 (0 : Int) (0 : Int) <| uq ∧ True) <| .vT (vS (vV 42 c.1 c.2.1 c.2.2.1) True) <| .ok (.inl ((z3, true, z4, ()))))
 (.need (inb i.1 (len c.2.1)) <| .need (inb (w64 (i.1 - 1)) (len c.2.1)) <| .tt <| .lt (w64 (i.1 + 1) : Int) fun z5 => .lt (decide (gi c.2.1 i.1 0 < gi c.2.1 (w64 (i.1 - 1)) 0) : Bool) fun z6 => .lt (decide (gi c.2.1 i.1 0 > gi c.2.1 (w64 (i.1 - 1)) 0) : Bool) fun z7 => .vT (vZ z7 z6 z5 (0 : Int) (0 : Int) <| uq ∧ True) <| .vT (vS (vV 42 c.1 c.2.1 c.2.2.1) True) <| .ok (.inl ((z5, z6, z7, ()))))))
 (.ite (c.1 == 3)
 (.need (asT Int 0 ≤ 0 ∧ 0 < len c.2.2.1) <| .ite (decide ((gi c.2.2.1 0 (0, 0, 0, 0, 0, 0, ())).2.1 < 0))
 (.ite (!decide (len c.2.2.1 > 1))
 (.ok (.inr ((-1, 0, ()))))
 (.ok (.inr ((0, 0, ())))))
 (.ite (!decide (len c.2.2.1 > 1))
 (.ok (.inr ((1, 0, ()))))
 (.ite (!decide (len c.2.2.1 > 1))
 (.ok (.inr ((-1, 0, ()))))
 (.ok (.inr ((0, 0, ())))))))
 (.ite (!i.2.1)
 (.ok (.inr ((1, 0, ()))))
 (.ite (!i.2.2.1)
 (.ok (.inr ((-1, 0, ()))))
 (.ok (.inr ((0, 0, ())))))))
def ax3 (c : Int × List Int × List uj × Unit) : TT uo :=
 .call (afM ((c.1, c.2.1, c.2.2.1, ()), ())) Dd6 fun y =>
 .ite (y.1 != 0)
 (.ok ((0, y.1, ())))
 (.loop 0 (.tt <| .vT (vZ false false (1 : Int) (0 : Int) (0 : Int) <| uq ∧ True) <| .vT (vS (vV 42 c.1 c.2.1 c.2.2.1) True) <| .ok ((1, false, false, ()))) (aAW c y))
end
theorem aEV (n a b : Int) (y) (h : acZ (n, a, b, ()) = some y) : (asX n a b).toO = some y := by
 injection h with h
 subst h
 unfold asX
 by_cases c : a ≤ n
 ·refine uT (zo c) ?_
  rw [aaK]
  congr 2
  exact decide_eq_decide.2 ⟨fun h => ⟨c, h⟩, fun h => h.2⟩
 ·refine uF (zn c) ?_
  rw [aaK, zn (fun h : inR n a b => c h.1)]
theorem ab3 (n a b : Int) : acZ (n, a, b, ()) = some (decide (inR n a b), ()) := rfl
theorem aKd (n d : Int) (y) (h : ab0 (n, d, ()) = some y) : (aIg n d).toO = some y := by
 unfold ab0 at h
 split at h
 ·rename_i hp
  exact uC (ofQ n d) (by unfold amI; rw [if_pos hp]) h
 ·cases h
theorem afN {n : Int} {d : Nat} (hn : aa8 n) (hd : d ≠ 0) (h2 : d ≤ 9223372036854775807) : ab0 (n, (d : Int), ()) = some (fx (mkRat n d), ()) := by
 have hd2 : aa8 (d : Int) := ⟨by omega, by omega⟩
 unfold ab0
 rw [if_pos ⟨hn, hd2⟩]
 simp only [aLT hd (abJ hn) (abJ hd2)]
theorem aCE (n : Int) (y) (h : aaF (n, ()) = some y) : (axZ n).toO = some y := by
 unfold aaF at h
 split at h
 ·rename_i hp
  exact uC _ (afN (d := 1) hp zc zc) h
 ·cases h
theorem ab7 {n : Int} (h : aa8 n) : aaF (n, ()) = some (fx (mkRat n 1), ()) := by unfold aaF; rw [if_pos h]
theorem aeE (n : Int) : mkRat n 1 = (n : Rat) := by rw [Rat.mkRat_eq_div, show ((1 : Nat) : Rat) = 1 from rfl]; grind
theorem ad2 {n : Int} (h : aa8 n) : adK (mkRat n 1) := ad8 zc (abJ h) (abJ ⟨by omega, by omega⟩)
theorem aCU {p q : Rat} (hp : adK p) (hq : adK q) : ah4 (fx p, fx q, ()) = some (auZ p q, 0, ()) := by
 unfold ah4
 simp only [ae7 hp, ae7 hq]
theorem aHM (p q : Rat) : auZ p q < 0 ↔ p < q := by
 unfold auZ
 split
 ·simp_all
 ·split <;> simp_all
theorem aBV (p q : Rat) : auZ p q > 0 ↔ q < p := by
 unfold auZ
 split
 ·rename_i h; constructor
  ·intro h2; omega
  ·intro h2; exact absurd h2 (by grind)
 ·split
  ·rename_i h; subst h; simp
  ·rename_i h1 h2
   constructor
   ·intro _; rcases aDp p q with c | c | c
    ·exact absurd c h1
    ·exact absurd c h2
    ·exact c
   ·intro _; omega
theorem ag6 {q : Rat} (h : adK q) : ac1 (fx q, ()) = some (fx (abU q), ()) := aaI (enc := fun x : Rat => (fx x, ())) q h (fun b hb => anX (Prod.mk.inj hb).1)
theorem ax0 (x : FxT) (y) (h : ac1 (x, ()) = some y) : (akV x).toO = some y := by
 obtain ⟨q, hp, hx, rfl⟩ := aaD h
 obtain ⟨rfl, -⟩ := Prod.mk.inj hx
 have i0 : aa8 0 := ⟨by omega, by omega⟩
 have i1 : aa8 1 := ⟨by omega, by omega⟩
 unfold akV
 refine uC _ (ab7 i0) (uC _ (ab7 i1) (uV (uV (uV (uV ?_)))))
 refine uC _ (aCU hp (ad2 i0)) ?_
 have e0 : mkRat 0 1 = (0 : Rat) := by rw [aeE]; rfl
 have e1 : mkRat 1 1 = (1 : Rat) := by rw [aeE]; rfl
 unfold abU
 by_cases c : q < 0
 ·rw [if_pos c]
  refine uT (zo ((aHM _ _).2 (by rw [e0]; exact c))) ?_
  rw [e0]; rfl
 ·rw [if_neg c]
  refine uF (zn (fun h => c (by rw [← e0]; exact (aHM _ _).1 h))) (uV (uV ?_))
  refine uC _ (aCU hp (ad2 i1)) ?_
  by_cases c2 : q > 1
  ·rw [if_pos c2]
   refine uT (zo ((aBV _ _).2 (by rw [e1]; exact c2))) ?_
   rw [e1]; rfl
  ·rw [if_neg c2]
   exact uF (zn (fun h => c2 (by rw [← e1]; exact (aBV _ _).1 h))) rfl
theorem auT (l : List Int) (y) (h : ai4 (l, ()) = some y) : (ai3 l).toO = some y := by
 injection h with h
 subst h
 unfold ai3
 dsimp only
 by_cases h1 : l.length < 2
 ·rw [zn (fun h : adZ l => by have := h.1; omega)]
  exact uR _ (uT sd rfl)
 by_cases h2 : l.length > 17
 ·rw [zn (fun h : adZ l => by have := h.2.1; omega)]
  exact uR _ (uF sd (uT sd rfl))
 refine uL (false, ()) (uF sd (uF sd rfl)) ?_
 refine uO (0, ()) rfl ?_
 refine aaO (fun i : Int × Unit => ∃ k : Nat, k ≤ l.length ∧ i = ((k : Int), ()) ∧ ∀ v ∈ l.take k, inR v 0 65535) (fun i => ((l.length : Int) - i.1).toNat) (fun _ => (decide (adZ l), ())) ?_ _ ⟨0, by omega, rfl, by simp⟩
 rintro i ⟨k, h3, rfl, h4⟩
 simp only [al8, aaM]
 rcases zr k l.length with hk | hk
 ·have e : l.getD k 0 = l[k] := by simp [hk]
  rw [e]
  by_cases c : inR l[k] 0 65535
  ·left
   refine ⟨(((k + 1 : Nat) : Int), ()), ?_, ⟨k + 1, by omega, rfl, ?_⟩, by simp only; omega, ze⟩
   ·refine uT sd (uN sd (uC _ (ab3 _ _ _) (uF (by rw [zo c]; rfl) ?_)))
    repeat refine za ?_
    simp (disch := omega) only [aaK, aaA, aaN, aa0, abP, aaM, zw, zp, aaC, zt]
    rfl
   ·intro v hv
    rw [zW hk] at hv
    rcases zK.1 hv with hv | hv
    ·exact h4 v hv
    ·rw [zZ.1 hv]; exact c
  ·right
   rw [zn (fun h : adZ l => c (h.2.2 _ (yg hk)))]
   exact uT sd (uN sd (uC _ (ab3 _ _ _) (uT (by rw [zn c]; rfl) rfl)))
 ·right
  rw [zz hk] at h4
  rw [zo (show adZ l from ⟨by omega, by omega, h4⟩)]
  exact uF sd rfl
theorem aPx {a b : Int} (ha : 0 ≤ a) (hb : 0 < b) : Nat.gcd b.natAbs (Int.tmod a b).natAbs = Nat.gcd a.natAbs b.natAbs := by
 obtain ⟨m, rfl⟩ := zv ha
 obtain ⟨n, rfl⟩ := zv (xf hb)
 rw [zH ha]
 have : ((m : Int) % (n : Int)) = ((m % n : Nat) : Int) := zi
 rw [this, zM, zM, zM, xI n, xI m n, Nat.gcd_rec n m]
theorem aKH {p : PcT} (h : inR p.2.1 0 1000000) : af6 (p, ()) = some (decide (ai8 p.2.1 p.1), ()) := by unfold af6; rw [if_pos h]
theorem aEN (p : PcT) (y) (h : af6 (p, ()) = some y) : (asQ p).toO = some y := by
 unfold af6 at h
 split at h
 case isFalse => cases h
 case isTrue hfrom =>
 injection h with h
 subst h
 obtain ⟨hf0, hf1⟩ := hfrom
 dsimp only at hf0 hf1 ⊢
 obtain ⟨⟨till, mul, add, nu, de, off, u⟩, fr, first, u'⟩ := p
 dsimp only at hf0 hf1 ⊢
 unfold asQ
 refine uO (0, ()) rfl ?_
 have bad : ∀ b : Bool, b = false → (decide (ai8 fr (till, mul, add, nu, de, off, u)), ()) = (false, ()) ∨ ai8 fr (till, mul, add, nu, de, off, u) := fun b hb => by
  by_cases c : ai8 fr (till, mul, add, nu, de, off, u)
  ·exact Or.inr c
  ·left; rw [zn c]
 have step : ∀ (k : Nat) (x : Int), k < 3 → gi [mul, add, off] (k : Int) 0 = x → (inR x (-100000000) 100000000 → (afW ((till, mul, add, nu, de, off, u), fr, first, u') ((k : Int), ())).toO = some (.inl (((k + 1 : Nat) : Int), ()))) ∧ (¬ inR x (-100000000) 100000000 → (afW ((till, mul, add, nu, de, off, u), fr, first, u') ((k : Int), ())).toO = some (.inr (false, ()))) := by
  intro k x hk hx
  constructor
  ·intro c
   unfold afW
   dsimp only
   refine uT sd (uN ⟨by omega, by omega⟩ ?_)
   rw [hx]
   refine uC _ (ab3 _ _ _) (uF (by rw [zo c]; rfl) ?_)
   repeat refine za ?_
   simp (disch := omega) only [aaK, aaA, aaN, aa0, abP, aaM, zw, zp, aaC, zt]
   rfl
  ·intro c
   unfold afW
   dsimp only
   refine uT sd (uN ⟨by omega, by omega⟩ ?_)
   rw [hx]
   exact uC _ (ab3 _ _ _) (uT (by rw [zn c]; rfl) rfl)
 by_cases c1 : inR mul (-100000000) 100000000
 case neg =>
  rw [zn (fun h : ai8 _ _ => c1 h.1.1)]
  exact acB ((step 0 mul zc rfl).2 c1)
 rw [acR ((step 0 mul zc rfl).1 c1)]
 by_cases c2 : inR add (-100000000) 100000000
 case neg =>
  rw [zn (fun h : ai8 _ _ => c2 h.1.2.1)]
  exact acB ((step 1 add zc rfl).2 c2)
 rw [acR ((step 1 add zc rfl).1 c2)]
 by_cases c3 : inR off (-100000000) 100000000
 case neg =>
  rw [zn (fun h : ai8 _ _ => c3 h.1.2.2.1)]
  exact acB ((step 2 off zc rfl).2 c3)
 rw [acR ((step 2 off zc rfl).1 c3)]
 refine acB ?_
 unfold afW
 refine uF rfl ?_
 dsimp only
 have hw : w64 (fr + 1) = fr + 1 := aaA zc
 by_cases c4 : inR till (fr + 1) 1000000
 case neg =>
  rw [zn (fun h : ai8 _ _ => c4 h.2)]
  refine uR _ (uC _ (ab3 _ _ _) (uT (by rw [hw, zn c4]; rfl) rfl))
 by_cases c5 : inR nu 1 36
 case neg =>
  rw [zn (fun h : ai8 _ _ => c5 h.1.2.2.2.1)]
  refine uR _ (uC _ (ab3 _ _ _) (uF (by rw [hw, zo c4]; rfl) (uC _ (ab3 _ _ _) (uT (by rw [zn c5]; rfl) rfl))))
 by_cases c6 : inR de 1 12
 case neg =>
  rw [zn (fun h : ai8 _ _ => c6 h.1.2.2.2.2.1)]
  refine uR _ (uC _ (ab3 _ _ _) (uF (by rw [hw, zo c4]; rfl) (uC _ (ab3 _ _ _) (uF (by rw [zo c5]; rfl) (uC _ (ab3 _ _ _) (uT (by rw [zn c6]; rfl) rfl))))))
 refine uL () (uC _ (ab3 _ _ _) (uF (by rw [hw, zo c4]; rfl) (uC _ (ab3 _ _ _) (uF (by rw [zo c5]; rfl) (uC _ (ab3 _ _ _) (uF (by rw [zo c6]; rfl) rfl)))))) ?_
 refine uO (de, nu, ()) rfl ?_
 have hd : decide (ai8 fr (till, mul, add, nu, de, off, u)) = decide (Nat.gcd nu.natAbs de.natAbs = 1) := decide_eq_decide.2 ⟨fun h => h.1.2.2.2.2.2, fun h => ⟨⟨c1, c2, c3, c5, c6, h⟩, c4⟩⟩
 rw [hd]
 refine aaO (fun i : Int × Int × Unit => 0 ≤ i.1 ∧ 0 ≤ i.2.1 ∧ Nat.gcd i.2.1.natAbs i.1.natAbs = Nat.gcd nu.natAbs de.natAbs) (fun i => i.1.toNat) (fun _ => (.inr (decide (Nat.gcd nu.natAbs de.natAbs = 1), ()) : (Int × Unit) ⊕ (Bool × Unit))) ?_ _ ⟨by show (0 : Int) ≤ de; have := c6.1; omega, by show (0 : Int) ≤ nu; have := c5.1; omega, rfl⟩
 rintro ⟨b, a, u2⟩ ⟨g1, g2, g3⟩
 dsimp only at g1 g2 g3
 unfold axL
 by_cases hb : b = 0
 ·right
  subst hb
  refine uF rfl ?_
  have g4 : a.natAbs = Nat.gcd nu.natAbs de.natAbs := by simpa using g3
  show some (Sum.inr (Sum.inr (a == 1, ()))) = _
  by_cases c : a = 1
  ·rw [zo (show Nat.gcd nu.natAbs de.natAbs = 1 by omega), c]; rfl
  ·rw [zn (show ¬ Nat.gcd nu.natAbs de.natAbs = 1 by omega), beq_eq_false_iff_ne.2 c]
 ·left
  have hlt : Int.tmod a b < b := by rw [zH g2]; exact yC _ zc
  have hge : 0 ≤ Int.tmod a b := by rw [zH g2]; exact yR _ hb
  refine ⟨(Int.tmod a b, b, ()), ?_, ⟨hge, by dsimp only; omega, ?_⟩, by dsimp only; omega, ze⟩
  ·refine uT (by simpa using hb) (uN hb ?_)
   repeat refine za ?_
   rfl
  ·dsimp only
   rw [← g3]; exact aPx g2 zc
abbrev zs : adJ := (0, 0, 0, 0, 0, 0, ())
theorem aIP {last : Int} : ahE last [] ↔ last = 1000000 := Iff.rfl
theorem aFI {last : Int} {s : adJ} {r : List adJ} : ahE last (s :: r) ↔ ai8 last s ∧ ahE s.1 r := Iff.rfl
theorem ao0 (c : CvT) (y) (h : af9 (c, ()) = some y) : (afX c).toO = some y := by
 injection h with h
 subst h
 obtain ⟨kind, tab, l, u0⟩ := c
 dsimp only
 unfold afX
 dsimp only
 by_cases h1 : l.length < 1
 ·rw [zn (fun h : ac0 l => by have := h.1; omega)]
  exact uR _ (uT sd rfl)
 by_cases h2 : l.length > 4
 ·rw [zn (fun h : ac0 l => by have := h.2.1; omega)]
  exact uR _ (uF sd (uT sd rfl))
 refine uL (false, ()) (uF sd (uF sd rfl)) ?_
 refine uO (0, 0, ()) rfl ?_
 have hl : decide (ac0 l) = decide (ahE 0 l) := decide_eq_decide.2 ⟨fun h => h.2.2, fun h => ⟨by omega, by omega, h⟩⟩
 rw [hl]
 refine aaO (fun i : Int × Int × Unit => ∃ k : Nat, k ≤ l.length ∧ i.1 = (k : Int) ∧ inR i.2.1 0 1000000 ∧ (ahE 0 l ↔ ahE i.2.1 (l.drop k)) ∧ (k ≠ 0 → i.2.1 = (l.getD (k - 1) zs).1)) (fun i => ((l.length : Int) - i.1).toNat) (fun _ => (decide (ahE 0 l), ())) ?_ _ ⟨0, by omega, rfl, ⟨by simp, by simp⟩, by simp, by simp⟩
 rintro ⟨i, last, u⟩ ⟨k, h3, h4, h5, h6, h7⟩
 dsimp only at h4 h5 h6 h7
 subst h4
 simp only [aiK, aaM]
 rcases zr k l.length with hk | hk
 ·have e : l.getD k zs = l[k] := by simp [hk]
  have hv : af6 ((((l.getD k zs).1, (l.getD k zs).2.1, (l.getD k zs).2.2.1, (l.getD k zs).2.2.2.1, (l.getD k zs).2.2.2.2.1, (l.getD k zs).2.2.2.2.2.1, ()), last, (k : Int) == 0, ()), ()) = some (decide (ai8 last l[k]), ()) := by
   rw [aKH h5, e]
  rw [yA hk, aFI] at h6
  by_cases c : ai8 last l[k]
  ·left
   refine ⟨(((k + 1 : Nat) : Int), l[k].1, ()), ?_, ⟨k + 1, by omega, rfl, ⟨?_, c.2.2⟩, ⟨fun h => (h6.1 h).2, fun h => h6.2 ⟨c, h⟩⟩, fun _ => by rw [xC, e]⟩, by dsimp only; omega, ze⟩
   ·refine uT sd (uN sd (uC _ hv (uF (by rw [zo c]; rfl) ?_)))
    repeat refine za ?_
    rw [aaA (x := (k : Int) + 1) zc]
    show some (Sum.inl (((k + 1 : Nat) : Int), (l.getD k zs).1, ())) = _
    rw [e]
   ·have := h5.1; have := c.2.1; dsimp only; omega
  ·right
   rw [zn (fun h => c (h6.1 h).1)]
   exact uT sd (uN sd (uC _ hv (uT (by rw [zn c]; rfl) rfl)))
 ·right
  have hkl : k = l.length := zc
  subst hkl
  rw [List.drop_length, aIP] at h6
  have hw : w64 (len l - 1) = ((l.length - 1 : Nat) : Int) := by rw [aaC, aaA (x := (l.length : Int) - 1) zc]; omega
  simp only [hw, aaM]
  refine uF sd (uN sd ?_)
  rw [h7 zc] at h6
  show some (Sum.inr ((l.getD (l.length - 1) zs).1 == 1000000, ())) = _
  by_cases c : (l.getD (l.length - 1) zs).1 = 1000000
  ·rw [zo (h6.2 c), yJ.2 c]
  ·rw [zn (fun h => c (h6.1 h)), beq_eq_false_iff_ne.2 c]
theorem aGj {α : Type} (l : List α) : (len l == 0) = decide (l = []) := by
 cases l with
 | nil => rfl
 | cons a l => rw [zn zi, beq_eq_false_iff_ne]; simp [len]; omega
theorem aG6 (c : CvT) (y) (h : afM (c, ()) = some y) : (ax5 c).toO = some y := by
 injection h with h
 subst h
 obtain ⟨kind, tab, l, u⟩ := c
 unfold ax5
 dsimp only
 simp only [aGj]
 by_cases k1 : kind = 1
 ·subst k1
  refine uT rfl ?_
  by_cases a1 : tab = []
  ·refine uT (zo a1) ?_
   by_cases a2 : l = []
   ·rw [if_pos (show ab1 (1, tab, l, u) from Or.inl ⟨rfl, a1, a2⟩)]
    exact uF (by rw [zo a2]; rfl) rfl
   ·rw [if_neg (fun h => by rcases h with h | h | h; exact a2 h.2.2; exact absurd h.1 zj; exact absurd h.1 zj)]
    exact uT (by rw [zn a2]; rfl) rfl
  ·rw [if_neg (fun h => by rcases h with h | h | h; exact a1 h.2.1; exact absurd h.1 zj; exact absurd h.1 zj)]
   exact uF (zn a1) rfl
 refine uF (beq_eq_false_iff_ne.2 k1) ?_
 by_cases k2 : kind = 2
 ·subst k2
  refine uT rfl (uC (decide (adZ tab), ()) rfl ?_)
  by_cases a1 : adZ tab
  ·refine uT (zo a1) ?_
   by_cases a2 : l = []
   ·rw [if_pos (show ab1 (2, tab, l, u) from Or.inr (Or.inl ⟨rfl, a1, a2⟩))]
    exact uF (by rw [zo a2]; rfl) rfl
   ·rw [if_neg (fun h => by rcases h with h | h | h; exact absurd h.1 zj; exact a2 h.2.2; exact absurd h.1 zj)]
    exact uT (by rw [zn a2]; rfl) rfl
  ·rw [if_neg (fun h => by rcases h with h | h | h; exact absurd h.1 zj; exact a1 h.2.1; exact absurd h.1 zj)]
   exact uF (zn a1) rfl
 refine uF (beq_eq_false_iff_ne.2 k2) ?_
 by_cases k3 : kind = 3
 ·subst k3
  refine uT rfl ?_
  by_cases a1 : tab = []
  ·refine uT (zo a1) (uC (decide (ac0 l), ()) rfl ?_)
   by_cases a2 : ac0 l
   ·rw [if_pos (show ab1 (3, tab, l, u) from Or.inr (Or.inr ⟨rfl, a1, a2⟩))]
    exact uF (by rw [zo a2]; rfl) rfl
   ·rw [if_neg (fun h => by rcases h with h | h | h; exact absurd h.1 zj; exact absurd h.1 zj; exact a2 h.2.2)]
    exact uT (by rw [zn a2]; rfl) rfl
  ·rw [if_neg (fun h => by rcases h with h | h | h; exact absurd h.1 zj; exact absurd h.1 zj; exact a1 h.2.1)]
   exact uF (zn a1) rfl
 ·rw [if_neg (fun h => by rcases h with h | h | h; exact k1 h.1; exact k2 h.1; exact k3 h.1)]
  exact uF (beq_eq_false_iff_ne.2 k3) rfl
theorem arH (c : CvT) : afM (c, ()) = some (if ab1 c then 0 else 90, ()) := rfl
theorem aG5 (c : CvT) (y) (h : aq9 (c, ()) = some y) : (ax4 c).toO = some y := by
 injection h with h
 subst h
 obtain ⟨kind, tab, l, u0⟩ := c
 unfold ax4
 refine uC _ (arH _) ?_
 dsimp only
 by_cases hr : ab1 (kind, tab, l, ())
 case neg =>
  rw [zn (fun h : axE _ => hr h.1), if_neg hr]
  exact uT rfl rfl
 rw [if_pos hr]
 have hlen : l.length ≤ 4 := by
  rcases hr with h | h | h
  ·rw [show l = [] from h.2.2]; simp
  ·rw [show l = [] from h.2.2]; simp
  ·exact h.2.2.2.1
 have hd : decide (axE (kind, tab, l, u0)) = decide (∀ s ∈ l, s.2.2.2.2.1 = 1) := decide_eq_decide.2 ⟨fun h => h.2, fun h => ⟨hr, h⟩⟩
 rw [hd]
 refine uF rfl (uV (uV (uV (uV ?_))))
 refine uO (0, 0, ()) rfl ?_
 refine aaO (fun i : Int × Int × Unit => ∃ k : Nat, k ≤ l.length ∧ i.1 = (k : Int) ∧ ∀ s ∈ l.take k, s.2.2.2.2.1 = 1) (fun i => ((l.length : Int) - i.1).toNat) (fun _ => (decide (∀ s ∈ l, s.2.2.2.2.1 = 1), ())) ?_ _ ⟨0, by omega, rfl, by simp⟩
 rintro ⟨i, w, u⟩ ⟨k, h1, h2, h3⟩
 dsimp only at h2
 subst h2
 unfold aAX
 simp only [aaM]
 rcases zr k l.length with hk | hk
 ·have e : l.getD k zs = l[k] := by simp [hk]
  by_cases c : l[k].2.2.2.2.1 = 1
  ·left
   refine ⟨(((k + 1 : Nat) : Int), l[k].1, ()), ?_, ⟨k + 1, by omega, rfl, ?_⟩, by dsimp only; omega, ze⟩
   ·refine uT sd (uN sd (uF ?_ ?_))
    ·show ((l.getD k zs).2.2.2.2.1 != 1) = false
     rw [e, c]; rfl
    ·repeat refine za ?_
     rw [aaA (x := (k : Int) + 1) zc]
     show some (Sum.inl (((k + 1 : Nat) : Int), (l.getD k zs).1, ())) = _
     rw [e]
   ·intro s hs
    rw [zW hk] at hs
    rcases zK.1 hs with hs | hs
    ·exact h3 s hs
    ·rw [zZ.1 hs]; exact c
  ·right
   rw [zn (fun h : ∀ s ∈ l, s.2.2.2.2.1 = 1 => c (h _ (yg hk)))]
   refine uT sd (uN sd (uT ?_ rfl))
   show ((l.getD k zs).2.2.2.2.1 != 1) = true
   rw [e]; simpa using c
 ·right
  rw [zz hk] at h3
  rw [zo h3]
  exact uF sd rfl
end Go.Vs
