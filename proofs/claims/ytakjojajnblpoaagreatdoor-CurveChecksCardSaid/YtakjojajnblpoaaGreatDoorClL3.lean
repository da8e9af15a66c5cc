/-
  Trees of what the functions compute, and their laws. Own work; no condition.
-/
import Derived.Test.YtakjojajnblpoaaGreatDoorClL2
import Derived.Test.YtakjojajnblpoaaGreatDoorProg
set_option linter.unusedVariables false
set_option linter.unusedSimpArgs false
set_option maxRecDepth 100000
namespace Go.Vs
open Go Go.Vg Go.Proofs
noncomputable section
def aMN : LTab := []
def aw8 (lo : Int) (hi : Int) : TT uk :=
 .ite (decide (-1000000000000000000 ≤ lo))
 (.ite (decide (lo ≤ hi))
 (.ok ((decide (hi ≤ 1000000000000000000), ())))
 (.ok ((false, ()))))
 (.ok ((false, ())))
def aOT : LTab := []
def aB5 (lo : Int) (hi : Int) : TT ul :=
 .call (adQ (lo, hi, ())) Dd1 fun y =>
 .ite (!y.1)
 (.ok (((0, 0, ()), 6, ())))
 (.ok (((lo, hi, ()), 0, ())))
def aMR : LTab := []
def axA (b : Int × Int × Unit) : TT uz :=
 .call (adQ (b.1, b.2.1, ())) Dd1 fun y =>
 .ite (!y.1)
 (.ok ((30, ())))
 (.ok ((0, ())))
def aRe : LTab := []
def aMP (lo : Int) (hi : Int) : TT ul :=
 .call (adQ (lo, hi, ())) Dd1 fun y =>
 .ite (!y.1)
 (.ok (((0, 0, ()), 30, ())))
 (.ok (((lo, hi, ()), 0, ())))
def aMO : LTab := []
def aEf (l : List Int) : TT uz :=
 .call (axI (l, ())) Dd6 fun y =>
 .ok ((y.1, ()))
def aEg : LTab := []
def atJ (l : List Int) : TT uz :=
 .call (axJ (l, ())) Dd6 fun y =>
 .ok ((y.1, ()))
def aJz : LTab := []
def asA (a : List UInt8 × List UInt8 × Unit) : TT ul :=
 .call (akO ((a.1, a.2.1, ()), 1000000000000, ())) aCj fun y =>
 .ite (y.2.1 != 0)
 (.ok (((0, 0, ()), y.2.1, ())))
 (.call (al6 (y.1, 1000000000000, ())) af6 fun y1 =>
 .ite (y1.2.1 != 0)
 (.ok (((0, 0, ()), y1.2.1, ())))
 (.call (ahL ((a.1, a.2.1, ()), (y1.1.1, y1.1.2.1, ()), ())) aCj fun y2 =>
 .ite (y2.2.1 != 0)
 (.ok (((0, 0, ()), y2.2.1, ())))
 (.call (adQ (y.1, y.1, ())) Dd1 fun y3 =>
 .ite (!y3.1)
 (.ok (((0, 0, ()), 6, ())))
 (.call (ah9 (w64 (y.1 + if 0 < y2.1 then 0 else y2.1), w64 (y.1 + if 0 > y2.1 then 0 else y2.1), ())) at0 fun y4 =>
 .ok (((y4.1.1, y4.1.2.1, ()), y4.2.1, ()))))))
def aQv : LTab := [(113, 26, 13312, ⟨0, (Int) × Unit, .dat (.s 11) vZ <| .nil, [10, 9, 4, 0], [8, 7, 2, 1, 0], 0⟩)]
def apY (a : Int × Int × Unit) (b : Int × Int × Unit) (i : (Int) × Unit) : TT (uq ⊕ ul) :=
 .ite (decide (i.1 < (↑2 : Int)))
 (.need (inb i.1 (↑2 : Int)) <| .call (adQ ((List.getD [(a.1, a.2.1, ()), (b.1, b.2.1, ())] (0 + Int.toNat i.1) (0, 0, ())).1, (List.getD [(a.1, a.2.1, ()), (b.1, b.2.1, ())] (0 + Int.toNat i.1) (0, 0, ())).2.1, ())) Dd1 fun y =>
 .ite (!y.1)
 (.ok (.inr (((0, 0, ()), 30, ()))))
 (.tt <| .lt (w64 (i.1 + 1) : Int) fun z => .triv (((z : Int) = z) ∧ (((↑2 : Int) : Int) = (↑2 : Int)) ∧ (((7) = (7)) ∧ (((0) = (0)) ∧ (((2) = (2)) ∧ ((true) = (true))))) ∧ (((8) = (8)) ∧ (((0) = (0)) ∧ ((true) = (true)))) ∧ (((201 : FuncId) = 201) ∧ (True ∧ ((((0) = (0)) ∧ (((0) = (0)) ∧ ((true) = (true)))) ∧ ((((1) = (1)) ∧ (((0) = (0)) ∧ ((true) = (true)))) ∧ True)))) ∧ True) ⟨rfl, rfl, ⟨rfl, ⟨rfl, ⟨rfl, rfl⟩⟩⟩, ⟨rfl, ⟨rfl, rfl⟩⟩, ⟨rfl, ⟨trivial, ⟨⟨rfl, ⟨rfl, rfl⟩⟩, ⟨⟨rfl, ⟨rfl, rfl⟩⟩, trivial⟩⟩⟩⟩, trivial⟩ <| .vI (vH uf <| vH (vM 53 ([(a.1, a.2.1, ()), (b.1, b.2.1, ())] : List uc)) <| vH uf <| vH (vL 53 b.1 b.2.1) <| vH (vL 53 a.1 a.2.1) True) <| .ok (.inl ((z, ())))))
 (.tt <| .tt <| .call (ah9 (w64 (a.1 + b.1), w64 (a.2.1 + b.2.1), ())) at0 fun y1 =>
 .ok (.inr (((y1.1.1, y1.1.2.1, ()), y1.2.1, ()))))
def aGq (a : Int × Int × Unit) (b : Int × Int × Unit) : TT ul :=
 .tt <| .tt <| .loop 0 (.tt <| .triv (((0 : Int) = 0) ∧ (((↑2 : Int) : Int) = (↑2 : Int)) ∧ (((7) = (7)) ∧ (((0) = (0)) ∧ (((2) = (2)) ∧ ((true) = (true))))) ∧ (((8) = (8)) ∧ (((0) = (0)) ∧ ((true) = (true)))) ∧ (((201 : FuncId) = 201) ∧ (True ∧ ((((0) = (0)) ∧ (((0) = (0)) ∧ ((true) = (true)))) ∧ ((((1) = (1)) ∧ (((0) = (0)) ∧ ((true) = (true)))) ∧ True)))) ∧ True) ⟨rfl, rfl, ⟨rfl, ⟨rfl, ⟨rfl, rfl⟩⟩⟩, ⟨rfl, ⟨rfl, rfl⟩⟩, ⟨rfl, ⟨trivial, ⟨⟨rfl, ⟨rfl, rfl⟩⟩, ⟨⟨rfl, ⟨rfl, rfl⟩⟩, trivial⟩⟩⟩⟩, trivial⟩ <| .vI (vH uf <| vH (vM 53 ([(a.1, a.2.1, ()), (b.1, b.2.1, ())] : List uc)) <| vH uf <| vH (vL 53 b.1 b.2.1) <| vH (vL 53 a.1 a.2.1) True) <| .ok ((0, ()))) (apY a b)
def aOV : LTab := [(113, 26, 20480, ⟨0, (Int) × Unit, .dat (.s 11) vZ <| .nil, [10, 9, 4, 0], [15, 14, 9, 8, 7, 6, 2, 1, 0], 0⟩)]
def alX (a : Int × Int × Unit) (b : Int × Int × Unit) (i : (Int) × Unit) : TT (uq ⊕ ul) :=
 .ite (decide (i.1 < (↑2 : Int)))
 (.need (inb i.1 (↑2 : Int)) <| .call (adQ ((List.getD [(a.1, a.2.1, ()), (b.1, b.2.1, ())] (0 + Int.toNat i.1) (0, 0, ())).1, (List.getD [(a.1, a.2.1, ()), (b.1, b.2.1, ())] (0 + Int.toNat i.1) (0, 0, ())).2.1, ())) Dd1 fun y =>
 .ite (!y.1)
 (.ok (.inr (((0, 0, ()), 30, ()))))
 (.tt <| .lt (w64 (i.1 + 1) : Int) fun z => .triv (((z : Int) = z) ∧ (((↑2 : Int) : Int) = (↑2 : Int)) ∧ (((14) = (14)) ∧ (((0) = (0)) ∧ (((2) = (2)) ∧ ((true) = (true))))) ∧ (((15) = (15)) ∧ (((0) = (0)) ∧ ((true) = (true)))) ∧ (((230 : FuncId) = 230) ∧ (True ∧ ((((7) = (7)) ∧ (((0) = (0)) ∧ ((true) = (true)))) ∧ ((((8) = (8)) ∧ (((0) = (0)) ∧ ((true) = (true)))) ∧ ((((6) = (6)) ∧ (((0) = (0)) ∧ ((true) = (true)))) ∧ True))))) ∧ True) ⟨rfl, rfl, ⟨rfl, ⟨rfl, ⟨rfl, rfl⟩⟩⟩, ⟨rfl, ⟨rfl, rfl⟩⟩, ⟨rfl, ⟨trivial, ⟨⟨rfl, ⟨rfl, rfl⟩⟩, ⟨⟨rfl, ⟨rfl, rfl⟩⟩, ⟨⟨rfl, ⟨rfl, rfl⟩⟩, trivial⟩⟩⟩⟩⟩, trivial⟩ <| .vI (vH uf <| vH (vM 53 ([(a.1, a.2.1, ()), (b.1, b.2.1, ())] : List uc)) <| vH uf <| vH (vL 53 b.1 b.2.1) <| vH (vL 53 a.1 a.2.1) <| vH (vU 3 (2 : Int)) <| vH uf <| vH (vL 53 b.1 b.2.1) <| vH (vL 53 a.1 a.2.1) True) <| .ok (.inl ((z, ())))))
 (.tt <| .tt <| .ite ((match a.1 == b.1 with | true => (match a.2.1 == b.2.1 with | true => true | false => false) | false => false))
 (.ok (.inr (((a.1, a.2.1, ()), 0, ()))))
 (.triv (asT Int 0 ≤ 2 ∧ 2 < (↑4 : Int)) zf <| .call (axO (List.take 2 [a.1, b.1], ())) Dd6 fun y1 =>
 .call (al8 (List.take 2 [a.2.1, b.2.1], ())) Dd6 fun y2 =>
 .ite (decide (y1.1 > y2.1))
 (.ok (.inr (((0, 0, ()), 4, ()))))
 (.ok (.inr (((y1.1, y2.1, ()), 0, ()))))))
def aB6 (a : Int × Int × Unit) (b : Int × Int × Unit) : TT ul :=
 .tt <| .tt <| .tt <| .tt <| .loop 0 (.tt <| .triv (((0 : Int) = 0) ∧ (((↑2 : Int) : Int) = (↑2 : Int)) ∧ (((14) = (14)) ∧ (((0) = (0)) ∧ (((2) = (2)) ∧ ((true) = (true))))) ∧ (((15) = (15)) ∧ (((0) = (0)) ∧ ((true) = (true)))) ∧ (((230 : FuncId) = 230) ∧ (True ∧ ((((7) = (7)) ∧ (((0) = (0)) ∧ ((true) = (true)))) ∧ ((((8) = (8)) ∧ (((0) = (0)) ∧ ((true) = (true)))) ∧ ((((6) = (6)) ∧ (((0) = (0)) ∧ ((true) = (true)))) ∧ True))))) ∧ True) ⟨rfl, rfl, ⟨rfl, ⟨rfl, ⟨rfl, rfl⟩⟩⟩, ⟨rfl, ⟨rfl, rfl⟩⟩, ⟨rfl, ⟨trivial, ⟨⟨rfl, ⟨rfl, rfl⟩⟩, ⟨⟨rfl, ⟨rfl, rfl⟩⟩, ⟨⟨rfl, ⟨rfl, rfl⟩⟩, trivial⟩⟩⟩⟩⟩, trivial⟩ <| .vI (vH uf <| vH (vM 53 ([(a.1, a.2.1, ()), (b.1, b.2.1, ())] : List uc)) <| vH uf <| vH (vL 53 b.1 b.2.1) <| vH (vL 53 a.1 a.2.1) <| vH (vU 3 (2 : Int)) <| vH uf <| vH (vL 53 b.1 b.2.1) <| vH (vL 53 a.1 a.2.1) True) <| .ok ((0, ()))) (alX a b)
def aMQ : LTab := [(113, 26, 13312, ⟨0, (Int) × Unit, .dat (.s 11) vZ <| .nil, [10, 9, 4, 0], [8, 7, 3, 2, 1, 0], 0⟩)]
def ai5 (b : Int × Int × Unit) (lo : Int) (hi : Int) (i : (Int) × Unit) : TT (uq ⊕ ul) :=
 .ite (decide (i.1 < (↑1 : Int)))
 (.need (inb i.1 (↑1 : Int)) <| .call (adQ ((List.getD [(b.1, b.2.1, ())] (0 + Int.toNat i.1) (0, 0, ())).1, (List.getD [(b.1, b.2.1, ())] (0 + Int.toNat i.1) (0, 0, ())).2.1, ())) Dd1 fun y =>
 .ite (!y.1)
 (.ok (.inr (((0, 0, ()), 30, ()))))
 (.tt <| .lt (w64 (i.1 + 1) : Int) fun z => .triv (((z : Int) = z) ∧ (((↑1 : Int) : Int) = (↑1 : Int)) ∧ (((7) = (7)) ∧ (((0) = (0)) ∧ (((1) = (1)) ∧ ((true) = (true))))) ∧ (((8) = (8)) ∧ (((0) = (0)) ∧ ((true) = (true)))) ∧ (((114 : FuncId) = 114) ∧ (True ∧ ((((1) = (1)) ∧ (((0) = (0)) ∧ ((true) = (true)))) ∧ ((((2) = (2)) ∧ (((0) = (0)) ∧ ((true) = (true)))) ∧ ((((0) = (0)) ∧ (((0) = (0)) ∧ ((true) = (true)))) ∧ True))))) ∧ True) ⟨rfl, rfl, ⟨rfl, ⟨rfl, ⟨rfl, rfl⟩⟩⟩, ⟨rfl, ⟨rfl, rfl⟩⟩, ⟨rfl, ⟨trivial, ⟨⟨rfl, ⟨rfl, rfl⟩⟩, ⟨⟨rfl, ⟨rfl, rfl⟩⟩, ⟨⟨rfl, ⟨rfl, rfl⟩⟩, trivial⟩⟩⟩⟩⟩, trivial⟩ <| .vI (vH uf <| vH (vM 53 ([(b.1, b.2.1, ())] : List uc)) <| vH uf <| vH (vU 3 hi) <| vH (vU 3 lo) <| vH (vL 53 b.1 b.2.1) True) <| .ok (.inl ((z, ())))))
 (.tt <| .tt <| .call (adQ (lo, hi, ())) Dd1 fun y1 =>
 .ite (!y1.1)
 (.ok (.inr (((0, 0, ()), 2, ()))))
 (.call (ah9 (if hi < if lo > b.1 then lo else b.1 then hi else if lo > b.1 then lo else b.1, if hi < if lo > b.2.1 then lo else b.2.1 then hi else if lo > b.2.1 then lo else b.2.1, ())) at0 fun y2 =>
 .ok (.inr (((y2.1.1, y2.1.2.1, ()), y2.2.1, ())))))
def aw9 (b : Int × Int × Unit) (lo : Int) (hi : Int) : TT ul :=
 .tt <| .tt <| .loop 0 (.tt <| .triv (((0 : Int) = 0) ∧ (((↑1 : Int) : Int) = (↑1 : Int)) ∧ (((7) = (7)) ∧ (((0) = (0)) ∧ (((1) = (1)) ∧ ((true) = (true))))) ∧ (((8) = (8)) ∧ (((0) = (0)) ∧ ((true) = (true)))) ∧ (((114 : FuncId) = 114) ∧ (True ∧ ((((1) = (1)) ∧ (((0) = (0)) ∧ ((true) = (true)))) ∧ ((((2) = (2)) ∧ (((0) = (0)) ∧ ((true) = (true)))) ∧ ((((0) = (0)) ∧ (((0) = (0)) ∧ ((true) = (true)))) ∧ True))))) ∧ True) ⟨rfl, rfl, ⟨rfl, ⟨rfl, ⟨rfl, rfl⟩⟩⟩, ⟨rfl, ⟨rfl, rfl⟩⟩, ⟨rfl, ⟨trivial, ⟨⟨rfl, ⟨rfl, rfl⟩⟩, ⟨⟨rfl, ⟨rfl, rfl⟩⟩, ⟨⟨rfl, ⟨rfl, rfl⟩⟩, trivial⟩⟩⟩⟩⟩, trivial⟩ <| .vI (vH uf <| vH (vM 53 ([(b.1, b.2.1, ())] : List uc)) <| vH uf <| vH (vU 3 hi) <| vH (vU 3 lo) <| vH (vL 53 b.1 b.2.1) True) <| .ok ((0, ()))) (ai5 b lo hi)
def aPv : LTab := [(251, 3, 1024, ⟨0, Unit, .nil, [2, 0], [], 0⟩), (251, 122, 6144, ⟨1, (Int) × (Int) × Unit, .dat (.s 4) vZ <| .dat (.s 3) vZ <| .nil, [2, 0], [], 0⟩)]
def aGI (x : List Int) (j : Unit) (i : (Int) × (Int) × Unit) : TT (ur ⊕ uz) :=
 .ite (decide (i.1 < len x))
 (.need (inb i.1 (len x)) <| .tt <| .lt (w64 (i.1 + 1) : Int) fun z1 => .lt (if gi x i.1 0 < i.2.1 then gi x i.1 0 else i.2.1 : Int) fun z2 => .vI (vK z2 z1 (0 : Int) x) <| .tr <| .ok (.inl ((z1, z2, ()))))
 (.ok (.inr ((i.2.1, ()))))
def aNC (x : List Int) (j : Unit) : TT uz :=
 .need (asT Int 0 ≤ 0 ∧ 0 < len x) <| .loop 1 (.tt <| .lt (gi x 0 0 : Int) fun z => .vI (vK z (1 : Int) (0 : Int) x) <| .tr <| .ok ((1, z, ()))) (aGI x j)
def aEQ (x : List Int) : TT uz :=
 .join 0 (ι := Unit) (.ite (decide (len x < 1))
 (.bad)
 (.tt <| .vI (vU (0 : Int) x) <| .tr <| .ok (.inl (())))) (aNC x)
def aPw : LTab := [(252, 3, 1024, ⟨0, Unit, .nil, [2, 0], [], 0⟩), (252, 122, 6144, ⟨1, (Int) × (Int) × Unit, .dat (.s 4) vZ <| .dat (.s 3) vZ <| .nil, [2, 0], [], 0⟩)]
def aGJ (x : List Int) (j : Unit) (i : (Int) × (Int) × Unit) : TT (ur ⊕ uz) :=
 .ite (decide (i.1 < len x))
 (.need (inb i.1 (len x)) <| .tt <| .lt (w64 (i.1 + 1) : Int) fun z1 => .lt (if gi x i.1 0 > i.2.1 then gi x i.1 0 else i.2.1 : Int) fun z2 => .vI (vK z2 z1 (0 : Int) x) <| .tr <| .ok (.inl ((z1, z2, ()))))
 (.ok (.inr ((i.2.1, ()))))
def aNE (x : List Int) (j : Unit) : TT uz :=
 .need (asT Int 0 ≤ 0 ∧ 0 < len x) <| .loop 1 (.tt <| .lt (gi x 0 0 : Int) fun z => .vI (vK z (1 : Int) (0 : Int) x) <| .tr <| .ok ((1, z, ()))) (aGJ x j)
def aER (x : List Int) : TT uz :=
 .join 0 (ι := Unit) (.ite (decide (len x < 1))
 (.bad)
 (.tt <| .vI (vU (0 : Int) x) <| .tr <| .ok (.inl (())))) (aNE x)
def aFf : LTab := []
def anW (n : Int) : TT uM :=
 .call (aHv (#[48].toList, n, ())) Dd2 fun y =>
 .need (List.length #[49].toList + List.length y.1 ≤ lim) <| .ok ((#[49].toList ++ y.1, ()))
def aNW : LTab := []
def aBa (a : List UInt8) (k : Int) : TT (List UInt8 × Bool × Int × Unit) :=
 .call (ap3 (a, k, ())) aGA fun y =>
 .ite (y.2.1 != 0)
 (.ok ((#[].toList, false, y.2.1, ())))
 (.call (al2 (y.1, k, ())) aGA fun y1 =>
 .ite (y1.2.1 != 0)
 (.ok ((#[].toList, false, y1.2.1, ())))
 (.ok ((y.1, y1.1 == a, 0, ()))))
def aFg : LTab := []
def anX (a : List UInt8) (up0 : Bool) : TT uc :=
 .call (akK (a, ())) aCj fun y =>
 .ite (y.2.1 != 0)
 (.ok ((0, y.2.1, ())))
 (.ite (decide (y.1 > 1000000000000000000))
 (.ok ((0, 6, ())))
 (.ite (up0)
 (.ok ((w64 (y.1 + 1), 0, ())))
 (.ok ((y.1, 0, ())))))
def aIi : LTab := []
def aq9 (e : Int × Int × Unit) : TT uk :=
 .ite (decide (e.1 ≥ 1))
 (.ite (decide (e.1 ≤ 36))
 (.ite (decide (e.2.1 ≥ 1))
 (.ok ((decide (e.2.1 ≤ 12), ())))
 (.ok ((false, ()))))
 (.ok ((false, ()))))
 (.ok ((false, ())))
def aNO : LTab := []
def aA6 (p : uc × Unit) (n : Int) (up0 : Bool) : TT uc :=
 .call (atL (n, ())) Dd2 fun y =>
 .call (al2 (y.1, p.1.1, ())) aGA fun y1 =>
 .ite (y1.2.1 != 0)
 (.ok ((0, y1.2.1, ())))
 (.ite (decide (p.1.1 ≤ p.1.2.1))
 (.call (ahI (w64 (12 * w64 (p.1.2.1 - p.1.1)), ())) Dd2 fun y2 =>
 .call (asE (y1.1, y2.1, ())) aGA fun y3 =>
 .ite (y3.2.1 != 0)
 (.ok ((0, y3.2.1, ())))
 (.call (ap9 (y3.1, p.1.2.1, ())) aRT fun y4 =>
 .ite (y4.2.2.1 != 0)
 (.ok ((0, y4.2.2.1, ())))
 (.ite (up0)
 (.ite (y4.2.1)
 (.call (acG (y4.1, !#[48].toList == #[48].toList, ())) aCj fun y5 =>
 .ok ((y5.1, y5.2.1, ())))
 (.call (acG (y4.1, !false, ())) aCj fun y6 =>
 .ok ((y6.1, y6.2.1, ()))))
 (.call (acG (y4.1, false, ())) aCj fun y7 =>
 .ok ((y7.1, y7.2.1, ()))))))
 (.call (ahI (w64 (12 * w64 (p.1.1 - p.1.2.1)), ())) Dd2 fun y8 =>
 .call (asF (y1.1, y8.1, ())) aR1 fun y9 =>
 .ite (y9.2.2.1 != 0)
 (.ok ((0, y9.2.2.1, ())))
 (.call (ap9 (y9.1, p.1.2.1, ())) aRT fun y10 =>
 .ite (y10.2.2.1 != 0)
 (.ok ((0, y10.2.2.1, ())))
 (.ite (up0)
 (.ite (y10.2.1)
 (.call (acG (y10.1, !y9.2.1 == #[48].toList, ())) aCj fun y11 =>
 .ok ((y11.1, y11.2.1, ())))
 (.call (acG (y10.1, !false, ())) aCj fun y12 =>
 .ok ((y12.1, y12.2.1, ()))))
 (.call (acG (y10.1, false, ())) aCj fun y13 =>
 .ok ((y13.1, y13.2.1, ())))))))
def aKL : LTab := []
def avI (b : Int × Int × Unit) (p : Int) (q : Int) : TT ul :=
 .call (aqJ ((b.1, b.2.1, ()), ())) Dd6 fun y =>
 .ite (y.1 != 0)
 (.ok (((0, 0, ()), y.1, ())))
 (.call (asG ((p, q, ()), ())) Dd1 fun y1 =>
 .ite (!y1.1)
 (.ok (((0, 0, ()), 2, ())))
 (.ite (decide (b.1 < 0))
 (.ok (((0, 0, ()), 2, ())))
 (.tt <| .tt <| .call (ap8 (((p, q, ()), ()), b.1, false, ())) aCj fun y2 =>
 .ite (y2.2.1 != 0)
 (.ok (((0, 0, ()), y2.2.1, ())))
 (.call (ap8 (((p, q, ()), ()), b.2.1, true, ())) aCj fun y3 =>
 .ite (y3.2.1 != 0)
 (.ok (((0, 0, ()), y3.2.1, ())))
 (.call (aHw (y2.1, y3.1, ())) at0 fun y4 =>
 .ite (y4.2.1 != 0)
 (.ok (((0, 0, ()), 6, ())))
 (.ok (((y4.1.1, y4.1.2.1, ()), 0, ()))))))))
end
open Go Go.Vg
theorem aGm (lo hi : Int) (y) (h : adQ (lo, hi, ()) = some y) : (aw8 lo hi).toO = some y := by
 injection h with h
 subst h
 unfold aw8
 by_cases h1 : -1000000000000000000 ≤ lo
 ·refine uT (zo h1) ?_
  by_cases h2 : lo ≤ hi
  ·refine uT (zo h2) ?_
   simp [aaH, okB, h1, h2]
  ·refine uF (zn h2) ?_
   simp [aaH, okB, h2]
 ·refine uF (zn h1) ?_
  simp [aaH, okB, h1]
theorem amA (lo hi : Int) : adQ (lo, hi, ()) = some (decide (okB lo hi), ()) := rfl
theorem aJx (lo hi : Int) (y) (h : ah9 (lo, hi, ()) = some y) : (aB5 lo hi).toO = some y := by
 unfold ah9 mkB at h
 dsimp only at h
 unfold aB5
 refine uC _ (amA lo hi) ?_
 by_cases h1 : okB lo hi
 ·rw [if_pos h1] at h
  exact uF (by rw [zo h1]; rfl) h
 ·rw [if_neg h1] at h
  exact uT (by rw [zn h1]; rfl) h
theorem aOU (lo hi : Int) (y) (h : aHw (lo, hi, ()) = some y) : (aMP lo hi).toO = some y := by
 unfold aHw mkB at h
 dsimp only at h
 unfold aMP
 refine uC _ (amA lo hi) ?_
 by_cases h1 : okB lo hi
 ·rw [if_pos h1] at h
  exact uF (by rw [zo h1]; rfl) h
 ·rw [if_neg h1] at h
  exact uT (by rw [zn h1]; rfl) h
theorem aGp (b : BdT) (y) (h : aqJ (b, ()) = some y) : (axA b).toO = some y := by
 unfold aqJ at h
 dsimp only at h
 unfold axA
 refine uC _ (amA b.1 b.2.1) ?_
 by_cases h1 : okB b.1 b.2.1
 ·rw [if_pos h1] at h
  exact uF (by rw [zo h1]; rfl) h
 ·rw [if_neg h1] at h
  exact uT (by rw [zn h1]; rfl) h
theorem aKf (x : List Int) (y) (h : axI (x, ()) = some y) : (aEQ x).toO = some y := by
 unfold axI at h
 cases x with
 | nil => cases h
 | cons a l =>
  simp only at h
  split at h
  ·rename_i hl
   injection h with h
   subst h
   unfold aEQ
   refine uL () (uF (by (try simp only [yp, yv, zV, xh, beq_eq_false_iff_ne, bne_eq_false_iff_eq, zU, yP]) <;> (try simp only [aaB, inb, inc, ge_iff_le, gt_iff_lt, zp, asT, ne_eq]) <;> simp only [zG] <;> omega) rfl) ?_
   refine uN ⟨by simp [asT], by (try simp only [aaB, inb, inc, ge_iff_le, gt_iff_lt, zp, asT, ne_eq]); simp only [zG]; omega⟩ ?_
   refine uO (1, a, ()) rfl ?_
   refine aaL (fun i : Int × Int × Unit => ∃ k : Nat, k ≤ l.length ∧ i = (((k + 1 : Nat) : Int), (l.take k).foldl (fun m y => if y < m then y else m) a, ())) (fun i => ((l.length + 1 : Nat) - i.1).toNat) (fun _ => (l.foldl (fun m y => if y < m then y else m) a, ())) ?_ _ ⟨0, by omega, rfl⟩
   rintro i ⟨k, hk, rfl⟩
   simp only [aGI, aaM]
   rcases zr k l.length with h1 | h1
   ·left
    refine ⟨(((k + 1 + 1 : Nat) : Int), (l.take (k + 1)).foldl (fun m y => if y < m then y else m) a, ()), ?_, ⟨k + 1, by omega, rfl⟩, by simp only; omega, ze⟩
    refine uT (by (try simp only [yp, yv, zV, xh, beq_eq_false_iff_ne, bne_eq_false_iff_eq, zU, yP]) <;> (try simp only [aaB, inb, inc, ge_iff_le, gt_iff_lt, zp, asT, ne_eq]) <;> simp only [zG] <;> omega) (uN ⟨by omega, by (try simp only [aaB, inb, inc, ge_iff_le, gt_iff_lt, zp, asT, ne_eq]); simp only [zG]; omega⟩ ?_)
    repeat refine za ?_
    rw [zO h1, List.foldl_append]
    have e : (a :: l).getD (k + 1) 0 = l[k] := by simp [h1]
    rw [e, aaA (x := ((k + 1 : Nat) : Int) + 1) zc]
    rfl
   ·right
    refine uF (by (try simp only [yp, yv, zV, xh, beq_eq_false_iff_ne, bne_eq_false_iff_eq, zU, yP]) <;> (try simp only [aaB, inb, inc, ge_iff_le, gt_iff_lt, zp, asT, ne_eq]) <;> simp only [zG] <;> omega) ?_
    rw [zu h1]; rfl
  ·cases h
theorem aKg (x : List Int) (y) (h : axJ (x, ()) = some y) : (aER x).toO = some y := by
 unfold axJ at h
 cases x with
 | nil => cases h
 | cons a l =>
  simp only at h
  split at h
  ·rename_i hl
   injection h with h
   subst h
   unfold aER
   refine uL () (uF (by (try simp only [yp, yv, zV, xh, beq_eq_false_iff_ne, bne_eq_false_iff_eq, zU, yP]) <;> (try simp only [aaB, inb, inc, ge_iff_le, gt_iff_lt, zp, asT, ne_eq]) <;> simp only [zG] <;> omega) rfl) ?_
   refine uN ⟨by simp [asT], by (try simp only [aaB, inb, inc, ge_iff_le, gt_iff_lt, zp, asT, ne_eq]); simp only [zG]; omega⟩ ?_
   refine uO (1, a, ()) rfl ?_
   refine aaL (fun i : Int × Int × Unit => ∃ k : Nat, k ≤ l.length ∧ i = (((k + 1 : Nat) : Int), (l.take k).foldl (fun m y => if y > m then y else m) a, ())) (fun i => ((l.length + 1 : Nat) - i.1).toNat) (fun _ => (l.foldl (fun m y => if y > m then y else m) a, ())) ?_ _ ⟨0, by omega, rfl⟩
   rintro i ⟨k, hk, rfl⟩
   simp only [aGJ, aaM]
   rcases zr k l.length with h1 | h1
   ·left
    refine ⟨(((k + 1 + 1 : Nat) : Int), (l.take (k + 1)).foldl (fun m y => if y > m then y else m) a, ()), ?_, ⟨k + 1, by omega, rfl⟩, by simp only; omega, ze⟩
    refine uT (by (try simp only [yp, yv, zV, xh, beq_eq_false_iff_ne, bne_eq_false_iff_eq, zU, yP]) <;> (try simp only [aaB, inb, inc, ge_iff_le, gt_iff_lt, zp, asT, ne_eq]) <;> simp only [zG] <;> omega) (uN ⟨by omega, by (try simp only [aaB, inb, inc, ge_iff_le, gt_iff_lt, zp, asT, ne_eq]); simp only [zG]; omega⟩ ?_)
    repeat refine za ?_
    rw [zO h1, List.foldl_append]
    have e : (a :: l).getD (k + 1) 0 = l[k] := by simp [h1]
    rw [e, aaA (x := ((k + 1 : Nat) : Int) + 1) zc]
    rfl
   ·right
    refine uF (by (try simp only [yp, yv, zV, xh, beq_eq_false_iff_ne, bne_eq_false_iff_eq, zU, yP]) <;> (try simp only [aaB, inb, inc, ge_iff_le, gt_iff_lt, zp, asT, ne_eq]) <;> simp only [zG] <;> omega) ?_
    rw [zu h1]; rfl
  ·cases h
theorem aGn (l : List Int) (y) (h : axO (l, ()) = some y) : (aEf l).toO = some y := uC _ h rfl
theorem ayW (l : List Int) (y) (h : al8 (l, ()) = some y) : (atJ l).toO = some y := uC _ h rfl
theorem alN (q : Rat) (n : Int) : n ≤ fl q ↔ (n : Rat) ≤ q := by
 unfold fl
 rw [Rat.le_iff, xK (by have := q.den_pos; omega)]
 simp
theorem aCG (a b : Rat) : a < b ∨ a = b ∨ b < a := by grind
theorem aIY {q : Rat} {n : Int} (h1 : (n : Rat) ≤ q) (h2 : q < ((n + 1 : Int) : Rat)) : fl q = n := by
 have e1 := (alN q n).2 h1
 have e2 : ¬ (n + 1 ≤ fl q) := fun h => by
  have := (alN q (n + 1)).1 h
  exact absurd h2 (vD.2 this)
 omega
theorem aQ4 (q : Rat) : ((fl q : Int) : Rat) ≤ q := (alN q _).1 (Int.le_refl _)
theorem aRE (q : Rat) : q < ((fl q + 1 : Int) : Rat) := by
 rcases Rat.not_le.1 (fun h => by have := (alN q (fl q + 1)).2 h; omega) with h
 exact h
theorem aGs {x : Rat} {n : Int} (hn : fl (x + 1 / 2) = n) : (x = n → fl x = n ∧ -fl (-x) = n) ∧ (x < n → fl x = n - 1 ∧ -fl (-x) = n) ∧ ((n : Rat) < x → fl x = n ∧ -fl (-x) = n + 1) := by
 have a1 := aQ4 (x + 1 / 2)
 have a2 := aRE (x + 1 / 2)
 rw [hn] at a1 a2
 rw [xU] at a2
 refine ⟨fun h => ⟨aIY ?_ ?_, ?_⟩, fun h => ⟨aIY ?_ ?_, ?_⟩, fun h => ⟨aIY ?_ ?_, ?_⟩⟩
 ·grind
 ·rw [xU]; grind
 ·have : fl (-x) = -n := aIY (by rw [wy]; grind) (by rw [xU, wy]; grind)
  omega
 ·rw [vE]; grind
 ·rw [xU, vE]; grind
 ·have : fl (-x) = -n := aIY (by rw [wy]; grind) (by rw [xU, wy]; grind)
  omega
 ·grind
 ·rw [xU]; grind
 ·have : fl (-x) = -n - 1 := aIY (by rw [vE, wy]; grind) (by rw [xU, vE, wy]; grind)
  omega
theorem aeF {n : Int} {d : Nat} (hd : d ≠ 0) (h1 : Fit n) (h2 : Fit d) : aeI (mkRat n d) := by
 obtain ⟨g, t, hg, g0, e0, e1, e2⟩ := aeD n hd
 refine ⟨aeZ h1 ?_, aeZ h2 ?_⟩
 ·rw [e1, ← acS e0 g0]; exact xx _ _
 ·rw [e2]; simp only [zQ]; exact xx _ _
theorem aKT {n : Int} {d : Nat} (hd : d ≠ 0) (h1 : Fit n) (h2 : Fit d) : ofQ n d = (fx (mkRat n d), 0, ()) := by
 unfold ofQ
 rw [if_neg zc, wM, aEy (aeF hd h1 h2)]
theorem aRl {n : Int} {d : Nat} (hn : abD n) (hd : d ≠ 0) (h2 : d ≤ 9223372036854775807) : al6 (n, (d : Int), ()) = some (fx (mkRat n d), 0, ()) := by
 have hd2 : abD (d : Int) := ⟨by omega, by omega⟩
 unfold al6
 rw [if_pos ⟨hn, hd2⟩]
 simp only [aKT hd (abG hn) (abG hd2)]
theorem apB (n : Int) {d : Nat} (hd : d ≠ 0) : mkRat n d * (d : Rat) = (n : Rat) := by
 rw [Rat.mkRat_eq_div]
 exact Rat.div_mul_cancel (by simpa using hd)
theorem aQX (q : Rat) : apA q 1000000000000 = fl (q * akV + 1 / 2) := by
 unfold apA akV
 rw [show mkRat 1 2 = (1 / 2 : Rat) by rw [Rat.mkRat_eq_div]; rfl]
theorem aEh (a : FxT) (y) (h : afY (a, ()) = some y) : (asA a).toO = some y := by
 unfold afY at h
 dsimp only at h
 unfold asA
 cases ha : rdF a with
 | none =>
  simp only [ha] at h
  exact uC (0, 20, ()) (by unfold akO; dsimp only; rw [show rdF (a.1, a.2.1, ()) = none from ha]) (uT rfl h)
 | some q =>
  simp only [ha] at h
  have hq := (aoU ha).1
  have hnear : akO ((a.1, a.2.1, ()), 1000000000000, ()) = some (if abD (apA q 1000000000000) then (apA q 1000000000000, 0, ()) else (0, 6, ())) := by
   unfold akO
   dsimp only
   rw [show rdF (a.1, a.2.1, ()) = some q from ha]
   simp only
   rw [if_neg zc]
   rfl
  rw [aQX] at hnear
  have hst := aGs (x := q * akV) rfl
  generalize hn : fl (q * akV + 1 / 2) = n at *
  unfold af8 mkB at h
  by_cases hi : abD n
  ·rw [if_pos hi] at hnear
   refine uC _ hnear (uF rfl ?_)
   have hof := aRl (n := n) (d := 1000000000000) hi zc zc
   refine uC _ hof (uF rfl ?_)
   have hfr : aeI (mkRat n 1000000000000) := aeF zc (abG hi) (abG ⟨by omega, by omega⟩)
   have hm := apB n (d := 1000000000000) zc
   have hcmp : ahL ((a.1, a.2.1, ()), (dec (mkRat n 1000000000000).num, aa3 (mkRat n 1000000000000).den, ()), ()) = some (ax6 q (mkRat n 1000000000000), 0, ()) := by
    unfold ahL
    simp only [show rdF (a.1, a.2.1, ()) = some q from ha, agB hfr]
   refine uC _ hcmp (uF rfl ?_)
   refine uC _ (amA n n) ?_
   have hx : akV = ((1000000000000 : Nat) : Rat) := rfl
   generalize mkRat n 1000000000000 = r at *
   rw [← hx] at hm
   have hone : (0 : Rat) < akV := by rw [hx]; decide
   have hlt : q < r ↔ q * akV < n := by rw [← hm]; exact (vF hone).symm
   have heq : q = r ↔ q * akV = n := by
    rw [← hm]
    constructor
    ·rintro rfl; rfl
    ·intro h
     rcases aCG q r with c | c | c
     ·have := (vF hone).2 c; grind
     ·exact c
     ·have := (vF hone).2 c; grind
   generalize q * akV = x at *
   by_cases hv : okB n n
   ·refine uF (by rw [zo hv]; rfl) ?_
    obtain ⟨v1, v2, v3⟩ := hv
    have key : ∀ lo hi : Int, w64 (n + if 0 < ax6 q r then 0 else ax6 q r) = lo → w64 (n + if 0 > ax6 q r then 0 else ax6 q r) = hi → fl x = lo ∧ -fl (-x) = hi → (TT.call (ah9 (w64 (n + if 0 < ax6 q r then 0 else ax6 q r), w64 (n + if 0 > ax6 q r then 0 else ax6 q r), ())) (Ty.dflt (Ty.pair tK ux)) fun y4 => TT.ok ((y4.1.1, y4.1.2.1, ()), y4.2.1, ())).toO = some y := by
     intro lo hi' h1 h2 h3
     rw [h1, h2]
     refine uC (mkB 6 lo hi') rfl ?_
     rw [h3.1, h3.2] at h
     exact h
    refine key _ _ rfl rfl ?_
    unfold ax6
    by_cases c1 : q < r
    ·rw [if_pos c1]
     obtain ⟨g1, g2⟩ := hst.2.1 (hlt.1 c1)
     rw [if_neg zc, if_pos zc, aaA zc, aaA zc, g1, g2]
     omega
    ·rw [if_neg c1]
     by_cases c2 : q = r
     ·rw [if_pos c2]
      obtain ⟨g1, g2⟩ := hst.1 (heq.1 c2)
      rw [if_neg zc, aaA zc, g1, g2]
      omega
     ·rw [if_neg c2]
      have c3 : (n : Rat) < x := by
       rcases aCG x n with c | c | c
       ·exact absurd (hlt.2 c) c1
       ·exact absurd (heq.2 c) c2
       ·exact c
      obtain ⟨g1, g2⟩ := hst.2.2 c3
      rw [if_pos zc, if_neg zc, aaA zc, aaA zc, g1, g2]
      omega
   ·refine uT (by rw [zn hv]; rfl) ?_
    rw [if_neg] at h
    ·exact h
    ·intro hok
     apply hv
     unfold okB at hok ⊢
     rcases aCG x n with c | c | c
     ·have := hst.2.1 c; omega
     ·have := hst.1 c; omega
     ·have := hst.2.2 c; omega
  ·rw [if_neg hi] at hnear
   refine uC _ hnear (uT rfl ?_)
   rw [if_neg] at h
   ·exact h
   ·intro hok
    apply hi
    unfold okB at hok
    unfold abD
    rcases aCG (q * akV) n with c | c | c
    ·have := hst.2.1 c; omega
    ·have := hst.1 c; omega
    ·have := hst.2.2 c; omega
theorem aHD (lo hi : Int) : ah9 (lo, hi, ()) = some (mkB 6 lo hi) := rfl
theorem aQZ {α : Type} {R : Int × Unit → Option ((Int × Unit) ⊕ α)} {a : α} (ok0 ok1 : Prop) [Decidable ok0] [Decidable ok1] {e z : α}
  (h0 : R (0, ()) = if ok0 then some (.inl (1, ())) else some (.inr e)) (h1 : R (1, ()) = if ok1 then some (.inl (2, ())) else some (.inr e)) (h2 : ok0 → ok1 → R (2, ()) = some (.inr z))
  (hz : a = if ok0 ∧ ok1 then z else e) : acW R (0, ()) = some a := by
 subst hz
 by_cases c0 : ok0
 ·rw [if_pos c0] at h0
  rw [acL h0]
  by_cases c1 : ok1
  ·rw [if_pos c1] at h1
   rw [acL h1, ab8 (h2 c0 c1), if_pos ⟨c0, c1⟩]
  ·rw [if_neg c1] at h1
   rw [ab8 h1, if_neg (fun h => c1 h.2)]
 ·rw [if_neg c0] at h0
  rw [ab8 h0, if_neg (fun h => c0 h.1)]
theorem aMS (a b : BdT) (y) (h : aGu (a, b, ()) = some y) : (aGq a b).toO = some y := by
 injection h with h
 unfold aGq
 refine uV (uV (uO (0, ()) rfl ?_))
 refine aQZ (okB a.1 a.2.1) (okB b.1 b.2.1) (z := mkB 6 (a.1 + b.1) (a.2.1 + b.2.1)) ?_ ?_ ?_ h.symm
 ·by_cases c : okB a.1 a.2.1
  ·rw [if_pos c]
   unfold apY
   refine uT zf (uN zf (uC (decide (okB a.1 a.2.1), ()) rfl (uF (by rw [zo c]; rfl) ?_)))
   repeat refine za ?_
   rfl
  ·rw [if_neg c]
   unfold apY
   exact uT zf (uN zf (uC (decide (okB a.1 a.2.1), ()) rfl (uT (by rw [zn c]; rfl) rfl)))
 ·by_cases c : okB b.1 b.2.1
  ·rw [if_pos c]
   unfold apY
   refine uT zf (uN zf (uC (decide (okB b.1 b.2.1), ()) rfl (uF (by rw [zo c]; rfl) ?_)))
   repeat refine za ?_
   rfl
  ·rw [if_neg c]
   unfold apY
   exact uT zf (uN zf (uC (decide (okB b.1 b.2.1), ()) rfl (uT (by rw [zn c]; rfl) rfl)))
 ·intro c0 c1
  obtain ⟨u1, u2, u3⟩ := c0
  obtain ⟨w1, w2, w3⟩ := c1
  refine uF zf (uV (uV ?_))
  rw [aaA (x := a.1 + b.1) zc, aaA (x := a.2.1 + b.2.1) zc]
  exact uC _ (aHD _ _) rfl
theorem aJy (a b : BdT) (y) (h : aqI (a, b, ()) = some y) : (aB6 a b).toO = some y := by
 injection h with h
 unfold aB6
 refine uV (uV (uV (uV (uO (0, ()) rfl ?_))))
 refine aQZ (okB a.1 a.2.1) (okB b.1 b.2.1) (z := ((min a.1 b.1, max a.2.1 b.2.1, ()), 0, ())) ?_ ?_ ?_ h.symm
 ·by_cases c : okB a.1 a.2.1
  ·rw [if_pos c]
   unfold alX
   refine uT zf (uN zf (uC (decide (okB a.1 a.2.1), ()) rfl (uF (by rw [zo c]; rfl) ?_)))
   repeat refine za ?_
   rfl
  ·rw [if_neg c]
   unfold alX
   exact uT zf (uN zf (uC (decide (okB a.1 a.2.1), ()) rfl (uT (by rw [zn c]; rfl) rfl)))
 ·by_cases c : okB b.1 b.2.1
  ·rw [if_pos c]
   unfold alX
   refine uT zf (uN zf (uC (decide (okB b.1 b.2.1), ()) rfl (uF (by rw [zo c]; rfl) ?_)))
   repeat refine za ?_
   rfl
  ·rw [if_neg c]
   unfold alX
   exact uT zf (uN zf (uC (decide (okB b.1 b.2.1), ()) rfl (uT (by rw [zn c]; rfl) rfl)))
 ·intro c0 c1
  obtain ⟨u1, u2, u3⟩ := c0
  obtain ⟨w1, w2, w3⟩ := c1
  refine uF zf (uV (uV ?_))
  by_cases he : a.1 = b.1 ∧ a.2.1 = b.2.1
  ·refine uT ?_ ?_
   ·rw [he.1, he.2]; simp
   ·rw [aaH, he.1, he.2, Int.min_self, Int.max_self]
  ·refine uF ?_ ?_
   ·by_cases e1 : a.1 = b.1
    ·have e2 : a.2.1 ≠ b.2.1 := fun h => he ⟨e1, h⟩
     have b1 : (a.1 == b.1) = true := by rw [e1]; simp
     have b2 : (a.2.1 == b.2.1) = false := by rw [beq_eq_false_iff_ne]; exact e2
     rw [b1, b2]
    ·have b1 : (a.1 == b.1) = false := by rw [beq_eq_false_iff_ne]; exact e1
     rw [b1]
   refine uV ?_
   refine uC (if b.1 < a.1 then b.1 else a.1, ()) rfl ?_
   refine uC (if b.2.1 > a.2.1 then b.2.1 else a.2.1, ()) rfl ?_
   have m1 : (if b.1 < a.1 then b.1 else a.1) = min a.1 b.1 := by rw [Int.min_def]; split <;> split <;> omega
   have m2 : (if b.2.1 > a.2.1 then b.2.1 else a.2.1) = max a.2.1 b.2.1 := by rw [Int.max_def]; split <;> split <;> omega
   simp only [m1, m2]
   refine uF sd rfl
theorem aGo (b : BdT) (lo hi : Int) (y) (h : ajN (b, lo, hi, ()) = some y) : (aw9 b lo hi).toO = some y := by
 injection h with h
 unfold aw9
 refine uV (uV (uO (0, ()) rfl ?_))
 unfold aAn at h
 dsimp only at h
 by_cases c : okB b.1 b.2.1
 ·rw [if_pos c] at h
  have h0 : (ai5 b lo hi (0, ())).toO = some (.inl (1, ())) := by
   unfold ai5
   refine uT zf (uN zf (uC (decide (okB b.1 b.2.1), ()) rfl (uF (by rw [zo c]; rfl) ?_)))
   repeat refine za ?_
   rfl
  rw [acL h0]
  refine ab8 ?_
  unfold ai5
  refine uF zf (uV (uV (uC _ (amA lo hi) ?_)))
  by_cases c2 : okB lo hi
  ·rw [if_pos c2] at h
   refine uF (by rw [zo c2]; rfl) ?_
   have m : ∀ x : Int, (if hi < if lo > x then lo else x then hi else if lo > x then lo else x) = min (max x lo) hi := by
    intro x
    rw [Int.min_def, Int.max_def]
    split <;> split <;> split <;> omega
   simp only [m]
   refine uC _ (aHD _ _) ?_
   unfold okB at c c2
   unfold mkB
   rw [if_pos (by unfold okB; omega), ← h]
   rfl
  ·rw [if_neg c2] at h
   exact uT (by rw [zn c2]; rfl) (by rw [← h]; rfl)
 ·rw [if_neg c] at h
  refine ab8 ?_
  unfold ai5
  exact uT zf (uN zf (uC (decide (okB b.1 b.2.1), ()) rfl (uT (by rw [zn c]; rfl) (by rw [← h]; rfl))))
theorem aOK (n : Nat) : aa3 (10 ^ n) = 49 :: List.replicate n 48 := by
 induction n with
 | zero => rw [Nat.pow_zero, abK zc]; rfl
 | succ n ih =>
  have h1 : 1 ≤ 10 ^ n := xl zc
  rw [yA, ae1 zc, wz _ zc, Nat.mul_mod_left, ih, wK]
  rfl
theorem aQ3 (n : Nat) : (List.replicate n ([48] : List UInt8)).flatten = List.replicate n 48 := by
 induction n with
 | zero => rfl
 | succ n ih => rw [xi, List.flatten_cons, ih, xi]; rfl
theorem axW {n : Nat} (h : n ≤ 1000) : ahI ((n : Int), ()) = some (aa3 (10 ^ n), ()) := aaK (enc := fun x : Nat => ((x : Int), ())) n h (fun b hb => Int.ofNat.inj (Prod.mk.inj hb).1)
theorem aA9 (n : Int) (y) (h : ahI (n, ()) = some y) : (anW n).toO = some y := by
 obtain ⟨k, hp, hx, rfl⟩ := aaE h
 obtain ⟨rfl, -⟩ := Prod.mk.inj hx
 unfold anW
 refine uC (List.replicate k 48, ()) ?_ ?_
 ·unfold aHv
  rw [if_pos ⟨by simp only; omega, by simp only; omega, by show 1 ≤ 1000; omega⟩]
  simp only [zp]
  rw [aQ3]
 ·refine uN ?_ ?_
  ·simp only [xQ]
   show 1 + k ≤ lim
   unfold lim; omega
  ·rw [aOK]; rfl
theorem ajR {n : Nat} (h : Fit (n : Int)) : rdW (aa3 n) = some (n : Int) := by rw [← ae0]; exact ak6 h
theorem aMk {p q : Nat × Nat} (h : (aa3 p.1, (p.2 : Int), ()) = (aa3 q.1, (q.2 : Int), ())) : p = q := by
 obtain ⟨h1, h2⟩ := Prod.mk.inj h
 obtain ⟨h2, -⟩ := Prod.mk.inj h2
 exact Prod.ext (aj7 h1) (Int.ofNat.inj h2)
theorem aHz {n k : Nat} (h1 : Fit (n : Int)) (h2 : 1 ≤ k) (h3 : k ≤ 12) : ap9 (aa3 n, (k : Int), ()) = some (aa3 (adM k n), decide (adM k n ^ k = n), 0, ()) := aaK (enc := fun x : Nat × Nat => (aa3 x.1, (x.2 : Int), ())) (n, k) ⟨h1, h2, h3⟩ (fun b hb => aMk hb)
theorem aIk (a : List UInt8) (k : Int) (y) (h : ap9 (a, k, ()) = some y) : (aBa a k).toO = some y := by
 obtain ⟨⟨n, j⟩, hp, hx, rfl⟩ := aaE h
 obtain ⟨rfl, hx2⟩ := Prod.mk.inj hx; obtain ⟨rfl, -⟩ := Prod.mk.inj hx2; dsimp only
 obtain ⟨h1, h2, h3⟩ := hp
 simp only at h1 h2 h3
 obtain ⟨s1, s2⟩ := amK n h2
 have hle := auB (n := n) h2
 have f1 : Fit (adM j n : Int) := aeZ h1 (by simp only [zQ]; exact hle)
 have f2 : Fit ((adM j n ^ j : Nat) : Int) := aeZ h1 (by simp only [zQ]; exact s1)
 unfold aBa
 refine uC (aa3 (adM j n), 0, ()) ?_ (uF rfl ?_)
 ·unfold ap3
  dsimp only
  rw [ajR h1]
  dsimp only
  rw [if_neg zc, zp, zQ, aiC f1, ae0]
 refine uC (aa3 (adM j n ^ j), 0, ()) ?_ (uF rfl ?_)
 ·unfold al2
  dsimp only
  rw [ajR f1]
  dsimp only
  rw [if_neg zc, zp, ← wx, aiC f2, ae0]
 ·rw [aaH]
  have : (aa3 (adM j n ^ j) == aa3 n) = decide (adM j n ^ j = n) := by
   by_cases c : adM j n ^ j = n
   ·rw [c, zo rfl]; simp
   ·rw [zn c, beq_eq_false_iff_ne]
    exact fun h => c (aj7 h)
  rw [this]
theorem afZ {n : Nat} {u : Bool} (h1 : Fit (n : Int)) : acG (aa3 n, u, ()) = some (if n > 1000000000000000000 then (0, 6, ()) else ((n : Int) + (if u then 1 else 0), 0, ())) := by
 refine aaK (enc := fun x : Nat × Bool => (aa3 x.1, x.2, ())) (n, u) h1 (fun b hb => ?_)
 obtain ⟨e1, e2⟩ := Prod.mk.inj hb
 obtain ⟨e2, -⟩ := Prod.mk.inj e2
 exact Prod.ext (aj7 e1) e2
theorem aBb (a : List UInt8) (u : Bool) (y) (h : acG (a, u, ()) = some y) : (anX a u).toO = some y := by
 obtain ⟨⟨n, v⟩, hp, hx, rfl⟩ := aaE h
 obtain ⟨rfl, hx2⟩ := Prod.mk.inj hx; obtain ⟨rfl, -⟩ := Prod.mk.inj hx2; dsimp only
 simp only at hp
 unfold anX
 have hi : akK (aa3 n, ()) = some (if abD n then ((n : Int), 0, ()) else (0, 6, ())) := by rw [← ae0]; exact axT hp
 by_cases c : abD n
 ·rw [if_pos c] at hi
  unfold abD at c
  refine uC _ hi (uF rfl ?_)
  by_cases c2 : n > 1000000000000000000
  ·rw [if_pos c2]
   exact uT (zo zk) rfl
  ·rw [if_neg c2]
   refine uF (zn zk) ?_
   cases u
   ·exact uF rfl (by simp [aaH])
   ·refine uT rfl ?_
    rw [aaH, aaA zk]; rfl
 ·rw [if_neg c] at hi
  unfold abD at c
  rw [if_pos zc]
  exact uC _ hi (uT rfl rfl)
theorem aC1 (e : Int × Int × Unit) (y) (h : asG (e, ()) = some y) : (aq9 e).toO = some y := by
 injection h with h
 subst h
 unfold aq9
 by_cases h1 : e.1 ≥ 1
 ·refine uT (zo h1) ?_
  by_cases h2 : e.1 ≤ 36
  ·refine uT (zo h2) ?_
   by_cases h3 : e.2.1 ≥ 1
   ·refine uT (zo h3) ?_
    rw [aaH]
    congr 2
    exact decide_eq_decide.2 ⟨fun h => ⟨h1, h2, h3, h⟩, fun h => h.2.2.2⟩
   ·refine uF (zn h3) ?_
    rw [aaH, zn (fun h : okE e.1 e.2.1 => h3 h.2.2.1)]
  ·refine uF (zn h2) ?_
   rw [aaH, zn (fun h : okE e.1 e.2.1 => h2 h.2.1)]
 ·refine uF (zn h1) ?_
  rw [aaH, zn (fun h : okE e.1 e.2.1 => h1 h.1)]
theorem aQn (p q n : Nat) : (p ≤ q → n ^ p * 10 ^ (12 * q) / 10 ^ (12 * p) = n ^ p * 10 ^ (12 * (q - p)) ∧ n ^ p * 10 ^ (12 * q) = n ^ p * 10 ^ (12 * (q - p)) * 10 ^ (12 * p)) ∧ (q < p → n ^ p * 10 ^ (12 * q) / 10 ^ (12 * p) = n ^ p / 10 ^ (12 * (p - q)) ∧ (10 : Nat) ^ (12 * p) = 10 ^ (12 * (p - q)) * 10 ^ (12 * q)) := by
 constructor
 ·intro h
  have e : (10 : Nat) ^ (12 * q) = 10 ^ (12 * (q - p)) * 10 ^ (12 * p) := by rw [← xw]; congr 1; omega
  have h2 : n ^ p * 10 ^ (12 * q) = n ^ p * 10 ^ (12 * (q - p)) * 10 ^ (12 * p) := by rw [e, wj]
  exact ⟨by rw [h2, wz _ (xl zc)], h2⟩
 ·intro h
  have e : (10 : Nat) ^ (12 * p) = 10 ^ (12 * (p - q)) * 10 ^ (12 * q) := by rw [← xw]; congr 1; omega
  refine ⟨?_, e⟩
  rw [e, ← vj, vj, yJ (10 ^ (12 * (p - q))), ← vj, wz _ (xl zc)]
theorem amO {n k : Nat} (h : n < 10 ^ k) (hk : k ≤ 600) : Fit (n : Int) := by
 show (aa3 n).length ≤ 600
 have h2 : (aa3 n).length ≤ k + 1 := acF (yk h (yb zc zc))
 rcases zF k with h0 | h0
 ·omega
 ·have := (acQ h0).2 h
  omega
theorem aPZ {n K : Nat} (hK : K = 600) (h : ¬ Fit (n : Int)) : 10 ^ K ≤ n := by
 rcases zr n (10 ^ K) with h2 | h2
 ·exact absurd (amO h2 zc) h
 ·exact h2
theorem aQo {p q n : Nat} (hq : 1 ≤ q) (hq2 : q ≤ 12) (hp2 : p ≤ 36) (h : ¬ Fit ((n ^ p : Nat) : Int)) : aBK p q n > 1000000000000000000 := by
 obtain ⟨K, hK⟩ : ∃ K : Nat, K = 600 := ⟨_, rfl⟩
 have h1 := aPZ hK h
 unfold aBK
 obtain ⟨s1, s2⟩ := amK (n ^ p * 10 ^ (12 * q) / 10 ^ (12 * p)) hq
 generalize adM q (n ^ p * 10 ^ (12 * q) / 10 ^ (12 * p)) = v at *
 rcases zr 1000000000000000000 v with h2 | h2
 ·exact h2
 ·exfalso
  rw [yK (xl zc)] at s2
  have h3 : (v + 1) ^ q ≤ (10 ^ 19) ^ q := xj zc q
  have h4 : (10 ^ 19 : Nat) ^ q * 10 ^ (12 * p) ≤ 10 ^ K * 10 ^ (12 * q) := by
   rw [← xI, ← xw, ← xw]
   exact yb zc zc
  have h5 : (v + 1) ^ q * 10 ^ (12 * p) ≤ (10 ^ 19) ^ q * 10 ^ (12 * p) := zT _ h3
  have h6 : 10 ^ K * 10 ^ (12 * q) ≤ n ^ p * 10 ^ (12 * q) := zT _ h1
  generalize (v + 1) ^ q * 10 ^ (12 * p) = a1 at *
  generalize (10 ^ 19 : Nat) ^ q * 10 ^ (12 * p) = a2 at *
  generalize 10 ^ K * 10 ^ (12 * q) = a3 at *
  omega
theorem aBN (n : Nat) : (aa3 n == #[48].toList) = decide (n = 0) := by
 by_cases c : n = 0
 ·subst c; rw [abK zc]; rfl
 ·rw [zn c, beq_eq_false_iff_ne]
  intro h
  have h0 : aa3 0 = #[48].toList := by rw [abK zc]; rfl
  exact c (aj7 (h.trans h0.symm))
theorem aHy {p q n : Nat} {u : Bool} (h : okE p q) (hn : n ≤ 1000000000000000000) : ap8 ((((p : Int), (q : Int), ()), ()), (n : Int), u, ()) = some (ax8 p q n u) := by
 refine aaK (enc := fun x : (Nat × Nat) × Nat × Bool => ((((x.1.1 : Int), (x.1.2 : Int), ()), ()), (x.2.1 : Int), x.2.2, ())) ((p, q), n, u) ⟨h, hn⟩ (fun b hb => ?_)
 obtain ⟨⟨b1, b2⟩, b3, b4⟩ := b
 simp only [Prod.mk.injEq, Int.ofNat.injEq, Int.natCast_inj, and_true] at hb
 obtain ⟨⟨h1, h2⟩, h3, h4⟩ := hb
 rw [h1, h2, h3, h4]
theorem aIh (e : (Int × Int × Unit) × Unit) (n : Int) (u : Bool) (y) (h : ap8 (e, n, u, ()) = some y) : (aA6 e n u).toO = some y := by
 obtain ⟨⟨⟨p, q⟩, m, b⟩, hp, hx, rfl⟩ := aaE h
 obtain ⟨rfl, hx2⟩ := Prod.mk.inj hx
 obtain ⟨rfl, hx3⟩ := Prod.mk.inj hx2
 obtain ⟨rfl, -⟩ := Prod.mk.inj hx3
 obtain ⟨⟨p1, p2, q1, q2⟩, hm⟩ := hp
 dsimp only at p1 p2 q1 q2 hm ⊢
 have fm : Fit (m : Int) := abG ⟨by omega, by omega⟩
 unfold aA6
 dsimp only
 refine uC (aa3 m, ()) (by rw [aM6 ⟨by omega, by omega⟩, ae0]) ?_
 have hpow : al2 (aa3 m, (p : Int), ()) = some (wrW ((m ^ p : Nat) : Int)) := by
  unfold al2
  dsimp only
  rw [ajR fm]
  dsimp only
  rw [if_neg zc, zp, ← wx]
 obtain ⟨r1, r2⟩ := aQn p q m
 by_cases hf : Fit ((m ^ p : Nat) : Int)
 ·rw [aiC hf, ae0] at hpow
  refine uC _ hpow (uF rfl ?_)
  by_cases hpq : p ≤ q
  ·obtain ⟨e1, e2⟩ := r1 hpq
   refine uT sd ?_
   have ew : w64 (12 * w64 ((q : Int) - p)) = ((12 * (q - p) : Nat) : Int) := by rw [aaA (x := (q : Int) - p) zc, aaA zc]; omega
   refine uC (aa3 (10 ^ (12 * (q - p))), ()) (by rw [ew]; exact axW zc) ?_
   obtain ⟨K, hK⟩ : ∃ K : Nat, K = 400 := ⟨_, rfl⟩
   have hlt : m ^ p * 10 ^ (12 * (q - p)) < 10 ^ K := by
    have a1 : m ^ p ≤ (10 ^ 18) ^ p := xj zc p
    have a2 : (10 ^ 18 : Nat) ^ p * 10 ^ (12 * (q - p)) < 10 ^ K := by
     rw [← xI, ← xw]
     exact wN zc zc
    exact Nat.lt_of_le_of_lt (zT _ a1) a2
   have hfm : Fit ((m ^ p * 10 ^ (12 * (q - p)) : Nat) : Int) := amO hlt zc
   have hft : Fit ((10 ^ (12 * (q - p)) : Nat) : Int) := amO (k := K) (wN zc zc) zc
   have hmul : asE (aa3 (m ^ p), aa3 (10 ^ (12 * (q - p))), ()) = some (aa3 (m ^ p * 10 ^ (12 * (q - p))), 0, ()) := by
    unfold asE
    dsimp only
    rw [ajR hf, ajR hft]
    dsimp only
    rw [← yx, aiC hfm, ae0]
   refine uC _ hmul (uF rfl ?_)
   refine uC _ (aHz hfm zc zc) (uF rfl ?_)
   have hv : adM q (m ^ p * 10 ^ (12 * (q - p))) = aBK p q m := by unfold aBK; rw [e1]
   have hfv : Fit (aBK p q m : Int) := by rw [← hv]; exact aeZ hfm zl
   have hex : decide (adM q (m ^ p * 10 ^ (12 * (q - p))) ^ q = m ^ p * 10 ^ (12 * (q - p))) = decide (aBK p q m ^ q * 10 ^ (12 * p) = m ^ p * 10 ^ (12 * q)) := by
    rw [hv, e2]
    exact decide_eq_decide.2 ⟨fun h => by rw [h], fun h => Nat.eq_of_mul_eq_mul_right (xl zc) h⟩
   unfold ax8
   rw [hex, hv]
   dsimp only
   cases u
   ·refine uF rfl (uC _ (afZ hfv) ?_)
    simp only [yl, false_and, if_false]
    rfl
   ·refine uT rfl ?_
    by_cases c : aBK p q m ^ q * 10 ^ (12 * p) = m ^ p * 10 ^ (12 * q)
    ·refine uT (zo c) (uC _ (show acG (aa3 (aBK p q m), (!#[48].toList == #[48].toList), ()) = some _ from afZ (u := false) hfv) ?_)
     simp only [yl, if_false, c, ne_eq, not_true_eq_false, and_false]
     rfl
    ·refine uF (zn c) (uC _ (afZ (u := !false) hfv) ?_)
     simp only [wC, if_true, c, ne_eq, not_false_eq_true, and_self]
     rfl
  ·obtain ⟨e1, e2⟩ := r2 zc
   refine uF sd ?_
   have ew : w64 (12 * w64 ((p : Int) - q)) = ((12 * (p - q) : Nat) : Int) := by rw [aaA (x := (p : Int) - q) zc, aaA zc]; omega
   refine uC (aa3 (10 ^ (12 * (p - q))), ()) (by rw [ew]; exact axW zc) ?_
   obtain ⟨K, hK⟩ : ∃ K : Nat, K = 600 := ⟨_, rfl⟩
   have hft : Fit ((10 ^ (12 * (p - q)) : Nat) : Int) := amO (k := K) (wN zc zc) zc
   have hD : 0 < 10 ^ (12 * (p - q)) := xl zc
   have hdiv : asF (aa3 (m ^ p), aa3 (10 ^ (12 * (p - q))), ()) = some (aa3 (m ^ p / 10 ^ (12 * (p - q))), aa3 (m ^ p % 10 ^ (12 * (p - q))), 0, ()) := by
    unfold asF
    dsimp only
    rw [ajR hf, ajR hft]
    dsimp only
    rw [if_neg zc, ← Int.natCast_ediv, ← Int.natCast_emod, ae0, ae0]
   refine uC _ hdiv (uF rfl ?_)
   have hfm : Fit ((m ^ p / 10 ^ (12 * (p - q)) : Nat) : Int) := aeZ hf (by simp only [zQ]; exact xx _ _)
   refine uC _ (aHz hfm zc zc) (uF rfl ?_)
   have hv : adM q (m ^ p / 10 ^ (12 * (p - q))) = aBK p q m := by unfold aBK; rw [e1]
   have hfv : Fit (aBK p q m : Int) := by rw [← hv]; exact aeZ hfm zl
   have hex : (aBK p q m ^ q = m ^ p / 10 ^ (12 * (p - q)) ∧ m ^ p % 10 ^ (12 * (p - q)) = 0) ↔ aBK p q m ^ q * 10 ^ (12 * p) = m ^ p * 10 ^ (12 * q) := by
    rw [e2, ← wj]
    have hdm := xS (m ^ p) (10 ^ (12 * (p - q)))
    constructor
    ·rintro ⟨h1, h2⟩
     rw [h1]
     rw [h2, zv, yJ] at hdm
     rw [hdm]
    ·intro h
     have h3 := Nat.eq_of_mul_eq_mul_right (xl zc) h
     constructor
     ·rw [← h3, wz _ hD]
     ·rw [← h3, Nat.mul_mod_left]
   unfold ax8
   rw [hv]
   dsimp only
   cases u
   ·refine uF rfl (uC _ (afZ hfv) ?_)
    simp only [yl, false_and, if_false]
    rfl
   ·refine uT rfl ?_
    by_cases c1 : aBK p q m ^ q = m ^ p / 10 ^ (12 * (p - q))
    ·refine uT (zo c1) ?_
     rw [aBN]
     refine uC _ (afZ hfv) ?_
     by_cases c2 : m ^ p % 10 ^ (12 * (p - q)) = 0
     ·have c := hex.1 ⟨c1, c2⟩
      simp only [zo c2, Bool.not_true, yl, if_false, c, ne_eq, not_true_eq_false, and_false]
      rfl
     ·have c : ¬ _ := fun h => c2 (hex.2 h).2
      simp only [zn c2, wC, if_true, c, ne_eq, not_false_eq_true, and_self]
      rfl
    ·refine uF (zn c1) (uC _ (afZ (u := !false) hfv) ?_)
     have c : ¬ _ := fun h => c1 (hex.2 h).1
     simp only [wC, if_true, c, ne_eq, not_false_eq_true, and_self]
     rfl
 ·rw [aqQ hf] at hpow
  refine uC _ hpow (uT rfl ?_)
  have := aQo (q := q) (n := m) zc zc zc hf
  unfold ax8
  rw [if_pos this]
  rfl
theorem aAh (p q n : Nat) (u : Bool) : (ax8 p q n u).2.1 = 0 ∨ (ax8 p q n u).2.1 = 6 := by
 unfold ax8
 split
 ·right; rfl
 ·left; rfl
theorem aFh (b : BdT) (p q : Int) (y) (h : axN (b, p, q, ()) = some y) : (avI b p q).toO = some y := by
 injection h with h
 unfold aJP at h
 dsimp only at h
 unfold avI
 refine uC (if okB b.1 b.2.1 then 0 else 30, ()) rfl ?_
 by_cases c : okB b.1 b.2.1
 ·rw [if_pos c] at h ⊢
  refine uF rfl ?_
  refine uC (decide (okE p q), ()) rfl ?_
  by_cases c2 : okE p q
  ·refine uF (by rw [zo c2]; rfl) ?_
   by_cases c3 : b.1 < 0
   ·rw [if_neg (fun h => by have := h.2; omega)] at h
    exact uT (zo c3) (by rw [← h]; rfl)
   ·rw [if_pos ⟨c2, by omega⟩] at h
    obtain ⟨k1, k2, k3⟩ := c
    refine uF (zn c3) (uV (uV ?_))
    obtain ⟨P, rfl⟩ := zw (show 0 ≤ p by have := c2.1; omega)
    obtain ⟨Q, rfl⟩ := zw (show 0 ≤ q by have := c2.2.2.1; omega)
    obtain ⟨lo, hlo⟩ := zw (show 0 ≤ b.1 by omega)
    obtain ⟨hi, hhi⟩ := zw (show 0 ≤ b.2.1 by omega)
    rw [hlo, hhi] at h ⊢
    simp only [zp] at h
    refine uC _ (aHy c2 zc) ?_
    by_cases d1 : (ax8 P Q lo false).2.1 ≠ 0
    ·rw [if_pos d1] at h
     refine uT (by simpa using d1) ?_
     have : (ax8 P Q lo false).2.1 = 6 := by rcases aAh P Q lo false with e | e <;> omega
     rw [this, ← h]; rfl
    ·rw [if_neg d1] at h
     refine uF (by simpa using d1) ?_
     refine uC _ (aHy c2 zc) ?_
     by_cases d2 : (ax8 P Q hi true).2.1 ≠ 0
     ·rw [if_pos d2] at h
      refine uT (by simpa using d2) ?_
      have : (ax8 P Q hi true).2.1 = 6 := by rcases aAh P Q hi true with e | e <;> omega
      rw [this, ← h]; rfl
     ·rw [if_neg d2] at h
      refine uF (by simpa using d2) ?_
      unfold mkB at h
      refine uC (mkB 30 (ax8 P Q lo false).1 (ax8 P Q hi true).1) rfl ?_
      unfold mkB
      by_cases d3 : okB (ax8 P Q lo false).1 (ax8 P Q hi true).1
      ·rw [if_pos d3] at h ⊢
       exact uF rfl (by rw [← h]; rfl)
      ·rw [if_neg d3] at h ⊢
       exact uT rfl (by rw [← h]; rfl)
  ·rw [if_neg (fun h => c2 h.1)] at h
   exact uT (by rw [zn c2]; rfl) (by rw [← h]; rfl)
 ·rw [if_neg c] at h ⊢
  exact uT rfl (by rw [← h]; rfl)
set_option maxRecDepth 100000
open Go Go.Vg Go.Proofs
noncomputable section
def aJj : LTab := []
def ar5 (n : Int) (low : Int) (high : Int) : TT uk :=
 .ite (decide (low ≤ n))
 (.ok ((decide (n ≤ high), ())))
 (.ok ((false, ())))
def aOP : LTab := []
def aHr (n : Int) (d : Int) : TT (ub × Unit) :=
 .call (al6 (n, d, ())) af6 fun y =>
 .ok (((y.1.1, y.1.2.1, ()), ()))
def aGg : LTab := []
def awX (n : Int) : TT (ub × Unit) :=
 .call (abW (n, 1, ())) afF fun y =>
 .ok (((y.1.1, y.1.2.1, ()), ()))
def aB0 : LTab := []
def akC (x : List UInt8 × List UInt8 × Unit) : TT (ub × Unit) :=
 .call (aaF (0, ())) afF fun y =>
 .call (aaF (1, ())) afF fun y1 =>
 .tt <| .tt <| .tt <| .tt <| .call (ahL ((x.1, x.2.1, ()), (y.1.1, y.1.2.1, ()), ())) aCj fun y2 =>
 .ite (decide (y2.1 < 0))
 (.ok (((y.1.1, y.1.2.1, ()), ())))
 (.tt <| .tt <| .call (ahL ((x.1, x.2.1, ()), (y1.1.1, y1.1.2.1, ()), ())) aCj fun y3 =>
 .ite (decide (y3.1 > 0))
 (.ok (((y1.1.1, y1.1.2.1, ()), ())))
 (.ok (((x.1, x.2.1, ()), ()))))
def ayU : LTab := [(76, 3, 1024, ⟨0, (Bool) × Unit, .dat (.s 2) tw <| .nil, [0], [], 0⟩), (76, 58, 4096, ⟨1, (Int) × Unit, .dat (.s 15) vZ <| .nil, [14, 13], [], 0⟩)]
def alV (akT : List Int) (j : Bool × Unit) (i : (Int) × Unit) : TT uZ :=
 .ite (decide (i.1 < len akT))
 (.need (inb i.1 (len akT)) <| .call (acA (gi akT i.1 0, 0, 65535, ())) Dd1 fun y =>
 .ite (!y.1)
 (.ok (.inr ((false, ()))))
 (.tt <| .lt (w64 (i.1 + 1) : Int) fun z => .vI (vL z (len akT) akT) <| .tr <| .ok (.inl ((z, ())))))
 (.ok (.inr ((true, ()))))
def awZ (akT : List Int) (j : (Bool) × Unit) : TT uk :=
 .loop 1 (.tt <| .vI (vL (0 : Int) (len akT) akT) <| .tr <| .ok ((0, ()))) (alV akT j)
def aiM (akT : List Int) : TT uk :=
 .join 0 (ι := (Bool) × Unit) (.ite (decide (len akT < 2))
 (.ok (.inr ((false, ()))))
 (.ite (decide (len akT > 17))
 (.ok (.inr ((false, ()))))
 (.tt <| .vI (vU false akT) <| .tr <| .ok (.inl ((false, ())))))) (awZ akT)
def aJc : LTab := [(129, 26, 13312, ⟨0, (Int) × Unit, .dat (.s 17) vZ <| .nil, [16, 1], [0], 0⟩), (129, 7, 14336, ⟨1, Unit, .nil, [1], [0], 0⟩), (129, 124, 22528, ⟨2, (Int) × (Int) × Unit, .dat (.s 6) vZ <| .dat (.s 5) vZ <| .nil, [], [0], 0⟩)]
def awK (p : vY × Int × Bool × Unit) (i : Int × Unit) (j : Unit) (i1 : (Int) × (Int) × Unit) : TT (ur ⊕ uZ) :=
 .ite (i1.1 != 0)
 (.need (i1.1 ≠ 0) <| .tt <| .lt (Int.tmod i1.2.1 i1.1 : Int) fun z3 => .vI (vU i1.1 z3) <| .vI (vH (vS 122 p.1.1 p.1.2.1 p.1.2.2.1 p.1.2.2.2.1 p.1.2.2.2.2.1 p.1.2.2.2.2.2.1 p.2.1 <| vR p.2.2.1) True) <| .ok (.inl ((z3, i1.1, ()))))
 (.ok (.inr (.inr ((i1.2.1 == 1, ())))))
def aGa (p : vY × Int × Bool × Unit) (i : Int × Unit) (j : Unit) : TT uZ :=
 .loop 2 (.tt <| .lt (p.1.2.2.2.2.1 : Int) fun z1 => .lt (p.1.2.2.2.1 : Int) fun z2 => .vI (vU z2 z1) <| .vI (vH (vS 122 p.1.1 p.1.2.1 p.1.2.2.1 z2 z1 p.1.2.2.2.2.2.1 p.2.1 <| vR p.2.2.1) True) <| .ok ((z1, z2, ()))) (awK p i j)
def afM (p : vY × Int × Bool × Unit) (i : (Int) × Unit) : TT uZ :=
 .ite (decide (i.1 < 3))
 (.need (inb i.1 (↑3 : Int)) <| .call (acA (gi [p.1.2.1, p.1.2.2.1, p.1.2.2.2.2.2.1] i.1 0, -100000000, 100000000, ())) Dd1 fun y =>
 .ite (!y.1)
 (.ok (.inr ((false, ()))))
 (.tt <| .lt (w64 (i.1 + 1) : Int) fun z => .vI (vP z ([p.1.2.1, p.1.2.2.1, p.1.2.2.2.2.2.1] : List Int) <| ue ∧ True) <| .vI (vH (vS 122 p.1.1 p.1.2.1 p.1.2.2.1 p.1.2.2.2.1 p.1.2.2.2.2.1 p.1.2.2.2.2.2.1 p.2.1 <| vR p.2.2.1) True) <| .ok (.inl ((z, ())))))
 (.join 1 (ι := Unit) (.call (acA (p.1.1, w64 (p.2.1 + 1), 1000000, ())) Dd1 fun y1 =>
 .ite (!y1.1)
 (.ok (.inr (.inr ((false, ())))))
 (.call (acA (p.1.2.2.2.1, 1, 36, ())) Dd1 fun y2 =>
 .ite (!y2.1)
 (.ok (.inr (.inr ((false, ())))))
 (.call (acA (p.1.2.2.2.2.1, 1, 12, ())) Dd1 fun y3 =>
 .ite (!y3.1)
 (.ok (.inr (.inr ((false, ())))))
 (.tt <| .vI (ue ∧ True) <| .vI (vH (vS 122 p.1.1 p.1.2.1 p.1.2.2.1 p.1.2.2.2.1 p.1.2.2.2.2.1 p.1.2.2.2.2.2.1 p.2.1 <| vR p.2.2.1) True) <| .ok (.inl (())))))) (aGa p i))
def arZ (p : vY × Int × Bool × Unit) : TT uk :=
 .loop 0 (.tt <| .vI (vP (0 : Int) ([p.1.2.1, p.1.2.2.1, p.1.2.2.2.2.2.1] : List Int) <| ue ∧ True) <| .vI (vH (vS 122 p.1.1 p.1.2.1 p.1.2.2.1 p.1.2.2.2.1 p.1.2.2.2.2.1 p.1.2.2.2.2.2.1 p.2.1 <| vR p.2.2.1) True) <| .ok ((0, ()))) (afM p)
def ar6 : LTab := [(77, 6, 2048, ⟨0, (Bool) × Unit, .dat (.s 2) tw <| .nil, [1], [0], 0⟩), (128, 14, 14336, ⟨1, (Int) × (Int) × Unit, .dat (.s 9) vZ <| .dat (.s 3) vZ <| .nil, [8, 7, 0], [8, 4, 2, 0], 0⟩)]
def ah1 (c : Int × List Int × List vY × Unit) (j : Bool × Unit) (i : (Int) × (Int) × Unit) : TT (ur ⊕ uk) :=
 .ite (decide (i.1 < len c.2.2.1))
 (.need (inb i.1 (len c.2.2.1)) <| .call (afU ((((gi c.2.2.1 i.1 (0, 0, 0, 0, 0, 0, ())).1, (gi c.2.2.1 i.1 (0, 0, 0, 0, 0, 0, ())).2.1, (gi c.2.2.1 i.1 (0, 0, 0, 0, 0, 0, ())).2.2.1, (gi c.2.2.1 i.1 (0, 0, 0, 0, 0, 0, ())).2.2.2.1, (gi c.2.2.1 i.1 (0, 0, 0, 0, 0, 0, ())).2.2.2.2.1, (gi c.2.2.1 i.1 (0, 0, 0, 0, 0, 0, ())).2.2.2.2.2.1, ()), i.2.1, i.1 == 0, ()), ())) Dd1 fun y =>
 .ite (!y.1)
 (.ok (.inr ((false, ()))))
 (.tt <| .lt (w64 (i.1 + 1) : Int) fun z => .lt ((gi c.2.2.1 i.1 (0, 0, 0, 0, 0, 0, ())).1 : Int) fun z1 => .vI (vQ z1 z (len c.2.2.1) c.2.2.1 <| (vM 8 true) ∧ True) <| .vI (vH (vX (LoopState.ready : LoopState) (none : Option Code) 34 (#[17] : Array Tmp) (akU (acI Tryz.f77) [1, 0, 1, 1, 1, 0, 1, 0, 0]) (akU (acI Tryz.f77) [1, 0, 1, 1, 1, 0, 1, 0, 1]) <| (vJ (128 : FuncId) <| True ∧ uK ∧ True) ∧ (vJ ((c.1, c.2.1, c.2.2.1, ()) : Int × List Int × List vY × Unit) <| uv ∧ (vJ j.1 <| ue ∧ True))) <| vH (vK 42 c.1 c.2.1 c.2.2.1) <| vH (vU 4 true) <| vH (vK 42 c.1 c.2.1 c.2.2.1) True) <| .ok (.inl ((z, z1, ())))))
 (.need (inb (w64 (len c.2.2.1 - 1)) (len c.2.2.1)) <| .ok (.inr (((gi c.2.2.1 (w64 (len c.2.2.1 - 1)) (0, 0, 0, 0, 0, 0, ())).1 == 1000000, ()))))
def apW (c : Int × List Int × List vY × Unit) (j : (Bool) × Unit) : TT uk :=
 .tt <| .tt <| .tt <| .tt <| .loop 1 (.tt <| .vI (vQ (0 : Int) (0 : Int) (len c.2.2.1) c.2.2.1 <| (vM 8 true) ∧ True) <| .vI (vH (vX (LoopState.ready : LoopState) (none : Option Code) 34 (#[17] : Array Tmp) (akU (acI Tryz.f77) [1, 0, 1, 1, 1, 0, 1, 0, 0]) (akU (acI Tryz.f77) [1, 0, 1, 1, 1, 0, 1, 0, 1]) <| (vJ (128 : FuncId) <| True ∧ uK ∧ True) ∧ (vJ ((c.1, c.2.1, c.2.2.1, ()) : Int × List Int × List vY × Unit) <| uv ∧ (vJ j.1 <| ue ∧ True))) <| vH (vK 42 c.1 c.2.1 c.2.2.1) <| vH (vU 4 true) <| vH (vK 42 c.1 c.2.1 c.2.2.1) True) <| .ok ((0, 0, ()))) (ah1 c j)
def afN (c : Int × List Int × List vY × Unit) : TT uk :=
 .join 0 (ι := (Bool) × Unit) (.ite (decide (len c.2.2.1 < 1))
 (.ok (.inr ((false, ()))))
 (.ite (decide (len c.2.2.1 > 4))
 (.ok (.inr ((false, ()))))
 (.tt <| .vI (vJ false <| ue ∧ True) <| .vI (vH (vK 42 c.1 c.2.1 c.2.2.1) True) <| .ok (.inl ((false, ())))))) (apW c)
def aMD : LTab := []
def aw3 (c : Int × List Int × List vY × Unit) : TT uz :=
 .ite (c.1 == 1)
 (.ite (len c.2.1 == 0)
 (.ite (!len c.2.2.1 == 0)
 (.ok ((90, ())))
 (.ok ((0, ()))))
 (.ok ((90, ()))))
 (.ite (c.1 == 2)
 (.call (aiO (c.2.1, ())) Dd1 fun y =>
 .ite (y.1)
 (.ite (!len c.2.2.1 == 0)
 (.ok ((90, ())))
 (.ok ((0, ()))))
 (.ok ((90, ()))))
 (.ite (c.1 == 3)
 (.ite (len c.2.1 == 0)
 (.call (afX ((c.1, c.2.1, c.2.2.1, ()), ())) Dd1 fun y1 =>
 .ite (!y1.1)
 (.ok ((90, ())))
 (.ok ((0, ()))))
 (.ok ((90, ()))))
 (.ok ((90, ())))))
def aPy : LTab := [(78, 58, 9216, ⟨0, (Int) × Unit, .dat (.s 13) vZ <| .nil, [12, 0, 1], [], 0⟩)]
def aGL (s1 : List Int) (s2 : List Int) (i : (Int) × Unit) : TT uZ :=
 .ite (decide (i.1 < len s1))
 (.need (inb i.1 (len s1)) <| .need (inb i.1 (len s2)) <| .ite (gi s1 i.1 0 != gi s2 i.1 0)
 (.ok (.inr ((false, ()))))
 (.tt <| .lt (w64 (i.1 + 1) : Int) fun z => .vI (vK z (len s1) s1 s2) <| .tr <| .ok (.inl ((z, ())))))
 (.ok (.inr ((true, ()))))
def aET (s1 : List Int) (s2 : List Int) : TT uk :=
 .ite (len s1 != len s2)
 (.ok ((false, ())))
 (.loop 0 (.tt <| .vI (vK (0 : Int) (len s1) s1 s2) <| .tr <| .ok ((0, ()))) (aGL s1 s2))
def aPx : LTab := [(79, 58, 9216, ⟨0, (Int) × Unit, .dat (.s 13) vZ <| .nil, [12, 0, 1], [], 0⟩)]
def aGK (s1 : List vY) (s2 : List vY) (i : (Int) × Unit) : TT uZ :=
 .ite (decide (i.1 < len s1))
 (.need (inb i.1 (len s1)) <| .need (inb i.1 (len s2)) <| .ite (!(match (gi s1 i.1 (0, 0, 0, 0, 0, 0, ())).1 == (gi s2 i.1 (0, 0, 0, 0, 0, 0, ())).1 with | true => (match (gi s1 i.1 (0, 0, 0, 0, 0, 0, ())).2.1 == (gi s2 i.1 (0, 0, 0, 0, 0, 0, ())).2.1 with | true => (match (gi s1 i.1 (0, 0, 0, 0, 0, 0, ())).2.2.1 == (gi s2 i.1 (0, 0, 0, 0, 0, 0, ())).2.2.1 with | true => (match (gi s1 i.1 (0, 0, 0, 0, 0, 0, ())).2.2.2.1 == (gi s2 i.1 (0, 0, 0, 0, 0, 0, ())).2.2.2.1 with | true => (match (gi s1 i.1 (0, 0, 0, 0, 0, 0, ())).2.2.2.2.1 == (gi s2 i.1 (0, 0, 0, 0, 0, 0, ())).2.2.2.2.1 with | true => (match (gi s1 i.1 (0, 0, 0, 0, 0, 0, ())).2.2.2.2.2.1 == (gi s2 i.1 (0, 0, 0, 0, 0, 0, ())).2.2.2.2.2.1 with | true => true | false => false) | false => false) | false => false) | false => false) | false => false) | false => false))
 (.ok (.inr ((false, ()))))
 (.tt <| .lt (w64 (i.1 + 1) : Int) fun z => .vI (vK z (len s1) s1 s2) <| .tr <| .ok (.inl ((z, ())))))
 (.ok (.inr ((true, ()))))
def aES (s1 : List vY) (s2 : List vY) : TT uk :=
 .ite (len s1 != len s2)
 (.ok ((false, ())))
 (.loop 0 (.tt <| .vI (vK (0 : Int) (len s1) s1 s2) <| .tr <| .ok ((0, ()))) (aGK s1 s2))
def aOR : LTab := []
def aB1 (a : Int × List Int × List vY × Unit) (b : Int × List Int × List vY × Unit) : TT uk :=
 .ite (a.1 == b.1)
 (.call (axL (a.2.1, b.2.1, ())) Dd1 fun y =>
 .ite (y.1)
 (.call (axK (a.2.2.1, b.2.2.1, ())) Dd1 fun y1 =>
 .ok ((y1.1, ())))
 (.ok ((false, ()))))
 (.ok ((false, ())))
def aMC : LTab := [(128, 14, 16384, ⟨0, (Int) × (Int) × Unit, .dat (.s 9) vZ <| .dat (.s 3) vZ <| .nil, [8, 7, 0], [10, 6, 1, 0], 0⟩)]
def aAr (c : Int × List Int × List vY × Unit) (y : Int × Unit) (i : (Int) × (Int) × Unit) : TT (ur ⊕ uk) :=
 .ite (decide (i.1 < len c.2.2.1))
 (.need (inb i.1 (len c.2.2.1)) <| .ite ((gi c.2.2.1 i.1 (0, 0, 0, 0, 0, 0, ())).2.2.2.2.1 != 1)
 (.ok (.inr ((false, ()))))
 (.tt <| .lt (w64 (i.1 + 1) : Int) fun z => .lt ((gi c.2.2.1 i.1 (0, 0, 0, 0, 0, 0, ())).1 : Int) fun z1 => .vI (vQ z1 z (len c.2.2.1) c.2.2.1 <| (vM 10 true) ∧ True) <| .vI (vH (vX (LoopState.ready : LoopState) (none : Option Code) 14 (#[9] : Array Tmp) (akU (acI Tryz.f24) [1, 1, 0, 1, 0, 0]) (akU (acI Tryz.f24) [1, 1, 0, 1, 0, 1]) <| (vJ (128 : FuncId) <| True ∧ (vW 6 0 true) ∧ True) ∧ (vQ ((c.1, c.2.1, c.2.2.1, ()) : Int × List Int × List vY × Unit) (y.1 != 0) y.1 ((c.1, c.2.1, c.2.2.1, ()) : Int × List Int × List vY × Unit) <| uh ∧ ue ∧ vR c)) <| vH (vK 42 c.1 c.2.1 c.2.2.1) <| vH (vU 4 false) <| vH (vK 42 c.1 c.2.1 c.2.2.1) True) <| .ok (.inl ((z, z1, ())))))
 (.ok (.inr ((true, ()))))
def aw2 (c : Int × List Int × List vY × Unit) : TT uk :=
 .call (ac8 ((c.1, c.2.1, c.2.2.1, ()), ())) Dd6 fun y =>
 .ite (y.1 != 0)
 (.ok ((false, ())))
 (.tt <| .tt <| .tt <| .tt <| .loop 0 (.tt <| .vI (vQ (0 : Int) (0 : Int) (len c.2.2.1) c.2.2.1 <| (vM 10 true) ∧ True) <| .vI (vH (vX (LoopState.ready : LoopState) (none : Option Code) 14 (#[9] : Array Tmp) (akU (acI Tryz.f24) [1, 1, 0, 1, 0, 0]) (akU (acI Tryz.f24) [1, 1, 0, 1, 0, 1]) <| (vJ (128 : FuncId) <| True ∧ (vW 6 0 true) ∧ True) ∧ (vQ ((c.1, c.2.1, c.2.2.1, ()) : Int × List Int × List vY × Unit) (y.1 != 0) y.1 ((c.1, c.2.1, c.2.2.1, ()) : Int × List Int × List vY × Unit) <| uh ∧ ue ∧ vR c)) <| vH (vK 42 c.1 c.2.1 c.2.2.1) <| vH (vU 4 false) <| vH (vK 42 c.1 c.2.1 c.2.2.1) True) <| .ok ((0, 0, ()))) (aAr c y))
def aMB : LTab := [(25, 122, 11264, ⟨0, (Int) × (Bool) × (Bool) × Unit, .dat (.s 7) vZ <| .dat (.s 6) tw <| .dat (.s 5) tw <| .nil, [3, 2, 1], [0], 0⟩)]
def aAq (c : Int × List Int × List vY × Unit) (y : Int × Unit) (i : (Int) × (Bool) × (Bool) × Unit) : TT (((Int) × (Bool) × (Bool) × Unit) ⊕ uc) :=
 .ite (decide (i.1 < len c.2.1))
 (.ite (i.2.2.1)
 (.ite (i.2.1)
 (.tt <| .lt (w64 (i.1 + 1) : Int) fun z => .vI (vO true true z (0 : Int) (0 : Int) <| ue ∧ True) <| .vI (vH (vK 42 c.1 c.2.1 c.2.2.1) True) <| .ok (.inl ((z, true, true, ()))))
 (.need (inb i.1 (len c.2.1)) <| .need (inb (w64 (i.1 - 1)) (len c.2.1)) <| .tt <| .lt (w64 (i.1 + 1) : Int) fun z1 => .lt (decide (gi c.2.1 i.1 0 < gi c.2.1 (w64 (i.1 - 1)) 0) : Bool) fun z2 => .vI (vO true z2 z1 (0 : Int) (0 : Int) <| ue ∧ True) <| .vI (vH (vK 42 c.1 c.2.1 c.2.2.1) True) <| .ok (.inl ((z1, z2, true, ())))))
 (.need (inb i.1 (len c.2.1)) <| .need (inb (w64 (i.1 - 1)) (len c.2.1)) <| .ite (i.2.1)
 (.tt <| .lt (w64 (i.1 + 1) : Int) fun z3 => .lt (decide (gi c.2.1 i.1 0 > gi c.2.1 (w64 (i.1 - 1)) 0) : Bool) fun z4 => .vI (vO z4 true z3 (0 : Int) (0 : Int) <| ue ∧ True) <| .vI (vH (vK 42 c.1 c.2.1 c.2.2.1) True) <| .ok (.inl ((z3, true, z4, ()))))
 (.need (inb i.1 (len c.2.1)) <| .need (inb (w64 (i.1 - 1)) (len c.2.1)) <| .tt <| .lt (w64 (i.1 + 1) : Int) fun z5 => .lt (decide (gi c.2.1 i.1 0 < gi c.2.1 (w64 (i.1 - 1)) 0) : Bool) fun z6 => .lt (decide (gi c.2.1 i.1 0 > gi c.2.1 (w64 (i.1 - 1)) 0) : Bool) fun z7 => .vI (vO z7 z6 z5 (0 : Int) (0 : Int) <| ue ∧ True) <| .vI (vH (vK 42 c.1 c.2.1 c.2.2.1) True) <| .ok (.inl ((z5, z6, z7, ()))))))
 (.ite (c.1 == 3)
 (.need (asT Int 0 ≤ 0 ∧ 0 < len c.2.2.1) <| .ite (decide ((gi c.2.2.1 0 (0, 0, 0, 0, 0, 0, ())).2.1 < 0))
 (.ite (!decide (len c.2.2.1 > 1))
 (.ok (.inr ((-1, 0, ()))))
 (.ok (.inr ((0, 0, ())))))
 (.ite (!decide (len c.2.2.1 > 1))
 (.ok (.inr ((1, 0, ()))))
 (.ite (!decide (len c.2.2.1 > 1))
 (.ok (.inr ((-1, 0, ()))))
 (.ok (.inr ((0, 0, ())))))))
 (.ite (!i.2.1)
 (.ok (.inr ((1, 0, ()))))
 (.ite (!i.2.2.1)
 (.ok (.inr ((-1, 0, ()))))
 (.ok (.inr ((0, 0, ())))))))
def aw1 (c : Int × List Int × List vY × Unit) : TT uc :=
 .call (ac8 ((c.1, c.2.1, c.2.2.1, ()), ())) Dd6 fun y =>
 .ite (y.1 != 0)
 (.ok ((0, y.1, ())))
 (.loop 0 (.tt <| .vI tE <| .vI (vH (vK 42 c.1 c.2.1 c.2.2.1) True) <| .ok ((1, false, false, ()))) (aAq c y))
end
theorem aD7 (n a b : Int) (y) (h : acA (n, a, b, ()) = some y) : (ar5 n a b).toO = some y := by
 injection h with h
 subst h
 unfold ar5
 by_cases c : a ≤ n
 ·refine uT (zo c) ?_
  rw [aaH]
  congr 2
  exact decide_eq_decide.2 ⟨fun h => ⟨c, h⟩, fun h => h.2⟩
 ·refine uF (zn c) ?_
  rw [aaH, zn (fun h : inR n a b => c h.1)]
theorem abX (n a b : Int) : acA (n, a, b, ()) = some (decide (inR n a b), ()) := rfl
theorem aJk (n d : Int) (y) (h : abW (n, d, ()) = some y) : (aHr n d).toO = some y := by
 unfold abW at h
 split at h
 ·rename_i hp
  exact uC (ofQ n d) (by unfold al6; rw [if_pos hp]) h
 ·cases h
theorem afD {n : Int} {d : Nat} (hn : abD n) (hd : d ≠ 0) (h2 : d ≤ 9223372036854775807) : abW (n, (d : Int), ()) = some (fx (mkRat n d), ()) := by
 have hd2 : abD (d : Int) := ⟨by omega, by omega⟩
 unfold abW
 rw [if_pos ⟨hn, hd2⟩]
 simp only [aKT hd (abG hn) (abG hd2)]
theorem aBY (n : Int) (y) (h : aaF (n, ()) = some y) : (awX n).toO = some y := by
 unfold aaF at h
 split at h
 ·rename_i hp
  exact uC _ (afD (d := 1) hp zc zc) h
 ·cases h
theorem ab3 {n : Int} (h : abD n) : aaF (n, ()) = some (fx (mkRat n 1), ()) := by unfold aaF; rw [if_pos h]
theorem ad5 (n : Int) : mkRat n 1 = (n : Rat) := by rw [Rat.mkRat_eq_div, show ((1 : Nat) : Rat) = 1 from rfl]; grind
theorem adW {n : Int} (h : abD n) : aeI (mkRat n 1) := aeF zc (abG h) (abG ⟨by omega, by omega⟩)
theorem aCf {p q : Rat} (hp : aeI p) (hq : aeI q) : ahL (fx p, fx q, ()) = some (ax6 p q, 0, ()) := by
 unfold ahL
 simp only [agB hp, agB hq]
theorem aGX (p q : Rat) : ax6 p q < 0 ↔ p < q := by
 unfold ax6
 split
 ·simp_all
 ·split <;> simp_all
theorem aBc (p q : Rat) : ax6 p q > 0 ↔ q < p := by
 unfold ax6
 split
 ·rename_i h; constructor
  ·intro h2; omega
  ·intro h2; exact absurd h2 (by grind)
 ·split
  ·rename_i h; subst h; simp
  ·rename_i h1 h2
   constructor
   ·intro _; rcases aCG p q with c | c | c
    ·exact absurd c h1
    ·exact absurd c h2
    ·exact c
   ·intro _; omega
theorem agV {q : Rat} (h : aeI q) : acY (fx q, ()) = some (fx (aeN q), ()) := aaK (enc := fun x : Rat => (fx x, ())) q h (fun b hb => az7 (Prod.mk.inj hb).1)
theorem awY (x : FxT) (y) (h : acY (x, ()) = some y) : (akC x).toO = some y := by
 obtain ⟨q, hp, hx, rfl⟩ := aaE h
 obtain ⟨rfl, -⟩ := Prod.mk.inj hx
 have i0 : abD 0 := ⟨by omega, by omega⟩
 have i1 : abD 1 := ⟨by omega, by omega⟩
 unfold akC
 refine uC _ (ab3 i0) (uC _ (ab3 i1) (uV (uV (uV (uV ?_)))))
 refine uC _ (aCf hp (adW i0)) ?_
 have e0 : mkRat 0 1 = (0 : Rat) := by rw [ad5]; rfl
 have e1 : mkRat 1 1 = (1 : Rat) := by rw [ad5]; rfl
 unfold aeN
 by_cases c : q < 0
 ·rw [if_pos c]
  refine uT (zo ((aGX _ _).2 (by rw [e0]; exact c))) ?_
  rw [e0]; rfl
 ·rw [if_neg c]
  refine uF (zn (fun h => c (by rw [← e0]; exact (aGX _ _).1 h))) (uV (uV ?_))
  refine uC _ (aCf hp (adW i1)) ?_
  by_cases c2 : q > 1
  ·rw [if_pos c2]
   refine uT (zo ((aBc _ _).2 (by rw [e1]; exact c2))) ?_
   rw [e1]; rfl
  ·rw [if_neg c2]
   exact uF (zn (fun h => c2 (by rw [← e1]; exact (aBc _ _).1 h))) rfl
theorem atZ (l : List Int) (y) (h : aiO (l, ()) = some y) : (aiM l).toO = some y := by
 injection h with h
 subst h
 unfold aiM
 dsimp only
 by_cases h1 : l.length < 2
 ·rw [zn (fun h : adE l => by have := h.1; omega)]
  exact uR _ (uT sd rfl)
 by_cases h2 : l.length > 17
 ·rw [zn (fun h : adE l => by have := h.2.1; omega)]
  exact uR _ (uF sd (uT sd rfl))
 refine uL (false, ()) (uF sd (uF sd rfl)) ?_
 refine uO (0, ()) rfl ?_
 refine aaL (fun i : Int × Unit => ∃ k : Nat, k ≤ l.length ∧ i = ((k : Int), ()) ∧ ∀ v ∈ l.take k, inR v 0 65535) (fun i => ((l.length : Int) - i.1).toNat) (fun _ => (decide (adE l), ())) ?_ _ ⟨0, by omega, rfl, by simp⟩
 rintro i ⟨k, h3, rfl, h4⟩
 simp only [alV, aaM]
 rcases zr k l.length with hk | hk
 ·have e : l.getD k 0 = l[k] := by simp [hk]
  rw [e]
  by_cases c : inR l[k] 0 65535
  ·left
   refine ⟨(((k + 1 : Nat) : Int), ()), ?_, ⟨k + 1, by omega, rfl, ?_⟩, by simp only; omega, ze⟩
   ·refine uT sd (uN sd (uC _ (abX _ _ _) (uF (by rw [zo c]; rfl) ?_)))
    repeat refine za ?_
    simp (disch := omega) only [aaH, aaA, aaO, aaZ, abJ, aaM, zv, zp, aaB, zt]
    rfl
   ·intro v hv
    rw [zO hk] at hv
    rcases zH.1 hv with hv | hv
    ·exact h4 v hv
    ·rw [zX.1 hv]; exact c
  ·right
   rw [zn (fun h : adE l => c (h.2.2 _ (ym hk)))]
   exact uT sd (uN sd (uC _ (abX _ _ _) (uT (by rw [zn c]; rfl) rfl)))
 ·right
  rw [zu hk] at h4
  rw [zo (show adE l from ⟨by omega, by omega, h4⟩)]
  exact uF sd rfl
theorem aOv {a b : Int} (ha : 0 ≤ a) (hb : 0 < b) : Nat.gcd b.natAbs (Int.tmod a b).natAbs = Nat.gcd a.natAbs b.natAbs := by
 obtain ⟨m, rfl⟩ := zw ha
 obtain ⟨n, rfl⟩ := zw (xk hb)
 rw [zE ha]
 have : ((m : Int) % (n : Int)) = ((m % n : Nat) : Int) := zi
 rw [this, zQ, zQ, zQ, xy n, xy m n, Nat.gcd_rec n m]
theorem aJM {p : PcT} (h : inR p.2.1 0 1000000) : afU (p, ()) = some (decide (aiS p.2.1 p.1), ()) := by unfold afU; rw [if_pos h]
theorem aD0 (p : PcT) (y) (h : afU (p, ()) = some y) : (arZ p).toO = some y := by
 unfold afU at h
 split at h
 case isFalse => cases h
 case isTrue hfrom =>
 injection h with h
 subst h
 obtain ⟨hf0, hf1⟩ := hfrom
 dsimp only at hf0 hf1 ⊢
 obtain ⟨⟨till, mul, add, nu, de, off, u⟩, fr, first, u'⟩ := p
 dsimp only at hf0 hf1 ⊢
 unfold arZ
 refine uO (0, ()) rfl ?_
 have bad : ∀ b : Bool, b = false → (decide (aiS fr (till, mul, add, nu, de, off, u)), ()) = (false, ()) ∨ aiS fr (till, mul, add, nu, de, off, u) := fun b hb => by
  by_cases c : aiS fr (till, mul, add, nu, de, off, u)
  ·exact Or.inr c
  ·left; rw [zn c]
 have step : ∀ (k : Nat) (x : Int), k < 3 → gi [mul, add, off] (k : Int) 0 = x → (inR x (-100000000) 100000000 → (afM ((till, mul, add, nu, de, off, u), fr, first, u') ((k : Int), ())).toO = some (.inl (((k + 1 : Nat) : Int), ()))) ∧ (¬ inR x (-100000000) 100000000 → (afM ((till, mul, add, nu, de, off, u), fr, first, u') ((k : Int), ())).toO = some (.inr (false, ()))) := by
  intro k x hk hx
  constructor
  ·intro c
   unfold afM
   dsimp only
   refine uT sd (uN ⟨by omega, by omega⟩ ?_)
   rw [hx]
   refine uC _ (abX _ _ _) (uF (by rw [zo c]; rfl) ?_)
   repeat refine za ?_
   simp (disch := omega) only [aaH, aaA, aaO, aaZ, abJ, aaM, zv, zp, aaB, zt]
   rfl
  ·intro c
   unfold afM
   dsimp only
   refine uT sd (uN ⟨by omega, by omega⟩ ?_)
   rw [hx]
   exact uC _ (abX _ _ _) (uT (by rw [zn c]; rfl) rfl)
 by_cases c1 : inR mul (-100000000) 100000000
 case neg =>
  rw [zn (fun h : aiS _ _ => c1 h.1.1)]
  exact ab8 ((step 0 mul zc rfl).2 c1)
 rw [acL ((step 0 mul zc rfl).1 c1)]
 by_cases c2 : inR add (-100000000) 100000000
 case neg =>
  rw [zn (fun h : aiS _ _ => c2 h.1.2.1)]
  exact ab8 ((step 1 add zc rfl).2 c2)
 rw [acL ((step 1 add zc rfl).1 c2)]
 by_cases c3 : inR off (-100000000) 100000000
 case neg =>
  rw [zn (fun h : aiS _ _ => c3 h.1.2.2.1)]
  exact ab8 ((step 2 off zc rfl).2 c3)
 rw [acL ((step 2 off zc rfl).1 c3)]
 refine ab8 ?_
 unfold afM
 refine uF rfl ?_
 dsimp only
 have hw : w64 (fr + 1) = fr + 1 := aaA zc
 by_cases c4 : inR till (fr + 1) 1000000
 case neg =>
  rw [zn (fun h : aiS _ _ => c4 h.2)]
  refine uR _ (uC _ (abX _ _ _) (uT (by rw [hw, zn c4]; rfl) rfl))
 by_cases c5 : inR nu 1 36
 case neg =>
  rw [zn (fun h : aiS _ _ => c5 h.1.2.2.2.1)]
  refine uR _ (uC _ (abX _ _ _) (uF (by rw [hw, zo c4]; rfl) (uC _ (abX _ _ _) (uT (by rw [zn c5]; rfl) rfl))))
 by_cases c6 : inR de 1 12
 case neg =>
  rw [zn (fun h : aiS _ _ => c6 h.1.2.2.2.2.1)]
  refine uR _ (uC _ (abX _ _ _) (uF (by rw [hw, zo c4]; rfl) (uC _ (abX _ _ _) (uF (by rw [zo c5]; rfl) (uC _ (abX _ _ _) (uT (by rw [zn c6]; rfl) rfl))))))
 refine uL () (uC _ (abX _ _ _) (uF (by rw [hw, zo c4]; rfl) (uC _ (abX _ _ _) (uF (by rw [zo c5]; rfl) (uC _ (abX _ _ _) (uF (by rw [zo c6]; rfl) rfl)))))) ?_
 refine uO (de, nu, ()) rfl ?_
 have hd : decide (aiS fr (till, mul, add, nu, de, off, u)) = decide (Nat.gcd nu.natAbs de.natAbs = 1) := decide_eq_decide.2 ⟨fun h => h.1.2.2.2.2.2, fun h => ⟨⟨c1, c2, c3, c5, c6, h⟩, c4⟩⟩
 rw [hd]
 refine aaL (fun i : Int × Int × Unit => 0 ≤ i.1 ∧ 0 ≤ i.2.1 ∧ Nat.gcd i.2.1.natAbs i.1.natAbs = Nat.gcd nu.natAbs de.natAbs) (fun i => i.1.toNat) (fun _ => (.inr (decide (Nat.gcd nu.natAbs de.natAbs = 1), ()) : (Int × Unit) ⊕ (Bool × Unit))) ?_ _ ⟨by show (0 : Int) ≤ de; have := c6.1; omega, by show (0 : Int) ≤ nu; have := c5.1; omega, rfl⟩
 rintro ⟨b, a, u2⟩ ⟨g1, g2, g3⟩
 dsimp only at g1 g2 g3
 unfold awK
 by_cases hb : b = 0
 ·right
  subst hb
  refine uF rfl ?_
  have g4 : a.natAbs = Nat.gcd nu.natAbs de.natAbs := by simpa using g3
  show some (Sum.inr (Sum.inr (a == 1, ()))) = _
  by_cases c : a = 1
  ·rw [zo (show Nat.gcd nu.natAbs de.natAbs = 1 by omega), c]; rfl
  ·rw [zn (show ¬ Nat.gcd nu.natAbs de.natAbs = 1 by omega), beq_eq_false_iff_ne.2 c]
 ·left
  have hlt : Int.tmod a b < b := by rw [zE g2]; exact yz _ zc
  have hge : 0 ≤ Int.tmod a b := by rw [zE g2]; exact yN _ hb
  refine ⟨(Int.tmod a b, b, ()), ?_, ⟨hge, by dsimp only; omega, ?_⟩, by dsimp only; omega, ze⟩
  ·refine uT (by simpa using hb) (uN hb ?_)
   repeat refine za ?_
   rfl
  ·dsimp only
   rw [← g3]; exact aOv g2 zc
abbrev zs : adS := (0, 0, 0, 0, 0, 0, ())
theorem aH0 {last : Int} : agA last [] ↔ last = 1000000 := Iff.rfl
theorem aEW {last : Int} {s : adS} {r : List adS} : agA last (s :: r) ↔ aiS last s ∧ agA s.1 r := Iff.rfl
theorem aoJ (c : CvT) (y) (h : afX (c, ()) = some y) : (afN c).toO = some y := by
 injection h with h
 subst h
 obtain ⟨kind, tab, l, u0⟩ := c
 dsimp only
 unfold afN
 dsimp only
 by_cases h1 : l.length < 1
 ·rw [zn (fun h : ab6 l => by have := h.1; omega)]
  exact uR _ (uT sd rfl)
 by_cases h2 : l.length > 4
 ·rw [zn (fun h : ab6 l => by have := h.2.1; omega)]
  exact uR _ (uF sd (uT sd rfl))
 refine uL (false, ()) (uF sd (uF sd rfl)) ?_
 refine uO (0, 0, ()) rfl ?_
 have hl : decide (ab6 l) = decide (agA 0 l) := decide_eq_decide.2 ⟨fun h => h.2.2, fun h => ⟨by omega, by omega, h⟩⟩
 rw [hl]
 refine aaL (fun i : Int × Int × Unit => ∃ k : Nat, k ≤ l.length ∧ i.1 = (k : Int) ∧ inR i.2.1 0 1000000 ∧ (agA 0 l ↔ agA i.2.1 (l.drop k)) ∧ (k ≠ 0 → i.2.1 = (l.getD (k - 1) zs).1)) (fun i => ((l.length : Int) - i.1).toNat) (fun _ => (decide (agA 0 l), ())) ?_ _ ⟨0, by omega, rfl, ⟨by simp, by simp⟩, by simp, by simp⟩
 rintro ⟨i, last, u⟩ ⟨k, h3, h4, h5, h6, h7⟩
 dsimp only at h4 h5 h6 h7
 subst h4
 simp only [ah1, aaM]
 rcases zr k l.length with hk | hk
 ·have e : l.getD k zs = l[k] := by simp [hk]
  have hv : afU ((((l.getD k zs).1, (l.getD k zs).2.1, (l.getD k zs).2.2.1, (l.getD k zs).2.2.2.1, (l.getD k zs).2.2.2.2.1, (l.getD k zs).2.2.2.2.2.1, ()), last, (k : Int) == 0, ()), ()) = some (decide (aiS last l[k]), ()) := by
   rw [aJM h5, e]
  rw [yo hk, aEW] at h6
  by_cases c : aiS last l[k]
  ·left
   refine ⟨(((k + 1 : Nat) : Int), l[k].1, ()), ?_, ⟨k + 1, by omega, rfl, ⟨?_, c.2.2⟩, ⟨fun h => (h6.1 h).2, fun h => h6.2 ⟨c, h⟩⟩, fun _ => by rw [xr, e]⟩, by dsimp only; omega, ze⟩
   ·refine uT sd (uN sd (uC _ hv (uF (by rw [zo c]; rfl) ?_)))
    repeat refine za ?_
    rw [aaA (x := (k : Int) + 1) zc]
    show some (Sum.inl (((k + 1 : Nat) : Int), (l.getD k zs).1, ())) = _
    rw [e]
   ·have := h5.1; have := c.2.1; dsimp only; omega
  ·right
   rw [zn (fun h => c (h6.1 h).1)]
   exact uT sd (uN sd (uC _ hv (uT (by rw [zn c]; rfl) rfl)))
 ·right
  have hkl : k = l.length := zc
  subst hkl
  rw [List.drop_length, aH0] at h6
  have hw : w64 (len l - 1) = ((l.length - 1 : Nat) : Int) := by rw [aaB, aaA (x := (l.length : Int) - 1) zc]; omega
  simp only [hw, aaM]
  refine uF sd (uN sd ?_)
  rw [h7 zc] at h6
  show some (Sum.inr ((l.getD (l.length - 1) zs).1 == 1000000, ())) = _
  by_cases c : (l.getD (l.length - 1) zs).1 = 1000000
  ·rw [zo (h6.2 c), zV.2 c]
  ·rw [zn (fun h => c (h6.1 h)), beq_eq_false_iff_ne.2 c]
theorem ajY {α : Type} (l : List α) : (len l == 0) = decide (l = []) := by
 cases l with
 | nil => rfl
 | cons a l => rw [zn zi, beq_eq_false_iff_ne]; simp [len]; omega
theorem aGj (c : CvT) (y) (h : ac8 (c, ()) = some y) : (aw3 c).toO = some y := by
 injection h with h
 subst h
 obtain ⟨kind, tab, l, u⟩ := c
 unfold aw3
 dsimp only
 simp only [ajY]
 by_cases k1 : kind = 1
 ·subst k1
  refine uT rfl ?_
  by_cases a1 : tab = []
  ·refine uT (zo a1) ?_
   by_cases a2 : l = []
   ·rw [if_pos (show abF (1, tab, l, u) from Or.inl ⟨rfl, a1, a2⟩)]
    exact uF (by rw [zo a2]; rfl) rfl
   ·rw [if_neg (fun h => by rcases h with h | h | h; exact a2 h.2.2; exact absurd h.1 zj; exact absurd h.1 zj)]
    exact uT (by rw [zn a2]; rfl) rfl
  ·rw [if_neg (fun h => by rcases h with h | h | h; exact a1 h.2.1; exact absurd h.1 zj; exact absurd h.1 zj)]
   exact uF (zn a1) rfl
 refine uF (beq_eq_false_iff_ne.2 k1) ?_
 by_cases k2 : kind = 2
 ·subst k2
  refine uT rfl (uC (decide (adE tab), ()) rfl ?_)
  by_cases a1 : adE tab
  ·refine uT (zo a1) ?_
   by_cases a2 : l = []
   ·rw [if_pos (show abF (2, tab, l, u) from Or.inr (Or.inl ⟨rfl, a1, a2⟩))]
    exact uF (by rw [zo a2]; rfl) rfl
   ·rw [if_neg (fun h => by rcases h with h | h | h; exact absurd h.1 zj; exact a2 h.2.2; exact absurd h.1 zj)]
    exact uT (by rw [zn a2]; rfl) rfl
  ·rw [if_neg (fun h => by rcases h with h | h | h; exact absurd h.1 zj; exact a1 h.2.1; exact absurd h.1 zj)]
   exact uF (zn a1) rfl
 refine uF (beq_eq_false_iff_ne.2 k2) ?_
 by_cases k3 : kind = 3
 ·subst k3
  refine uT rfl ?_
  by_cases a1 : tab = []
  ·refine uT (zo a1) (uC (decide (ab6 l), ()) rfl ?_)
   by_cases a2 : ab6 l
   ·rw [if_pos (show abF (3, tab, l, u) from Or.inr (Or.inr ⟨rfl, a1, a2⟩))]
    exact uF (by rw [zo a2]; rfl) rfl
   ·rw [if_neg (fun h => by rcases h with h | h | h; exact absurd h.1 zj; exact absurd h.1 zj; exact a2 h.2.2)]
    exact uT (by rw [zn a2]; rfl) rfl
  ·rw [if_neg (fun h => by rcases h with h | h | h; exact absurd h.1 zj; exact absurd h.1 zj; exact a1 h.2.1)]
   exact uF (zn a1) rfl
 ·rw [if_neg (fun h => by rcases h with h | h | h; exact k1 h.1; exact k2 h.1; exact k3 h.1)]
  exact uF (beq_eq_false_iff_ne.2 k3) rfl
theorem aqO (c : CvT) : ac8 (c, ()) = some (if abF c then 0 else 90, ()) := rfl
theorem asQ {α : Type} {s t : List α} {k : Nat} (hs : k < s.length) (ht : k < t.length) (h : s.take k = t.take k) (he : s[k] = t[k]) : s.take (k + 1) = t.take (k + 1) := by
 rw [zO hs, zO ht, h, he]
theorem aQK {a b : adS} (h : a ≠ b) : (!match a.1 == b.1 with
 | true =>
  match a.2.1 == b.2.1 with
  | true =>
   match a.2.2.1 == b.2.2.1 with
   | true =>
    match a.2.2.2.1 == b.2.2.2.1 with
    | true =>
     match a.2.2.2.2.1 == b.2.2.2.2.1 with
     | true =>
      match a.2.2.2.2.2.1 == b.2.2.2.2.2.1 with
      | true => true
      | false => false
     | false => false
    | false => false
   | false => false
  | false => false
 | false => false) = true := by
 obtain ⟨a1, a2, a3, a4, a5, a6, a7⟩ := a
 obtain ⟨b1, b2, b3, b4, b5, b6, b7⟩ := b
 dsimp only
 by_cases c1 : a1 = b1
 case neg => rw [beq_eq_false_iff_ne.2 c1]; rfl
 by_cases c2 : a2 = b2
 case neg => rw [zV.2 c1, beq_eq_false_iff_ne.2 c2]; rfl
 by_cases c3 : a3 = b3
 case neg => rw [zV.2 c1, zV.2 c2, beq_eq_false_iff_ne.2 c3]; rfl
 by_cases c4 : a4 = b4
 case neg => rw [zV.2 c1, zV.2 c2, zV.2 c3, beq_eq_false_iff_ne.2 c4]; rfl
 by_cases c5 : a5 = b5
 case neg => rw [zV.2 c1, zV.2 c2, zV.2 c3, zV.2 c4, beq_eq_false_iff_ne.2 c5]; rfl
 by_cases c6 : a6 = b6
 case neg => rw [zV.2 c1, zV.2 c2, zV.2 c3, zV.2 c4, zV.2 c5, beq_eq_false_iff_ne.2 c6]; rfl
 ·subst c1 c2 c3 c4 c5 c6; exact absurd rfl h
theorem aKi (s t : List Int) (y) (h : axL (s, t, ()) = some y) : (aET s t).toO = some y := by
 unfold axL at h
 split at h
 case isFalse => cases h
 case isTrue hl =>
 injection h with h
 subst h
 dsimp only at hl ⊢
 unfold aET
 by_cases h1 : s.length = t.length
 case neg =>
  rw [abQ (fun h => h1 (by rw [h]))]
  exact uT sd rfl
 refine uF sd (uO (0, ()) rfl ?_)
 refine aaL (fun i : Int × Unit => ∃ k : Nat, k ≤ s.length ∧ i = ((k : Int), ()) ∧ s.take k = t.take k) (fun i => ((s.length : Int) - i.1).toNat) (fun _ => (eqb s t, ())) ?_ _ ⟨0, by omega, rfl, by simp⟩
 rintro i ⟨k, h2, rfl, h3⟩
 simp only [aGL, aaM]
 rcases zr k s.length with hk | hk
 ·have e1 : s.getD k 0 = s[k] := by simp [hk]
  have e2 : t.getD k 0 = t[k] := by simp [show k < t.length by omega]
  rw [e1, e2]
  by_cases c : s[k] = t[k]
  ·left
   refine ⟨(((k + 1 : Nat) : Int), ()), ?_, ⟨k + 1, by omega, rfl, asQ hk zc h3 c⟩, by dsimp only; omega, ze⟩
   refine uT sd (uN sd (uN sd (uF ?_ ?_)))
   ·rw [c]; simp
   ·repeat refine za ?_
    rw [aaA (x := (k : Int) + 1) zc]; rfl
  ·right
   rw [abQ (fun h : s = t => c (by subst h; rfl))]
   refine uT sd (uN sd (uN sd (uT ?_ rfl)))
   simpa using c
 ·right
  rw [zu hk, zu zc] at h3
  rw [ahZ h3]
  exact uF sd rfl
theorem aKh (s t : List adS) (y) (h : axK (s, t, ()) = some y) : (aES s t).toO = some y := by
 unfold axK at h
 split at h
 case isFalse => cases h
 case isTrue hl =>
 injection h with h
 subst h
 dsimp only at hl ⊢
 unfold aES
 by_cases h1 : s.length = t.length
 case neg =>
  rw [abQ (fun h => h1 (by rw [h]))]
  exact uT sd rfl
 refine uF sd (uO (0, ()) rfl ?_)
 refine aaL (fun i : Int × Unit => ∃ k : Nat, k ≤ s.length ∧ i = ((k : Int), ()) ∧ s.take k = t.take k) (fun i => ((s.length : Int) - i.1).toNat) (fun _ => (eqb s t, ())) ?_ _ ⟨0, by omega, rfl, by simp⟩
 rintro i ⟨k, h2, rfl, h3⟩
 simp only [aGK, aaM]
 rcases zr k s.length with hk | hk
 ·have e1 : s.getD k zs = s[k] := by simp [hk]
  have e2 : t.getD k zs = t[k] := by simp [show k < t.length by omega]
  rw [e1, e2]
  by_cases c : s[k] = t[k]
  ·left
   refine ⟨(((k + 1 : Nat) : Int), ()), ?_, ⟨k + 1, by omega, rfl, asQ hk zc h3 c⟩, by dsimp only; omega, ze⟩
   refine uT sd (uN sd (uN sd (uF ?_ ?_)))
   ·rw [c]; simp
   ·repeat refine za ?_
    rw [aaA (x := (k : Int) + 1) zc]; rfl
  ·right
   rw [abQ (fun h : s = t => c (by subst h; rfl))]
   refine uT sd (uN sd (uN sd (uT ?_ rfl)))
   exact aQK c
 ·right
  rw [zu hk, zu zc] at h3
  rw [ahZ h3]
  exact uF sd rfl
theorem aJn (a b : CvT) (y) (h : aqH (a, b, ()) = some y) : (aB1 a b).toO = some y := by
 unfold aqH at h
 split at h
 case isFalse => cases h
 case isTrue hl =>
 injection h with h
 subst h
 obtain ⟨k1, t1, s1, u1⟩ := a
 obtain ⟨k2, t2, s2, u2⟩ := b
 dsimp only at hl ⊢
 unfold aB1
 dsimp only
 by_cases c1 : k1 = k2
 ·refine uT (zV.2 c1) ?_
  refine uC (eqb t1 t2, ()) (by unfold axL; rw [if_pos hl.1]) ?_
  by_cases c2 : t1 = t2
  ·refine uT (ahZ c2) ?_
   refine uC (eqb s1 s2, ()) (by unfold axK; rw [if_pos hl.2]) ?_
   by_cases c3 : s1 = s2
   ·subst c1 c2 c3
    rw [aaH, ahZ rfl, ahZ rfl]
   ·rw [aaH, abQ c3, abQ (fun h => c3 (by injection h with _ h; injection h with _ h; injection h with h _))]
  ·refine uF (abQ c2) ?_
   rw [aaH, abQ (fun h => c2 (by injection h with _ h; injection h with h _))]
 ·refine uF (beq_eq_false_iff_ne.2 c1) ?_
  rw [aaH, abQ (fun h => c1 (by injection h with h _))]
theorem aGi (c : CvT) (y) (h : al7 (c, ()) = some y) : (aw2 c).toO = some y := by
 injection h with h
 subst h
 obtain ⟨kind, tab, l, u0⟩ := c
 unfold aw2
 refine uC _ (aqO _) ?_
 dsimp only
 by_cases hr : abF (kind, tab, l, ())
 case neg =>
  rw [zn (fun h : aAe _ => hr h.1), if_neg hr]
  exact uT rfl rfl
 rw [if_pos hr]
 have hlen : l.length ≤ 4 := by
  rcases hr with h | h | h
  ·rw [show l = [] from h.2.2]; simp
  ·rw [show l = [] from h.2.2]; simp
  ·exact h.2.2.2.1
 have hd : decide (aAe (kind, tab, l, u0)) = decide (∀ s ∈ l, s.2.2.2.2.1 = 1) := decide_eq_decide.2 ⟨fun h => h.2, fun h => ⟨hr, h⟩⟩
 rw [hd]
 refine uF rfl (uV (uV (uV (uV ?_))))
 refine uO (0, 0, ()) rfl ?_
 refine aaL (fun i : Int × Int × Unit => ∃ k : Nat, k ≤ l.length ∧ i.1 = (k : Int) ∧ ∀ s ∈ l.take k, s.2.2.2.2.1 = 1) (fun i => ((l.length : Int) - i.1).toNat) (fun _ => (decide (∀ s ∈ l, s.2.2.2.2.1 = 1), ())) ?_ _ ⟨0, by omega, rfl, by simp⟩
 rintro ⟨i, w, u⟩ ⟨k, h1, h2, h3⟩
 dsimp only at h2
 subst h2
 unfold aAr
 simp only [aaM]
 rcases zr k l.length with hk | hk
 ·have e : l.getD k zs = l[k] := by simp [hk]
  by_cases c : l[k].2.2.2.2.1 = 1
  ·left
   refine ⟨(((k + 1 : Nat) : Int), l[k].1, ()), ?_, ⟨k + 1, by omega, rfl, ?_⟩, by dsimp only; omega, ze⟩
   ·refine uT sd (uN sd (uF ?_ ?_))
    ·show ((l.getD k zs).2.2.2.2.1 != 1) = false
     rw [e, c]; rfl
    ·repeat refine za ?_
     rw [aaA (x := (k : Int) + 1) zc]
     show some (Sum.inl (((k + 1 : Nat) : Int), (l.getD k zs).1, ())) = _
     rw [e]
   ·intro s hs
    rw [zO hk] at hs
    rcases zH.1 hs with hs | hs
    ·exact h3 s hs
    ·rw [zX.1 hs]; exact c
  ·right
   rw [zn (fun h : ∀ s ∈ l, s.2.2.2.2.1 = 1 => c (h _ (ym hk)))]
   refine uT sd (uN sd (uT ?_ rfl))
   show ((l.getD k zs).2.2.2.2.1 != 1) = true
   rw [e]; simpa using c
 ·right
  rw [zu hk] at h3
  rw [zo h3]
  exact uF sd rfl
end Go.Vs
