/-
  Trees of what the functions compute, and their laws. Own work; no condition.
-/
import Derived.Test.YtakjojajnblpoaaGreatDoorClL2
import Derived.Test.YtakjojajnblpoaaGreatDoorProg
set_option linter.unusedVariables false
set_option linter.unusedSimpArgs false
set_option maxRecDepth 100000
namespace Go.Vs
open Go Go.Vg Go.Proofs
noncomputable section
def aPn : LTab := []
def azD (lo : Int) (hi : Int) : TT ux :=
 .ite (decide (-1000000000000000000 ≤ lo))
 (.ite (decide (lo ≤ hi))
 (.ok ((decide (hi ≤ 1000000000000000000), ())))
 (.ok ((false, ()))))
 (.ok ((false, ())))
def aRt : LTab := []
def aDr (lo : Int) (hi : Int) : TT uv :=
 .call (aeF (lo, hi, ())) Dd1 fun y =>
 .ite (!y.1)
 (.ok (((0, 0, ()), 6, ())))
 (.ok (((lo, hi, ()), 0, ())))
def aPr : LTab := []
def azF (b : Int × Int × Unit) : TT uA :=
 .call (aeF (b.1, b.2.1, ())) Dd1 fun y =>
 .ite (!y.1)
 (.ok ((30, ())))
 (.ok ((0, ())))
def aTD : LTab := []
def aPp (lo : Int) (hi : Int) : TT uv :=
 .call (aeF (lo, hi, ())) Dd1 fun y =>
 .ite (!y.1)
 (.ok (((0, 0, ()), 30, ())))
 (.ok (((lo, hi, ()), 0, ())))
def aPo : LTab := []
def aFN (l : List Int) : TT uA :=
 .call (azN (l, ())) Dd6 fun y =>
 .ok ((y.1, ()))
def aFO : LTab := []
def avD (l : List Int) : TT uA :=
 .call (azO (l, ())) Dd6 fun y =>
 .ok ((y.1, ()))
def aLK : LTab := []
def at6 (a : List UInt8 × List UInt8 × Unit) : TT uv :=
 .call (alW ((a.1, a.2.1, ()), 1000000000000, ())) aDK fun y =>
 .ite (y.2.1 != 0)
 (.ok (((0, 0, ()), y.2.1, ())))
 (.call (alZ (y.1, 1000000000000, ())) adS fun y1 =>
 .ite (y1.2.1 != 0)
 (.ok (((0, 0, ()), y1.2.1, ())))
 (.call (af1 ((a.1, a.2.1, ()), (y1.1.1, y1.1.2.1, ()), ())) aDK fun y2 =>
 .ite (y2.2.1 != 0)
 (.ok (((0, 0, ()), y2.2.1, ())))
 (.call (aeF (y.1, y.1, ())) Dd1 fun y3 =>
 .ite (!y3.1)
 (.ok (((0, 0, ()), 6, ())))
 (.call (ajF (w64 (y.1 + if 0 < y2.1 then 0 else y2.1), w64 (y.1 + if 0 > y2.1 then 0 else y2.1), ())) avT fun y4 =>
 .ok (((y4.1.1, y4.1.2.1, ()), y4.2.1, ()))))))
def aSY : LTab := [(113, 26, 13312, ⟨0, (Int) × Unit, .dat (.s 11) ud <| .nil, [10, 9, 4, 0], [8, 7, 2, 1, 0], 0⟩)]
def arI (a : Int × Int × Unit) (b : Int × Int × Unit) (i : (Int) × Unit) : TT (uG ⊕ uv) :=
 .ite (decide (i.1 < (↑2 : Int)))
 (.need (inb i.1 (↑2 : Int)) <| .call (aeF ((List.getD [(a.1, a.2.1, ()), (b.1, b.2.1, ())] (0 + Int.toNat i.1) (0, 0, ())).1, (List.getD [(a.1, a.2.1, ()), (b.1, b.2.1, ())] (0 + Int.toNat i.1) (0, 0, ())).2.1, ())) Dd1 fun y =>
 .ite (!y.1)
 (.ok (.inr (((0, 0, ()), 30, ()))))
 (.tt <| .lt (w64 (i.1 + 1) : Int) fun z => .triv (((z : Int) = z) ∧ (((↑2 : Int) : Int) = (↑2 : Int)) ∧ (((7) = (7)) ∧ (((0) = (0)) ∧ (((2) = (2)) ∧ ((true) = (true))))) ∧ (((8) = (8)) ∧ (((0) = (0)) ∧ ((true) = (true)))) ∧ (((201 : FuncId) = 201) ∧ (True ∧ ((((0) = (0)) ∧ (((0) = (0)) ∧ ((true) = (true)))) ∧ ((((1) = (1)) ∧ (((0) = (0)) ∧ ((true) = (true)))) ∧ True)))) ∧ True) ⟨rfl, rfl, ⟨rfl, ⟨rfl, ⟨rfl, rfl⟩⟩⟩, ⟨rfl, ⟨rfl, rfl⟩⟩, ⟨rfl, ⟨trivial, ⟨⟨rfl, ⟨rfl, rfl⟩⟩, ⟨⟨rfl, ⟨rfl, rfl⟩⟩, trivial⟩⟩⟩⟩, trivial⟩ <| .vL (vK uk <| vK (vP 53 ([(a.1, a.2.1, ()), (b.1, b.2.1, ())] : List uh)) <| vK uk <| vK (vO 53 b.1 b.2.1) <| vK (vO 53 a.1 a.2.1) True) <| .ok (.inl ((z, ())))))
 (.tt <| .tt <| .call (ajF (w64 (a.1 + b.1), w64 (a.2.1 + b.2.1), ())) avT fun y1 =>
 .ok (.inr (((y1.1.1, y1.1.2.1, ()), y1.2.1, ()))))
def aIc (a : Int × Int × Unit) (b : Int × Int × Unit) : TT uv :=
 .tt <| .tt <| .loop 0 (.tt <| .triv (((0 : Int) = 0) ∧ (((↑2 : Int) : Int) = (↑2 : Int)) ∧ (((7) = (7)) ∧ (((0) = (0)) ∧ (((2) = (2)) ∧ ((true) = (true))))) ∧ (((8) = (8)) ∧ (((0) = (0)) ∧ ((true) = (true)))) ∧ (((201 : FuncId) = 201) ∧ (True ∧ ((((0) = (0)) ∧ (((0) = (0)) ∧ ((true) = (true)))) ∧ ((((1) = (1)) ∧ (((0) = (0)) ∧ ((true) = (true)))) ∧ True)))) ∧ True) ⟨rfl, rfl, ⟨rfl, ⟨rfl, ⟨rfl, rfl⟩⟩⟩, ⟨rfl, ⟨rfl, rfl⟩⟩, ⟨rfl, ⟨trivial, ⟨⟨rfl, ⟨rfl, rfl⟩⟩, ⟨⟨rfl, ⟨rfl, rfl⟩⟩, trivial⟩⟩⟩⟩, trivial⟩ <| .vL (vK uk <| vK (vP 53 ([(a.1, a.2.1, ()), (b.1, b.2.1, ())] : List uh)) <| vK uk <| vK (vO 53 b.1 b.2.1) <| vK (vO 53 a.1 a.2.1) True) <| .ok ((0, ()))) (arI a b)
def aRv : LTab := [(113, 26, 20480, ⟨0, (Int) × Unit, .dat (.s 11) ud <| .nil, [10, 9, 4, 0], [15, 14, 9, 8, 7, 6, 2, 1, 0], 0⟩)]
def am0 (a : Int × Int × Unit) (b : Int × Int × Unit) (i : (Int) × Unit) : TT (uG ⊕ uv) :=
 .ite (decide (i.1 < (↑2 : Int)))
 (.need (inb i.1 (↑2 : Int)) <| .call (aeF ((List.getD [(a.1, a.2.1, ()), (b.1, b.2.1, ())] (0 + Int.toNat i.1) (0, 0, ())).1, (List.getD [(a.1, a.2.1, ()), (b.1, b.2.1, ())] (0 + Int.toNat i.1) (0, 0, ())).2.1, ())) Dd1 fun y =>
 .ite (!y.1)
 (.ok (.inr (((0, 0, ()), 30, ()))))
 (.tt <| .lt (w64 (i.1 + 1) : Int) fun z => .triv (((z : Int) = z) ∧ (((↑2 : Int) : Int) = (↑2 : Int)) ∧ (((14) = (14)) ∧ (((0) = (0)) ∧ (((2) = (2)) ∧ ((true) = (true))))) ∧ (((15) = (15)) ∧ (((0) = (0)) ∧ ((true) = (true)))) ∧ (((230 : FuncId) = 230) ∧ (True ∧ ((((7) = (7)) ∧ (((0) = (0)) ∧ ((true) = (true)))) ∧ ((((8) = (8)) ∧ (((0) = (0)) ∧ ((true) = (true)))) ∧ ((((6) = (6)) ∧ (((0) = (0)) ∧ ((true) = (true)))) ∧ True))))) ∧ True) ⟨rfl, rfl, ⟨rfl, ⟨rfl, ⟨rfl, rfl⟩⟩⟩, ⟨rfl, ⟨rfl, rfl⟩⟩, ⟨rfl, ⟨trivial, ⟨⟨rfl, ⟨rfl, rfl⟩⟩, ⟨⟨rfl, ⟨rfl, rfl⟩⟩, ⟨⟨rfl, ⟨rfl, rfl⟩⟩, trivial⟩⟩⟩⟩⟩, trivial⟩ <| .vL (vK uk <| vK (vP 53 ([(a.1, a.2.1, ()), (b.1, b.2.1, ())] : List uh)) <| vK uk <| vK (vO 53 b.1 b.2.1) <| vK (vO 53 a.1 a.2.1) <| vK (vX 3 (2 : Int)) <| vK uk <| vK (vO 53 b.1 b.2.1) <| vK (vO 53 a.1 a.2.1) True) <| .ok (.inl ((z, ())))))
 (.tt <| .tt <| .ite ((match a.1 == b.1 with | true => (match a.2.1 == b.2.1 with | true => true | false => false) | false => false))
 (.ok (.inr (((a.1, a.2.1, ()), 0, ()))))
 (.triv (asT Int 0 ≤ 2 ∧ 2 < (↑4 : Int)) zf <| .call (azR (List.take 2 [a.1, b.1], ())) Dd6 fun y1 =>
 .call (anB (List.take 2 [a.2.1, b.2.1], ())) Dd6 fun y2 =>
 .ite (decide (y1.1 > y2.1))
 (.ok (.inr (((0, 0, ()), 4, ()))))
 (.ok (.inr (((y1.1, y2.1, ()), 0, ()))))))
def aDs (a : Int × Int × Unit) (b : Int × Int × Unit) : TT uv :=
 .tt <| .tt <| .tt <| .tt <| .loop 0 (.tt <| .triv (((0 : Int) = 0) ∧ (((↑2 : Int) : Int) = (↑2 : Int)) ∧ (((14) = (14)) ∧ (((0) = (0)) ∧ (((2) = (2)) ∧ ((true) = (true))))) ∧ (((15) = (15)) ∧ (((0) = (0)) ∧ ((true) = (true)))) ∧ (((230 : FuncId) = 230) ∧ (True ∧ ((((7) = (7)) ∧ (((0) = (0)) ∧ ((true) = (true)))) ∧ ((((8) = (8)) ∧ (((0) = (0)) ∧ ((true) = (true)))) ∧ ((((6) = (6)) ∧ (((0) = (0)) ∧ ((true) = (true)))) ∧ True))))) ∧ True) ⟨rfl, rfl, ⟨rfl, ⟨rfl, ⟨rfl, rfl⟩⟩⟩, ⟨rfl, ⟨rfl, rfl⟩⟩, ⟨rfl, ⟨trivial, ⟨⟨rfl, ⟨rfl, rfl⟩⟩, ⟨⟨rfl, ⟨rfl, rfl⟩⟩, ⟨⟨rfl, ⟨rfl, rfl⟩⟩, trivial⟩⟩⟩⟩⟩, trivial⟩ <| .vL (vK uk <| vK (vP 53 ([(a.1, a.2.1, ()), (b.1, b.2.1, ())] : List uh)) <| vK uk <| vK (vO 53 b.1 b.2.1) <| vK (vO 53 a.1 a.2.1) <| vK (vX 3 (2 : Int)) <| vK uk <| vK (vO 53 b.1 b.2.1) <| vK (vO 53 a.1 a.2.1) True) <| .ok ((0, ()))) (am0 a b)
def aPq : LTab := [(113, 26, 13312, ⟨0, (Int) × Unit, .dat (.s 11) ud <| .nil, [10, 9, 4, 0], [8, 7, 3, 2, 1, 0], 0⟩)]
def akA (b : Int × Int × Unit) (lo : Int) (hi : Int) (i : (Int) × Unit) : TT (uG ⊕ uv) :=
 .ite (decide (i.1 < (↑1 : Int)))
 (.need (inb i.1 (↑1 : Int)) <| .call (aeF ((List.getD [(b.1, b.2.1, ())] (0 + Int.toNat i.1) (0, 0, ())).1, (List.getD [(b.1, b.2.1, ())] (0 + Int.toNat i.1) (0, 0, ())).2.1, ())) Dd1 fun y =>
 .ite (!y.1)
 (.ok (.inr (((0, 0, ()), 30, ()))))
 (.tt <| .lt (w64 (i.1 + 1) : Int) fun z => .triv (((z : Int) = z) ∧ (((↑1 : Int) : Int) = (↑1 : Int)) ∧ (((7) = (7)) ∧ (((0) = (0)) ∧ (((1) = (1)) ∧ ((true) = (true))))) ∧ (((8) = (8)) ∧ (((0) = (0)) ∧ ((true) = (true)))) ∧ (((114 : FuncId) = 114) ∧ (True ∧ ((((1) = (1)) ∧ (((0) = (0)) ∧ ((true) = (true)))) ∧ ((((2) = (2)) ∧ (((0) = (0)) ∧ ((true) = (true)))) ∧ ((((0) = (0)) ∧ (((0) = (0)) ∧ ((true) = (true)))) ∧ True))))) ∧ True) ⟨rfl, rfl, ⟨rfl, ⟨rfl, ⟨rfl, rfl⟩⟩⟩, ⟨rfl, ⟨rfl, rfl⟩⟩, ⟨rfl, ⟨trivial, ⟨⟨rfl, ⟨rfl, rfl⟩⟩, ⟨⟨rfl, ⟨rfl, rfl⟩⟩, ⟨⟨rfl, ⟨rfl, rfl⟩⟩, trivial⟩⟩⟩⟩⟩, trivial⟩ <| .vL (vK uk <| vK (vP 53 ([(b.1, b.2.1, ())] : List uh)) <| vK uk <| vK (vX 3 hi) <| vK (vX 3 lo) <| vK (vO 53 b.1 b.2.1) True) <| .ok (.inl ((z, ())))))
 (.tt <| .tt <| .call (aeF (lo, hi, ())) Dd1 fun y1 =>
 .ite (!y1.1)
 (.ok (.inr (((0, 0, ()), 2, ()))))
 (.call (ajF (if hi < if lo > b.1 then lo else b.1 then hi else if lo > b.1 then lo else b.1, if hi < if lo > b.2.1 then lo else b.2.1 then hi else if lo > b.2.1 then lo else b.2.1, ())) avT fun y2 =>
 .ok (.inr (((y2.1.1, y2.1.2.1, ()), y2.2.1, ())))))
def azE (b : Int × Int × Unit) (lo : Int) (hi : Int) : TT uv :=
 .tt <| .tt <| .loop 0 (.tt <| .triv (((0 : Int) = 0) ∧ (((↑1 : Int) : Int) = (↑1 : Int)) ∧ (((7) = (7)) ∧ (((0) = (0)) ∧ (((1) = (1)) ∧ ((true) = (true))))) ∧ (((8) = (8)) ∧ (((0) = (0)) ∧ ((true) = (true)))) ∧ (((114 : FuncId) = 114) ∧ (True ∧ ((((1) = (1)) ∧ (((0) = (0)) ∧ ((true) = (true)))) ∧ ((((2) = (2)) ∧ (((0) = (0)) ∧ ((true) = (true)))) ∧ ((((0) = (0)) ∧ (((0) = (0)) ∧ ((true) = (true)))) ∧ True))))) ∧ True) ⟨rfl, rfl, ⟨rfl, ⟨rfl, ⟨rfl, rfl⟩⟩⟩, ⟨rfl, ⟨rfl, rfl⟩⟩, ⟨rfl, ⟨trivial, ⟨⟨rfl, ⟨rfl, rfl⟩⟩, ⟨⟨rfl, ⟨rfl, rfl⟩⟩, ⟨⟨rfl, ⟨rfl, rfl⟩⟩, trivial⟩⟩⟩⟩⟩, trivial⟩ <| .vL (vK uk <| vK (vP 53 ([(b.1, b.2.1, ())] : List uh)) <| vK uk <| vK (vX 3 hi) <| vK (vX 3 lo) <| vK (vO 53 b.1 b.2.1) True) <| .ok ((0, ()))) (akA b lo hi)
def aR6 : LTab := [(251, 3, 1024, ⟨0, Unit, .nil, [2, 0], [], 0⟩), (251, 122, 6144, ⟨1, (Int) × (Int) × Unit, .dat (.s 4) ud <| .dat (.s 3) ud <| .nil, [2, 0], [], 0⟩)]
def aIs (x : List Int) (j : Unit) (i : (Int) × (Int) × Unit) : TT (uz ⊕ uA) :=
 .ite (decide (i.1 < len x))
 (.need (inb i.1 (len x)) <| .tt <| .lt (w64 (i.1 + 1) : Int) fun z1 => .lt (if gi x i.1 0 < i.2.1 then gi x i.1 0 else i.2.1 : Int) fun z2 => .vL (vN z2 z1 (0 : Int) x) <| .tr <| .ok (.inl ((z1, z2, ()))))
 (.ok (.inr ((i.2.1, ()))))
def aQe (x : List Int) (j : Unit) : TT uA :=
 .need (asT Int 0 ≤ 0 ∧ 0 < len x) <| .loop 1 (.tt <| .lt (gi x 0 0 : Int) fun z => .vL (vN z (1 : Int) (0 : Int) x) <| .tr <| .ok ((1, z, ()))) (aIs x j)
def aGu (x : List Int) : TT uA :=
 .join 0 (ι := Unit) (.ite (decide (len x < 1))
 (.bad)
 (.tt <| .vL (vX (0 : Int) x) <| .tr <| .ok (.inl (())))) (aQe x)
def aR7 : LTab := [(252, 3, 1024, ⟨0, Unit, .nil, [2, 0], [], 0⟩), (252, 122, 6144, ⟨1, (Int) × (Int) × Unit, .dat (.s 4) ud <| .dat (.s 3) ud <| .nil, [2, 0], [], 0⟩)]
def aIt (x : List Int) (j : Unit) (i : (Int) × (Int) × Unit) : TT (uz ⊕ uA) :=
 .ite (decide (i.1 < len x))
 (.need (inb i.1 (len x)) <| .tt <| .lt (w64 (i.1 + 1) : Int) fun z1 => .lt (if gi x i.1 0 > i.2.1 then gi x i.1 0 else i.2.1 : Int) fun z2 => .vL (vN z2 z1 (0 : Int) x) <| .tr <| .ok (.inl ((z1, z2, ()))))
 (.ok (.inr ((i.2.1, ()))))
def aQf (x : List Int) (j : Unit) : TT uA :=
 .need (asT Int 0 ≤ 0 ∧ 0 < len x) <| .loop 1 (.tt <| .lt (gi x 0 0 : Int) fun z => .vL (vN z (1 : Int) (0 : Int) x) <| .tr <| .ok ((1, z, ()))) (aIt x j)
def aGv (x : List Int) : TT uA :=
 .join 0 (ι := Unit) (.ite (decide (len x < 1))
 (.bad)
 (.tt <| .vL (vX (0 : Int) x) <| .tr <| .ok (.inl (())))) (aQf x)
def aG1 : LTab := []
def apF (n : Int) : TT uM :=
 .call (aJr (#[48].toList, n, ())) Dd2 fun y =>
 .need (List.length #[49].toList + List.length y.1 ≤ lim) <| .ok ((#[49].toList ++ y.1, ()))
def aQy : LTab := []
def aCw (a : List UInt8) (k : Int) : TT (List UInt8 × Bool × Int × Unit) :=
 .call (arN (a, k, ())) aGa fun y =>
 .ite (y.2.1 != 0)
 (.ok ((#[].toList, false, y.2.1, ())))
 (.call (am5 (y.1, k, ())) aGa fun y1 =>
 .ite (y1.2.1 != 0)
 (.ok ((#[].toList, false, y1.2.1, ())))
 (.ok ((y.1, y1.1 == a, 0, ()))))
def aG2 : LTab := []
def apG (a : List UInt8) (up0 : Bool) : TT uh :=
 .call (alS (a, ())) aDK fun y =>
 .ite (y.2.1 != 0)
 (.ok ((0, y.2.1, ())))
 (.ite (decide (y.1 > 1000000000000000000))
 (.ok ((0, 6, ())))
 (.ite (up0)
 (.ok ((w64 (y.1 + 1), 0, ())))
 (.ok ((y.1, 0, ())))))
def aKq : LTab := []
def as2 (e : Int × Int × Unit) : TT ux :=
 .ite (decide (e.1 ≥ 1))
 (.ite (decide (e.1 ≤ 36))
 (.ite (decide (e.2.1 ≥ 1))
 (.ok ((decide (e.2.1 ≤ 12), ())))
 (.ok ((false, ()))))
 (.ok ((false, ()))))
 (.ok ((false, ())))
def aQu : LTab := []
def aCr (p : uh × Unit) (n : Int) (up0 : Bool) : TT uh :=
 .call (avF (n, ())) Dd2 fun y =>
 .call (am5 (y.1, p.1.1, ())) aGa fun y1 =>
 .ite (y1.2.1 != 0)
 (.ok ((0, y1.2.1, ())))
 (.ite (decide (p.1.1 ≤ p.1.2.1))
 (.call (aiL (w64 (12 * w64 (p.1.2.1 - p.1.1)), ())) Dd2 fun y2 =>
 .call (auA (y1.1, y2.1, ())) aGa fun y3 =>
 .ite (y3.2.1 != 0)
 (.ok ((0, y3.2.1, ())))
 (.call (arW (y3.1, p.1.2.1, ())) aUg fun y4 =>
 .ite (y4.2.2.1 != 0)
 (.ok ((0, y4.2.2.1, ())))
 (.ite (up0)
 (.ite (y4.2.1)
 (.call (acY (y4.1, !#[48].toList == #[48].toList, ())) aDK fun y5 =>
 .ok ((y5.1, y5.2.1, ())))
 (.call (acY (y4.1, !false, ())) aDK fun y6 =>
 .ok ((y6.1, y6.2.1, ()))))
 (.call (acY (y4.1, false, ())) aDK fun y7 =>
 .ok ((y7.1, y7.2.1, ()))))))
 (.call (aiL (w64 (12 * w64 (p.1.1 - p.1.2.1)), ())) Dd2 fun y8 =>
 .call (auB (y1.1, y8.1, ())) aUn fun y9 =>
 .ite (y9.2.2.1 != 0)
 (.ok ((0, y9.2.2.1, ())))
 (.call (arW (y9.1, p.1.2.1, ())) aUg fun y10 =>
 .ite (y10.2.2.1 != 0)
 (.ok ((0, y10.2.2.1, ())))
 (.ite (up0)
 (.ite (y10.2.1)
 (.call (acY (y10.1, !y9.2.1 == #[48].toList, ())) aDK fun y11 =>
 .ok ((y11.1, y11.2.1, ())))
 (.call (acY (y10.1, !false, ())) aDK fun y12 =>
 .ok ((y12.1, y12.2.1, ()))))
 (.call (acY (y10.1, false, ())) aDK fun y13 =>
 .ok ((y13.1, y13.2.1, ())))))))
def aNi : LTab := []
def axH (b : Int × Int × Unit) (p : Int) (q : Int) : TT uv :=
 .call (ar4 ((b.1, b.2.1, ()), ())) Dd6 fun y =>
 .ite (y.1 != 0)
 (.ok (((0, 0, ()), y.1, ())))
 (.call (auC ((p, q, ()), ())) Dd1 fun y1 =>
 .ite (!y1.1)
 (.ok (((0, 0, ()), 2, ())))
 (.ite (decide (b.1 < 0))
 (.ok (((0, 0, ()), 2, ())))
 (.tt <| .tt <| .call (arV (((p, q, ()), ()), b.1, false, ())) aDK fun y2 =>
 .ite (y2.2.1 != 0)
 (.ok (((0, 0, ()), y2.2.1, ())))
 (.call (arV (((p, q, ()), ()), b.2.1, true, ())) aDK fun y3 =>
 .ite (y3.2.1 != 0)
 (.ok (((0, 0, ()), y3.2.1, ())))
 (.call (aJs (y2.1, y3.1, ())) avT fun y4 =>
 .ite (y4.2.1 != 0)
 (.ok (((0, 0, ()), 6, ())))
 (.ok (((y4.1.1, y4.1.2.1, ()), 0, ()))))))))
end
open Go Go.Vg
theorem aH8 (lo hi : Int) (y) (h : aeF (lo, hi, ()) = some y) : (azD lo hi).toO = some y := by
 injection h with h
 subst h
 unfold azD
 by_cases h1 : -1000000000000000000 ≤ lo
 ·refine uT (zo h1) ?_
  by_cases h2 : lo ≤ hi
  ·refine uT (zo h2) ?_
   simp [aaJ, okB, h1, h2]
  ·refine uF (zn h2) ?_
   simp [aaJ, okB, h2]
 ·refine uF (zn h1) ?_
  simp [aaJ, okB, h1]
theorem anJ (lo hi : Int) : aeF (lo, hi, ()) = some (decide (okB lo hi), ()) := rfl
theorem aLI (lo hi : Int) (y) (h : ajF (lo, hi, ()) = some y) : (aDr lo hi).toO = some y := by
 unfold ajF mkB at h
 dsimp only at h
 unfold aDr
 refine uC _ (anJ lo hi) ?_
 by_cases h1 : okB lo hi
 ·rw [if_pos h1] at h
  exact uF (by rw [zo h1]; rfl) h
 ·rw [if_neg h1] at h
  exact uT (by rw [zn h1]; rfl) h
theorem aRu (lo hi : Int) (y) (h : aJs (lo, hi, ()) = some y) : (aPp lo hi).toO = some y := by
 unfold aJs mkB at h
 dsimp only at h
 unfold aPp
 refine uC _ (anJ lo hi) ?_
 by_cases h1 : okB lo hi
 ·rw [if_pos h1] at h
  exact uF (by rw [zo h1]; rfl) h
 ·rw [if_neg h1] at h
  exact uT (by rw [zn h1]; rfl) h
theorem aIb (b : BdT) (y) (h : ar4 (b, ()) = some y) : (azF b).toO = some y := by
 unfold ar4 at h
 dsimp only at h
 unfold azF
 refine uC _ (anJ b.1 b.2.1) ?_
 by_cases h1 : okB b.1 b.2.1
 ·rw [if_pos h1] at h
  exact uF (by rw [zo h1]; rfl) h
 ·rw [if_neg h1] at h
  exact uT (by rw [zn h1]; rfl) h
theorem aMA (x : List Int) (y) (h : azN (x, ()) = some y) : (aGu x).toO = some y := by
 unfold azN at h
 cases x with
 | nil => cases h
 | cons a l =>
  simp only at h
  split at h
  ·rename_i hl
   injection h with h
   subst h
   unfold aGu
   refine uL () (uF (by (try simp only [ym, yk, yF, xf, beq_eq_false_iff_ne, bne_eq_false_iff_eq, zT, yC]) <;> (try simp only [aaC, inb, inc, ge_iff_le, gt_iff_lt, zp, asT, ne_eq]) <;> simp only [zG] <;> omega) rfl) ?_
   refine uN ⟨by simp [asT], by (try simp only [aaC, inb, inc, ge_iff_le, gt_iff_lt, zp, asT, ne_eq]); simp only [zG]; omega⟩ ?_
   refine uO (1, a, ()) rfl ?_
   refine aaL (fun i : Int × Int × Unit => ∃ k : Nat, k ≤ l.length ∧ i = (((k + 1 : Nat) : Int), (l.take k).foldl (fun m y => if y < m then y else m) a, ())) (fun i => ((l.length + 1 : Nat) - i.1).toNat) (fun _ => (l.foldl (fun m y => if y < m then y else m) a, ())) ?_ _ ⟨0, by omega, rfl⟩
   rintro i ⟨k, hk, rfl⟩
   simp only [aIs, aaM]
   rcases zr k l.length with h1 | h1
   ·left
    refine ⟨(((k + 1 + 1 : Nat) : Int), (l.take (k + 1)).foldl (fun m y => if y < m then y else m) a, ()), ?_, ⟨k + 1, by omega, rfl⟩, by simp only; omega, ze⟩
    refine uT (by (try simp only [ym, yk, yF, xf, beq_eq_false_iff_ne, bne_eq_false_iff_eq, zT, yC]) <;> (try simp only [aaC, inb, inc, ge_iff_le, gt_iff_lt, zp, asT, ne_eq]) <;> simp only [zG] <;> omega) (uN ⟨by omega, by (try simp only [aaC, inb, inc, ge_iff_le, gt_iff_lt, zp, asT, ne_eq]); simp only [zG]; omega⟩ ?_)
    repeat refine za ?_
    rw [zX h1, List.foldl_append]
    have e : (a :: l).getD (k + 1) 0 = l[k] := by simp [h1]
    rw [e, aaA (x := ((k + 1 : Nat) : Int) + 1) zc]
    rfl
   ·right
    refine uF (by (try simp only [ym, yk, yF, xf, beq_eq_false_iff_ne, bne_eq_false_iff_eq, zT, yC]) <;> (try simp only [aaC, inb, inc, ge_iff_le, gt_iff_lt, zp, asT, ne_eq]) <;> simp only [zG] <;> omega) ?_
    rw [zx h1]; rfl
  ·cases h
theorem aMB (x : List Int) (y) (h : azO (x, ()) = some y) : (aGv x).toO = some y := by
 unfold azO at h
 cases x with
 | nil => cases h
 | cons a l =>
  simp only at h
  split at h
  ·rename_i hl
   injection h with h
   subst h
   unfold aGv
   refine uL () (uF (by (try simp only [ym, yk, yF, xf, beq_eq_false_iff_ne, bne_eq_false_iff_eq, zT, yC]) <;> (try simp only [aaC, inb, inc, ge_iff_le, gt_iff_lt, zp, asT, ne_eq]) <;> simp only [zG] <;> omega) rfl) ?_
   refine uN ⟨by simp [asT], by (try simp only [aaC, inb, inc, ge_iff_le, gt_iff_lt, zp, asT, ne_eq]); simp only [zG]; omega⟩ ?_
   refine uO (1, a, ()) rfl ?_
   refine aaL (fun i : Int × Int × Unit => ∃ k : Nat, k ≤ l.length ∧ i = (((k + 1 : Nat) : Int), (l.take k).foldl (fun m y => if y > m then y else m) a, ())) (fun i => ((l.length + 1 : Nat) - i.1).toNat) (fun _ => (l.foldl (fun m y => if y > m then y else m) a, ())) ?_ _ ⟨0, by omega, rfl⟩
   rintro i ⟨k, hk, rfl⟩
   simp only [aIt, aaM]
   rcases zr k l.length with h1 | h1
   ·left
    refine ⟨(((k + 1 + 1 : Nat) : Int), (l.take (k + 1)).foldl (fun m y => if y > m then y else m) a, ()), ?_, ⟨k + 1, by omega, rfl⟩, by simp only; omega, ze⟩
    refine uT (by (try simp only [ym, yk, yF, xf, beq_eq_false_iff_ne, bne_eq_false_iff_eq, zT, yC]) <;> (try simp only [aaC, inb, inc, ge_iff_le, gt_iff_lt, zp, asT, ne_eq]) <;> simp only [zG] <;> omega) (uN ⟨by omega, by (try simp only [aaC, inb, inc, ge_iff_le, gt_iff_lt, zp, asT, ne_eq]); simp only [zG]; omega⟩ ?_)
    repeat refine za ?_
    rw [zX h1, List.foldl_append]
    have e : (a :: l).getD (k + 1) 0 = l[k] := by simp [h1]
    rw [e, aaA (x := ((k + 1 : Nat) : Int) + 1) zc]
    rfl
   ·right
    refine uF (by (try simp only [ym, yk, yF, xf, beq_eq_false_iff_ne, bne_eq_false_iff_eq, zT, yC]) <;> (try simp only [aaC, inb, inc, ge_iff_le, gt_iff_lt, zp, asT, ne_eq]) <;> simp only [zG] <;> omega) ?_
    rw [zx h1]; rfl
  ·cases h
theorem aH9 (l : List Int) (y) (h : azR (l, ()) = some y) : (aFN l).toO = some y := uC _ h rfl
theorem aAx (l : List Int) (y) (h : anB (l, ()) = some y) : (avD l).toO = some y := uC _ h rfl
theorem amR (q : Rat) (n : Int) : n ≤ fl q ↔ (n : Rat) ≤ q := by
 unfold fl
 rw [Rat.le_iff, xM (by have := q.den_pos; omega)]
 simp
theorem aD4 (a b : Rat) : a < b ∨ a = b ∨ b < a := by grind
theorem aLa {q : Rat} {n : Int} (h1 : (n : Rat) ≤ q) (h2 : q < ((n + 1 : Int) : Rat)) : fl q = n := by
 have e1 := (amR q n).2 h1
 have e2 : ¬ (n + 1 ≤ fl q) := fun h => by
  have := (amR q (n + 1)).1 h
  exact absurd h2 (vl.2 this)
 omega
theorem aTs (q : Rat) : ((fl q : Int) : Rat) ≤ q := (amR q _).1 (Int.le_refl _)
theorem aT3 (q : Rat) : q < ((fl q + 1 : Int) : Rat) := by
 rcases Rat.not_le.1 (fun h => by have := (amR q (fl q + 1)).2 h; omega) with h
 exact h
theorem aIe {x : Rat} {n : Int} (hn : fl (x + 1 / 2) = n) : (x = n → fl x = n ∧ -fl (-x) = n) ∧ (x < n → fl x = n - 1 ∧ -fl (-x) = n) ∧ ((n : Rat) < x → fl x = n ∧ -fl (-x) = n + 1) := by
 have a1 := aTs (x + 1 / 2)
 have a2 := aT3 (x + 1 / 2)
 rw [hn] at a1 a2
 rw [xW] at a2
 refine ⟨fun h => ⟨aLa ?_ ?_, ?_⟩, fun h => ⟨aLa ?_ ?_, ?_⟩, fun h => ⟨aLa ?_ ?_, ?_⟩⟩
 ·grind
 ·rw [xW]; grind
 ·have : fl (-x) = -n := aLa (by rw [wB]; grind) (by rw [xW, wB]; grind)
  omega
 ·rw [vH]; grind
 ·rw [xW, vH]; grind
 ·have : fl (-x) = -n := aLa (by rw [wB]; grind) (by rw [xW, wB]; grind)
  omega
 ·grind
 ·rw [xW]; grind
 ·have : fl (-x) = -n - 1 := aLa (by rw [vH, wB]; grind) (by rw [xW, vH, wB]; grind)
  omega
theorem aeA {n : Int} {d : Nat} (hd : d ≠ 0) (h1 : Fit n) (h2 : Fit d) : ab6 (mkRat n d) := by
 obtain ⟨g, t, hg, g0, e0, e1, e2⟩ := ae6 n hd
 refine ⟨ac7 h1 ?_, ac7 h2 ?_⟩
 ·rw [e1, ← adA e0 g0]; exact xB _ _
 ·rw [e2]; simp only [zQ]; exact xB _ _
theorem aNr {n : Int} {d : Nat} (hd : d ≠ 0) (h1 : Fit n) (h2 : Fit d) : ofQ n d = (fx (mkRat n d), 0, ()) := by
 unfold ofQ
 rw [if_neg zc, xh, aGc (aeA hd h1 h2)]
theorem aTK {n : Int} {d : Nat} (hn : abA n) (hd : d ≠ 0) (h2 : d ≤ 9223372036854775807) : alZ (n, (d : Int), ()) = some (fx (mkRat n d), 0, ()) := by
 have hd2 : abA (d : Int) := ⟨by omega, by omega⟩
 unfold alZ
 rw [if_pos ⟨hn, hd2⟩]
 simp only [aNr hd (abK hn) (abK hd2)]
theorem aqT (n : Int) {d : Nat} (hd : d ≠ 0) : mkRat n d * (d : Rat) = (n : Rat) := by
 rw [Rat.mkRat_eq_div]
 exact Rat.div_mul_cancel (by simpa using hd)
theorem aTj (q : Rat) : aqS q 1000000000000 = fl (q * al1 + 1 / 2) := by
 unfold aqS al1
 rw [show mkRat 1 2 = (1 / 2 : Rat) by rw [Rat.mkRat_eq_div]; rfl]
theorem aFP (a : FxT) (y) (h : agN (a, ()) = some y) : (at6 a).toO = some y := by
 unfold agN at h
 dsimp only at h
 unfold at6
 cases ha : rdF a with
 | none =>
  simp only [ha] at h
  exact uC (0, 20, ()) (by unfold alW; dsimp only; rw [show rdF (a.1, a.2.1, ()) = none from ha]) (uT rfl h)
 | some q =>
  simp only [ha] at h
  have hq := (ac0 ha).1
  have hnear : alW ((a.1, a.2.1, ()), 1000000000000, ()) = some (if abA (aqS q 1000000000000) then (aqS q 1000000000000, 0, ()) else (0, 6, ())) := by
   unfold alW
   dsimp only
   rw [show rdF (a.1, a.2.1, ()) = some q from ha]
   simp only
   rw [if_neg zc]
   rfl
  rw [aTj] at hnear
  have hst := aIe (x := q * al1) rfl
  generalize hn : fl (q * al1 + 1 / 2) = n at *
  unfold agX mkB at h
  by_cases hi : abA n
  ·rw [if_pos hi] at hnear
   refine uC _ hnear (uF rfl ?_)
   have hof := aTK (n := n) (d := 1000000000000) hi zc zc
   refine uC _ hof (uF rfl ?_)
   have hfr : ab6 (mkRat n 1000000000000) := aeA zc (abK hi) (abK ⟨by omega, by omega⟩)
   have hm := aqT n (d := 1000000000000) zc
   have hcmp : af1 ((a.1, a.2.1, ()), (dec (mkRat n 1000000000000).num, aa2 (mkRat n 1000000000000).den, ()), ()) = some (avL q (mkRat n 1000000000000), 0, ()) := by
    unfold af1
    simp only [show rdF (a.1, a.2.1, ()) = some q from ha, afD hfr]
   refine uC _ hcmp (uF rfl ?_)
   refine uC _ (anJ n n) ?_
   have hx : al1 = ((1000000000000 : Nat) : Rat) := rfl
   generalize mkRat n 1000000000000 = r at *
   rw [← hx] at hm
   have hone : (0 : Rat) < al1 := by rw [hx]; decide
   have hlt : q < r ↔ q * al1 < n := by rw [← hm]; exact (vI hone).symm
   have heq : q = r ↔ q * al1 = n := by
    rw [← hm]
    constructor
    ·rintro rfl; rfl
    ·intro h
     rcases aD4 q r with c | c | c
     ·have := (vI hone).2 c; grind
     ·exact c
     ·have := (vI hone).2 c; grind
   generalize q * al1 = x at *
   by_cases hv : okB n n
   ·refine uF (by rw [zo hv]; rfl) ?_
    obtain ⟨v1, v2, v3⟩ := hv
    have key : ∀ lo hi : Int, w64 (n + if 0 < avL q r then 0 else avL q r) = lo → w64 (n + if 0 > avL q r then 0 else avL q r) = hi → fl x = lo ∧ -fl (-x) = hi → (TT.call (ajF (w64 (n + if 0 < avL q r then 0 else avL q r), w64 (n + if 0 > avL q r then 0 else avL q r), ())) (Ty.dflt (Ty.pair tW uE)) fun y4 => TT.ok ((y4.1.1, y4.1.2.1, ()), y4.2.1, ())).toO = some y := by
     intro lo hi' h1 h2 h3
     rw [h1, h2]
     refine uC (mkB 6 lo hi') rfl ?_
     rw [h3.1, h3.2] at h
     exact h
    refine key _ _ rfl rfl ?_
    unfold avL
    by_cases c1 : q < r
    ·rw [if_pos c1]
     obtain ⟨g1, g2⟩ := hst.2.1 (hlt.1 c1)
     rw [if_neg zc, if_pos zc, aaA zc, aaA zc, g1, g2]
     omega
    ·rw [if_neg c1]
     by_cases c2 : q = r
     ·rw [if_pos c2]
      obtain ⟨g1, g2⟩ := hst.1 (heq.1 c2)
      rw [if_neg zc, aaA zc, g1, g2]
      omega
     ·rw [if_neg c2]
      have c3 : (n : Rat) < x := by
       rcases aD4 x n with c | c | c
       ·exact absurd (hlt.2 c) c1
       ·exact absurd (heq.2 c) c2
       ·exact c
      obtain ⟨g1, g2⟩ := hst.2.2 c3
      rw [if_pos zc, if_neg zc, aaA zc, aaA zc, g1, g2]
      omega
   ·refine uT (by rw [zn hv]; rfl) ?_
    rw [if_neg] at h
    ·exact h
    ·intro hok
     apply hv
     unfold okB at hok ⊢
     rcases aD4 x n with c | c | c
     ·have := hst.2.1 c; omega
     ·have := hst.1 c; omega
     ·have := hst.2.2 c; omega
  ·rw [if_neg hi] at hnear
   refine uC _ hnear (uT rfl ?_)
   rw [if_neg] at h
   ·exact h
   ·intro hok
    apply hi
    unfold okB at hok
    unfold abA
    rcases aD4 (q * al1) n with c | c | c
    ·have := hst.2.1 c; omega
    ·have := hst.1 c; omega
    ·have := hst.2.2 c; omega
theorem aJy (lo hi : Int) : ajF (lo, hi, ()) = some (mkB 6 lo hi) := rfl
theorem aTl {α : Type} {R : Int × Unit → Option ((Int × Unit) ⊕ α)} {a : α} (ok0 ok1 : Prop) [Decidable ok0] [Decidable ok1] {e z : α}
  (h0 : R (0, ()) = if ok0 then some (.inl (1, ())) else some (.inr e)) (h1 : R (1, ()) = if ok1 then some (.inl (2, ())) else some (.inr e)) (h2 : ok0 → ok1 → R (2, ()) = some (.inr z))
  (hz : a = if ok0 ∧ ok1 then z else e) : adG R (0, ()) = some a := by
 subst hz
 by_cases c0 : ok0
 ·rw [if_pos c0] at h0
  rw [ac4 h0]
  by_cases c1 : ok1
  ·rw [if_pos c1] at h1
   rw [ac4 h1, acL (h2 c0 c1), if_pos ⟨c0, c1⟩]
  ·rw [if_neg c1] at h1
   rw [acL h1, if_neg (fun h => c1 h.2)]
 ·rw [if_neg c0] at h0
  rw [acL h0, if_neg (fun h => c0 h.1)]
theorem aPs (a b : BdT) (y) (h : aIg (a, b, ()) = some y) : (aIc a b).toO = some y := by
 injection h with h
 unfold aIc
 refine uV (uV (uO (0, ()) rfl ?_))
 refine aTl (okB a.1 a.2.1) (okB b.1 b.2.1) (z := mkB 6 (a.1 + b.1) (a.2.1 + b.2.1)) ?_ ?_ ?_ h.symm
 ·by_cases c : okB a.1 a.2.1
  ·rw [if_pos c]
   unfold arI
   refine uT zf (uN zf (uC (decide (okB a.1 a.2.1), ()) rfl (uF (by rw [zo c]; rfl) ?_)))
   repeat refine za ?_
   rfl
  ·rw [if_neg c]
   unfold arI
   exact uT zf (uN zf (uC (decide (okB a.1 a.2.1), ()) rfl (uT (by rw [zn c]; rfl) rfl)))
 ·by_cases c : okB b.1 b.2.1
  ·rw [if_pos c]
   unfold arI
   refine uT zf (uN zf (uC (decide (okB b.1 b.2.1), ()) rfl (uF (by rw [zo c]; rfl) ?_)))
   repeat refine za ?_
   rfl
  ·rw [if_neg c]
   unfold arI
   exact uT zf (uN zf (uC (decide (okB b.1 b.2.1), ()) rfl (uT (by rw [zn c]; rfl) rfl)))
 ·intro c0 c1
  obtain ⟨u1, u2, u3⟩ := c0
  obtain ⟨w1, w2, w3⟩ := c1
  refine uF zf (uV (uV ?_))
  rw [aaA (x := a.1 + b.1) zc, aaA (x := a.2.1 + b.2.1) zc]
  exact uC _ (aJy _ _) rfl
theorem aLJ (a b : BdT) (y) (h : ar3 (a, b, ()) = some y) : (aDs a b).toO = some y := by
 injection h with h
 unfold aDs
 refine uV (uV (uV (uV (uO (0, ()) rfl ?_))))
 refine aTl (okB a.1 a.2.1) (okB b.1 b.2.1) (z := ((min a.1 b.1, max a.2.1 b.2.1, ()), 0, ())) ?_ ?_ ?_ h.symm
 ·by_cases c : okB a.1 a.2.1
  ·rw [if_pos c]
   unfold am0
   refine uT zf (uN zf (uC (decide (okB a.1 a.2.1), ()) rfl (uF (by rw [zo c]; rfl) ?_)))
   repeat refine za ?_
   rfl
  ·rw [if_neg c]
   unfold am0
   exact uT zf (uN zf (uC (decide (okB a.1 a.2.1), ()) rfl (uT (by rw [zn c]; rfl) rfl)))
 ·by_cases c : okB b.1 b.2.1
  ·rw [if_pos c]
   unfold am0
   refine uT zf (uN zf (uC (decide (okB b.1 b.2.1), ()) rfl (uF (by rw [zo c]; rfl) ?_)))
   repeat refine za ?_
   rfl
  ·rw [if_neg c]
   unfold am0
   exact uT zf (uN zf (uC (decide (okB b.1 b.2.1), ()) rfl (uT (by rw [zn c]; rfl) rfl)))
 ·intro c0 c1
  obtain ⟨u1, u2, u3⟩ := c0
  obtain ⟨w1, w2, w3⟩ := c1
  refine uF zf (uV (uV ?_))
  by_cases he : a.1 = b.1 ∧ a.2.1 = b.2.1
  ·refine uT ?_ ?_
   ·rw [he.1, he.2]; simp
   ·rw [aaJ, he.1, he.2, Int.min_self, Int.max_self]
  ·refine uF ?_ ?_
   ·by_cases e1 : a.1 = b.1
    ·have e2 : a.2.1 ≠ b.2.1 := fun h => he ⟨e1, h⟩
     have b1 : (a.1 == b.1) = true := by rw [e1]; simp
     have b2 : (a.2.1 == b.2.1) = false := by rw [beq_eq_false_iff_ne]; exact e2
     rw [b1, b2]
    ·have b1 : (a.1 == b.1) = false := by rw [beq_eq_false_iff_ne]; exact e1
     rw [b1]
   refine uV ?_
   refine uC (if b.1 < a.1 then b.1 else a.1, ()) rfl ?_
   refine uC (if b.2.1 > a.2.1 then b.2.1 else a.2.1, ()) rfl ?_
   have m1 : (if b.1 < a.1 then b.1 else a.1) = min a.1 b.1 := by rw [Int.min_def]; split <;> split <;> omega
   have m2 : (if b.2.1 > a.2.1 then b.2.1 else a.2.1) = max a.2.1 b.2.1 := by rw [Int.max_def]; split <;> split <;> omega
   simp only [m1, m2]
   refine uF sd rfl
theorem aIa (b : BdT) (lo hi : Int) (y) (h : akS (b, lo, hi, ()) = some y) : (azE b lo hi).toO = some y := by
 injection h with h
 unfold azE
 refine uV (uV (uO (0, ()) rfl ?_))
 unfold aBE at h
 dsimp only at h
 by_cases c : okB b.1 b.2.1
 ·rw [if_pos c] at h
  have h0 : (akA b lo hi (0, ())).toO = some (.inl (1, ())) := by
   unfold akA
   refine uT zf (uN zf (uC (decide (okB b.1 b.2.1), ()) rfl (uF (by rw [zo c]; rfl) ?_)))
   repeat refine za ?_
   rfl
  rw [ac4 h0]
  refine acL ?_
  unfold akA
  refine uF zf (uV (uV (uC _ (anJ lo hi) ?_)))
  by_cases c2 : okB lo hi
  ·rw [if_pos c2] at h
   refine uF (by rw [zo c2]; rfl) ?_
   have m : ∀ x : Int, (if hi < if lo > x then lo else x then hi else if lo > x then lo else x) = min (max x lo) hi := by
    intro x
    rw [Int.min_def, Int.max_def]
    split <;> split <;> split <;> omega
   simp only [m]
   refine uC _ (aJy _ _) ?_
   unfold okB at c c2
   unfold mkB
   rw [if_pos (by unfold okB; omega), ← h]
   rfl
  ·rw [if_neg c2] at h
   exact uT (by rw [zn c2]; rfl) (by rw [← h]; rfl)
 ·rw [if_neg c] at h
  refine acL ?_
  unfold akA
  exact uT zf (uN zf (uC (decide (okB b.1 b.2.1), ()) rfl (uT (by rw [zn c]; rfl) (by rw [← h]; rfl))))
theorem aRl (n : Nat) : aa2 (10 ^ n) = 49 :: List.replicate n 48 := by
 induction n with
 | zero => rw [Nat.pow_zero, abL zc]; rfl
 | succ n ih =>
  have h1 : 1 ≤ 10 ^ n := xp zc
  rw [yz, afQ zc, wC _ zc, Nat.mul_mod_left, ih, wP]
  rfl
theorem aTr (n : Nat) : (List.replicate n ([48] : List UInt8)).flatten = List.replicate n 48 := by
 induction n with
 | zero => rfl
 | succ n ih => rw [xm, List.flatten_cons, ih, xm]; rfl
theorem azZ {n : Nat} (h : n ≤ 1000) : aiL ((n : Int), ()) = some (aa2 (10 ^ n), ()) := aaG (enc := fun x : Nat => ((x : Int), ())) n h (fun b hb => Int.ofNat.inj (Prod.mk.inj hb).1)
theorem aCv (n : Int) (y) (h : aiL (n, ()) = some y) : (apF n).toO = some y := by
 obtain ⟨k, hp, hx, rfl⟩ := aaD h
 obtain ⟨rfl, -⟩ := Prod.mk.inj hx
 unfold apF
 refine uC (List.replicate k 48, ()) ?_ ?_
 ·unfold aJr
  rw [if_pos ⟨by simp only; omega, by simp only; omega, by show 1 ≤ 1000; omega⟩]
  simp only [zp]
  rw [aTr]
 ·refine uN ?_ ?_
  ·simp only [xS]
   show 1 + k ≤ lim
   unfold lim; omega
  ·rw [aRl]; rfl
theorem akW {n : Nat} (h : Fit (n : Int)) : rdW (aa2 n) = some (n : Int) := by rw [← aeQ]; exact amB h
theorem aOY {p q : Nat × Nat} (h : (aa2 p.1, (p.2 : Int), ()) = (aa2 q.1, (q.2 : Int), ())) : p = q := by
 obtain ⟨h1, h2⟩ := Prod.mk.inj h
 obtain ⟨h2, -⟩ := Prod.mk.inj h2
 exact Prod.ext (ai3 h1) (Int.ofNat.inj h2)
theorem aJu {n k : Nat} (h1 : Fit (n : Int)) (h2 : 1 ≤ k) (h3 : k ≤ 12) : arW (aa2 n, (k : Int), ()) = some (aa2 (ad9 k n), decide (ad9 k n ^ k = n), 0, ()) := aaG (enc := fun x : Nat × Nat => (aa2 x.1, (x.2 : Int), ())) (n, k) ⟨h1, h2, h3⟩ (fun b hb => aOY hb)
theorem aKs (a : List UInt8) (k : Int) (y) (h : arW (a, k, ()) = some y) : (aCw a k).toO = some y := by
 obtain ⟨⟨n, j⟩, hp, hx, rfl⟩ := aaD h
 obtain ⟨rfl, hx2⟩ := Prod.mk.inj hx; obtain ⟨rfl, -⟩ := Prod.mk.inj hx2; dsimp only
 obtain ⟨h1, h2, h3⟩ := hp
 simp only at h1 h2 h3
 obtain ⟨s1, s2⟩ := an1 n h2
 have hle := av5 (n := n) h2
 have f1 : Fit (ad9 j n : Int) := ac7 h1 (by simp only [zQ]; exact hle)
 have f2 : Fit ((ad9 j n ^ j : Nat) : Int) := ac7 h1 (by simp only [zQ]; exact s1)
 unfold aCw
 refine uC (aa2 (ad9 j n), 0, ()) ?_ (uF rfl ?_)
 ·unfold arN
  dsimp only
  rw [akW h1]
  dsimp only
  rw [if_neg zc, zp, zQ, ajH f1, aeQ]
 refine uC (aa2 (ad9 j n ^ j), 0, ()) ?_ (uF rfl ?_)
 ·unfold am5
  dsimp only
  rw [akW f1]
  dsimp only
  rw [if_neg zc, zp, ← xV, ajH f2, aeQ]
 ·rw [aaJ]
  have : (aa2 (ad9 j n ^ j) == aa2 n) = decide (ad9 j n ^ j = n) := by
   by_cases c : ad9 j n ^ j = n
   ·rw [c, zo rfl]; simp
   ·rw [zn c, beq_eq_false_iff_ne]
    exact fun h => c (ai3 h)
  rw [this]
theorem agO {n : Nat} {u : Bool} (h1 : Fit (n : Int)) : acY (aa2 n, u, ()) = some (if n > 1000000000000000000 then (0, 6, ()) else ((n : Int) + (if u then 1 else 0), 0, ())) := by
 refine aaG (enc := fun x : Nat × Bool => (aa2 x.1, x.2, ())) (n, u) h1 (fun b hb => ?_)
 obtain ⟨e1, e2⟩ := Prod.mk.inj hb
 obtain ⟨e2, -⟩ := Prod.mk.inj e2
 exact Prod.ext (ai3 e1) e2
theorem aCx (a : List UInt8) (u : Bool) (y) (h : acY (a, u, ()) = some y) : (apG a u).toO = some y := by
 obtain ⟨⟨n, v⟩, hp, hx, rfl⟩ := aaD h
 obtain ⟨rfl, hx2⟩ := Prod.mk.inj hx; obtain ⟨rfl, -⟩ := Prod.mk.inj hx2; dsimp only
 simp only at hp
 unfold apG
 have hi : alS (aa2 n, ()) = some (if abA n then ((n : Int), 0, ()) else (0, 6, ())) := by rw [← aeQ]; exact azW hp
 by_cases c : abA n
 ·rw [if_pos c] at hi
  unfold abA at c
  refine uC _ hi (uF rfl ?_)
  by_cases c2 : n > 1000000000000000000
  ·rw [if_pos c2]
   exact uT (zo zk) rfl
  ·rw [if_neg c2]
   refine uF (zn zk) ?_
   cases u
   ·exact uF rfl (by simp [aaJ])
   ·refine uT rfl ?_
    rw [aaJ, aaA zk]; rfl
 ·rw [if_neg c] at hi
  unfold abA at c
  rw [if_pos zc]
  exact uC _ hi (uT rfl rfl)
theorem aEC (e : Int × Int × Unit) (y) (h : auC (e, ()) = some y) : (as2 e).toO = some y := by
 injection h with h
 subst h
 unfold as2
 by_cases h1 : e.1 ≥ 1
 ·refine uT (zo h1) ?_
  by_cases h2 : e.1 ≤ 36
  ·refine uT (zo h2) ?_
   by_cases h3 : e.2.1 ≥ 1
   ·refine uT (zo h3) ?_
    rw [aaJ]
    congr 2
    exact decide_eq_decide.2 ⟨fun h => ⟨h1, h2, h3, h⟩, fun h => h.2.2.2⟩
   ·refine uF (zn h3) ?_
    rw [aaJ, zn (fun h : okE e.1 e.2.1 => h3 h.2.2.1)]
  ·refine uF (zn h2) ?_
   rw [aaJ, zn (fun h : okE e.1 e.2.1 => h2 h.2.1)]
 ·refine uF (zn h1) ?_
  rw [aaJ, zn (fun h : okE e.1 e.2.1 => h1 h.1)]
theorem aSS (p q n : Nat) : (p ≤ q → n ^ p * 10 ^ (12 * q) / 10 ^ (12 * p) = n ^ p * 10 ^ (12 * (q - p)) ∧ n ^ p * 10 ^ (12 * q) = n ^ p * 10 ^ (12 * (q - p)) * 10 ^ (12 * p)) ∧ (q < p → n ^ p * 10 ^ (12 * q) / 10 ^ (12 * p) = n ^ p / 10 ^ (12 * (p - q)) ∧ (10 : Nat) ^ (12 * p) = 10 ^ (12 * (p - q)) * 10 ^ (12 * q)) := by
 constructor
 ·intro h
  have e : (10 : Nat) ^ (12 * q) = 10 ^ (12 * (q - p)) * 10 ^ (12 * p) := by rw [← xA]; congr 1; omega
  have h2 : n ^ p * 10 ^ (12 * q) = n ^ p * 10 ^ (12 * (q - p)) * 10 ^ (12 * p) := by rw [e, wx]
  exact ⟨by rw [h2, wC _ (xp zc)], h2⟩
 ·intro h
  have e : (10 : Nat) ^ (12 * p) = 10 ^ (12 * (p - q)) * 10 ^ (12 * q) := by rw [← xA]; congr 1; omega
  refine ⟨?_, e⟩
  rw [e, ← vq, vq, yK (10 ^ (12 * (p - q))), ← vq, wC _ (xp zc)]
theorem afF {n k : Nat} (h : n < 10 ^ k) (hk : k ≤ 600) : Fit (n : Int) := by
 show (aa2 n).length ≤ 600
 have h2 : (aa2 n).length ≤ k + 1 := acW (ye h (zV zc zc))
 rcases zD k with h0 | h0
 ·omega
 ·have := (ac8 h0).2 h
  omega
theorem aSt {n K : Nat} (hK : K = 600) (h : ¬ Fit (n : Int)) : 10 ^ K ≤ n := by
 rcases zr n (10 ^ K) with h2 | h2
 ·exact absurd (afF h2 zc) h
 ·exact h2
theorem aST {p q n : Nat} (hq : 1 ≤ q) (hq2 : q ≤ 12) (hp2 : p ≤ 36) (h : ¬ Fit ((n ^ p : Nat) : Int)) : aC7 p q n > 1000000000000000000 := by
 obtain ⟨K, hK⟩ : ∃ K : Nat, K = 600 := ⟨_, rfl⟩
 have h1 := aSt hK h
 unfold aC7
 obtain ⟨s1, s2⟩ := an1 (n ^ p * 10 ^ (12 * q) / 10 ^ (12 * p)) hq
 generalize ad9 q (n ^ p * 10 ^ (12 * q) / 10 ^ (12 * p)) = v at *
 rcases zr 1000000000000000000 v with h2 | h2
 ·exact h2
 ·exfalso
  rw [yL (xp zc)] at s2
  have h3 : (v + 1) ^ q ≤ (10 ^ 19) ^ q := xn zc q
  have h4 : (10 ^ 19 : Nat) ^ q * 10 ^ (12 * p) ≤ 10 ^ K * 10 ^ (12 * q) := by
   rw [← xL, ← xA, ← xA]
   exact zV zc zc
  have h5 : (v + 1) ^ q * 10 ^ (12 * p) ≤ (10 ^ 19) ^ q * 10 ^ (12 * p) := zU _ h3
  have h6 : 10 ^ K * 10 ^ (12 * q) ≤ n ^ p * 10 ^ (12 * q) := zU _ h1
  generalize (v + 1) ^ q * 10 ^ (12 * p) = a1 at *
  generalize (10 ^ 19 : Nat) ^ q * 10 ^ (12 * p) = a2 at *
  generalize 10 ^ K * 10 ^ (12 * q) = a3 at *
  omega
theorem aDa (n : Nat) : (aa2 n == #[48].toList) = decide (n = 0) := by
 by_cases c : n = 0
 ·subst c; rw [abL zc]; rfl
 ·rw [zn c, beq_eq_false_iff_ne]
  intro h
  have h0 : aa2 0 = #[48].toList := by rw [abL zc]; rfl
  exact c (ai3 (h.trans h0.symm))
theorem aJt {p q n : Nat} {u : Bool} (h : okE p q) (hn : n ≤ 1000000000000000000) : arV ((((p : Int), (q : Int), ()), ()), (n : Int), u, ()) = some (az8 p q n u) := by
 refine aaG (enc := fun x : (Nat × Nat) × Nat × Bool => ((((x.1.1 : Int), (x.1.2 : Int), ()), ()), (x.2.1 : Int), x.2.2, ())) ((p, q), n, u) ⟨h, hn⟩ (fun b hb => ?_)
 obtain ⟨⟨b1, b2⟩, b3, b4⟩ := b
 simp only [Prod.mk.injEq, Int.ofNat.injEq, Int.natCast_inj, and_true] at hb
 obtain ⟨⟨h1, h2⟩, h3, h4⟩ := hb
 rw [h1, h2, h3, h4]
theorem aKp (e : (Int × Int × Unit) × Unit) (n : Int) (u : Bool) (y) (h : arV (e, n, u, ()) = some y) : (aCr e n u).toO = some y := by
 obtain ⟨⟨⟨p, q⟩, m, b⟩, hp, hx, rfl⟩ := aaD h
 obtain ⟨rfl, hx2⟩ := Prod.mk.inj hx
 obtain ⟨rfl, hx3⟩ := Prod.mk.inj hx2
 obtain ⟨rfl, -⟩ := Prod.mk.inj hx3
 obtain ⟨⟨p1, p2, q1, q2⟩, hm⟩ := hp
 dsimp only at p1 p2 q1 q2 hm ⊢
 have fm : Fit (m : Int) := abK ⟨by omega, by omega⟩
 unfold aCr
 dsimp only
 refine uC (aa2 m, ()) (by rw [aPG ⟨by omega, by omega⟩, aeQ]) ?_
 have hpow : am5 (aa2 m, (p : Int), ()) = some (wrW ((m ^ p : Nat) : Int)) := by
  unfold am5
  dsimp only
  rw [akW fm]
  dsimp only
  rw [if_neg zc, zp, ← xV]
 obtain ⟨r1, r2⟩ := aSS p q m
 by_cases hf : Fit ((m ^ p : Nat) : Int)
 ·rw [ajH hf, aeQ] at hpow
  refine uC _ hpow (uF rfl ?_)
  by_cases hpq : p ≤ q
  ·obtain ⟨e1, e2⟩ := r1 hpq
   refine uT sd ?_
   have ew : w64 (12 * w64 ((q : Int) - p)) = ((12 * (q - p) : Nat) : Int) := by rw [aaA (x := (q : Int) - p) zc, aaA zc]; omega
   refine uC (aa2 (10 ^ (12 * (q - p))), ()) (by rw [ew]; exact azZ zc) ?_
   obtain ⟨K, hK⟩ : ∃ K : Nat, K = 400 := ⟨_, rfl⟩
   have hlt : m ^ p * 10 ^ (12 * (q - p)) < 10 ^ K := by
    have a1 : m ^ p ≤ (10 ^ 18) ^ p := xn zc p
    have a2 : (10 ^ 18 : Nat) ^ p * 10 ^ (12 * (q - p)) < 10 ^ K := by
     rw [← xL, ← xA]
     exact wg zc zc
    exact Nat.lt_of_le_of_lt (zU _ a1) a2
   have hfm : Fit ((m ^ p * 10 ^ (12 * (q - p)) : Nat) : Int) := afF hlt zc
   have hft : Fit ((10 ^ (12 * (q - p)) : Nat) : Int) := afF (k := K) (wg zc zc) zc
   have hmul : auA (aa2 (m ^ p), aa2 (10 ^ (12 * (q - p))), ()) = some (aa2 (m ^ p * 10 ^ (12 * (q - p))), 0, ()) := by
    unfold auA
    dsimp only
    rw [akW hf, akW hft]
    dsimp only
    rw [← yd, ajH hfm, aeQ]
   refine uC _ hmul (uF rfl ?_)
   refine uC _ (aJu hfm zc zc) (uF rfl ?_)
   have hv : ad9 q (m ^ p * 10 ^ (12 * (q - p))) = aC7 p q m := by unfold aC7; rw [e1]
   have hfv : Fit (aC7 p q m : Int) := by rw [← hv]; exact ac7 hfm zl
   have hex : decide (ad9 q (m ^ p * 10 ^ (12 * (q - p))) ^ q = m ^ p * 10 ^ (12 * (q - p))) = decide (aC7 p q m ^ q * 10 ^ (12 * p) = m ^ p * 10 ^ (12 * q)) := by
    rw [hv, e2]
    exact decide_eq_decide.2 ⟨fun h => by rw [h], fun h => Nat.eq_of_mul_eq_mul_right (xp zc) h⟩
   unfold az8
   rw [hex, hv]
   dsimp only
   cases u
   ·refine uF rfl (uC _ (agO hfv) ?_)
    simp only [yo, false_and, if_false]
    rfl
   ·refine uT rfl ?_
    by_cases c : aC7 p q m ^ q * 10 ^ (12 * p) = m ^ p * 10 ^ (12 * q)
    ·refine uT (zo c) (uC _ (show acY (aa2 (aC7 p q m), (!#[48].toList == #[48].toList), ()) = some _ from agO (u := false) hfv) ?_)
     simp only [yo, if_false, c, ne_eq, not_true_eq_false, and_false]
     rfl
    ·refine uF (zn c) (uC _ (agO (u := !false) hfv) ?_)
     simp only [wG, if_true, c, ne_eq, not_false_eq_true, and_self]
     rfl
  ·obtain ⟨e1, e2⟩ := r2 zc
   refine uF sd ?_
   have ew : w64 (12 * w64 ((p : Int) - q)) = ((12 * (p - q) : Nat) : Int) := by rw [aaA (x := (p : Int) - q) zc, aaA zc]; omega
   refine uC (aa2 (10 ^ (12 * (p - q))), ()) (by rw [ew]; exact azZ zc) ?_
   obtain ⟨K, hK⟩ : ∃ K : Nat, K = 600 := ⟨_, rfl⟩
   have hft : Fit ((10 ^ (12 * (p - q)) : Nat) : Int) := afF (k := K) (wg zc zc) zc
   have hD : 0 < 10 ^ (12 * (p - q)) := xp zc
   have hdiv : auB (aa2 (m ^ p), aa2 (10 ^ (12 * (p - q))), ()) = some (aa2 (m ^ p / 10 ^ (12 * (p - q))), aa2 (m ^ p % 10 ^ (12 * (p - q))), 0, ()) := by
    unfold auB
    dsimp only
    rw [akW hf, akW hft]
    dsimp only
    rw [if_neg zc, ← Int.natCast_ediv, ← Int.natCast_emod, aeQ, aeQ]
   refine uC _ hdiv (uF rfl ?_)
   have hfm : Fit ((m ^ p / 10 ^ (12 * (p - q)) : Nat) : Int) := ac7 hf (by simp only [zQ]; exact xB _ _)
   refine uC _ (aJu hfm zc zc) (uF rfl ?_)
   have hv : ad9 q (m ^ p / 10 ^ (12 * (p - q))) = aC7 p q m := by unfold aC7; rw [e1]
   have hfv : Fit (aC7 p q m : Int) := by rw [← hv]; exact ac7 hfm zl
   have hex : (aC7 p q m ^ q = m ^ p / 10 ^ (12 * (p - q)) ∧ m ^ p % 10 ^ (12 * (p - q)) = 0) ↔ aC7 p q m ^ q * 10 ^ (12 * p) = m ^ p * 10 ^ (12 * q) := by
    rw [e2, ← wx]
    have hdm := xU (m ^ p) (10 ^ (12 * (p - q)))
    constructor
    ·rintro ⟨h1, h2⟩
     rw [h1]
     rw [h2, zu, yK] at hdm
     rw [hdm]
    ·intro h
     have h3 := Nat.eq_of_mul_eq_mul_right (xp zc) h
     constructor
     ·rw [← h3, wC _ hD]
     ·rw [← h3, Nat.mul_mod_left]
   unfold az8
   rw [hv]
   dsimp only
   cases u
   ·refine uF rfl (uC _ (agO hfv) ?_)
    simp only [yo, false_and, if_false]
    rfl
   ·refine uT rfl ?_
    by_cases c1 : aC7 p q m ^ q = m ^ p / 10 ^ (12 * (p - q))
    ·refine uT (zo c1) ?_
     rw [aDa]
     refine uC _ (agO hfv) ?_
     by_cases c2 : m ^ p % 10 ^ (12 * (p - q)) = 0
     ·have c := hex.1 ⟨c1, c2⟩
      simp only [zo c2, Bool.not_true, yo, if_false, c, ne_eq, not_true_eq_false, and_false]
      rfl
     ·have c : ¬ _ := fun h => c2 (hex.2 h).2
      simp only [zn c2, wG, if_true, c, ne_eq, not_false_eq_true, and_self]
      rfl
    ·refine uF (zn c1) (uC _ (agO (u := !false) hfv) ?_)
     have c : ¬ _ := fun h => c1 (hex.2 h).1
     simp only [wG, if_true, c, ne_eq, not_false_eq_true, and_self]
     rfl
 ·rw [asF hf] at hpow
  refine uC _ hpow (uT rfl ?_)
  have := aST (q := q) (n := m) zc zc zc hf
  unfold az8
  rw [if_pos this]
  rfl
theorem aBx (p q n : Nat) (u : Bool) : (az8 p q n u).2.1 = 0 ∨ (az8 p q n u).2.1 = 6 := by
 unfold az8
 split
 ·right; rfl
 ·left; rfl
theorem aG3 (b : BdT) (p q : Int) (y) (h : azQ (b, p, q, ()) = some y) : (axH b p q).toO = some y := by
 injection h with h
 unfold aL9 at h
 dsimp only at h
 unfold axH
 refine uC (if okB b.1 b.2.1 then 0 else 30, ()) rfl ?_
 by_cases c : okB b.1 b.2.1
 ·rw [if_pos c] at h ⊢
  refine uF rfl ?_
  refine uC (decide (okE p q), ()) rfl ?_
  by_cases c2 : okE p q
  ·refine uF (by rw [zo c2]; rfl) ?_
   by_cases c3 : b.1 < 0
   ·rw [if_neg (fun h => by have := h.2; omega)] at h
    exact uT (zo c3) (by rw [← h]; rfl)
   ·rw [if_pos ⟨c2, by omega⟩] at h
    obtain ⟨k1, k2, k3⟩ := c
    refine uF (zn c3) (uV (uV ?_))
    obtain ⟨P, rfl⟩ := zv (show 0 ≤ p by have := c2.1; omega)
    obtain ⟨Q, rfl⟩ := zv (show 0 ≤ q by have := c2.2.2.1; omega)
    obtain ⟨lo, hlo⟩ := zv (show 0 ≤ b.1 by omega)
    obtain ⟨hi, hhi⟩ := zv (show 0 ≤ b.2.1 by omega)
    rw [hlo, hhi] at h ⊢
    simp only [zp] at h
    refine uC _ (aJt c2 zc) ?_
    by_cases d1 : (az8 P Q lo false).2.1 ≠ 0
    ·rw [if_pos d1] at h
     refine uT (by simpa using d1) ?_
     have : (az8 P Q lo false).2.1 = 6 := by rcases aBx P Q lo false with e | e <;> omega
     rw [this, ← h]; rfl
    ·rw [if_neg d1] at h
     refine uF (by simpa using d1) ?_
     refine uC _ (aJt c2 zc) ?_
     by_cases d2 : (az8 P Q hi true).2.1 ≠ 0
     ·rw [if_pos d2] at h
      refine uT (by simpa using d2) ?_
      have : (az8 P Q hi true).2.1 = 6 := by rcases aBx P Q hi true with e | e <;> omega
      rw [this, ← h]; rfl
     ·rw [if_neg d2] at h
      refine uF (by simpa using d2) ?_
      unfold mkB at h
      refine uC (mkB 30 (az8 P Q lo false).1 (az8 P Q hi true).1) rfl ?_
      unfold mkB
      by_cases d3 : okB (az8 P Q lo false).1 (az8 P Q hi true).1
      ·rw [if_pos d3] at h ⊢
       exact uF rfl (by rw [← h]; rfl)
      ·rw [if_neg d3] at h ⊢
       exact uT rfl (by rw [← h]; rfl)
  ·rw [if_neg (fun h => c2 h.1)] at h
   exact uT (by rw [zn c2]; rfl) (by rw [← h]; rfl)
 ·rw [if_neg c] at h ⊢
  exact uT rfl (by rw [← h]; rfl)
set_option maxRecDepth 100000
open Go Go.Vg Go.Proofs
noncomputable section
def aLv : LTab := []
def at1 (n : Int) (low : Int) (high : Int) : TT ux :=
 .ite (decide (low ≤ n))
 (.ok ((decide (n ≤ high), ())))
 (.ok ((false, ())))
def aRq : LTab := []
def aJl (n : Int) (d : Int) : TT tP :=
 .call (alZ (n, d, ())) adS fun y =>
 .ok (((y.1.1, y.1.2.1, ()), ()))
def aH1 : LTab := []
def ay3 (n : Int) : TT tP :=
 .call (ab0 (n, 1, ())) adL fun y =>
 .ok (((y.1.1, y.1.2.1, ()), ()))
def aDm : LTab := []
def alJ (x : List UInt8 × List UInt8 × Unit) : TT tP :=
 .call (aaI (0, ())) adL fun y =>
 .call (aaI (1, ())) adL fun y1 =>
 .tt <| .tt <| .tt <| .tt <| .call (af1 ((x.1, x.2.1, ()), (y.1.1, y.1.2.1, ()), ())) aDK fun y2 =>
 .ite (decide (y2.1 < 0))
 (.ok (((y.1.1, y.1.2.1, ()), ())))
 (.tt <| .tt <| .call (af1 ((x.1, x.2.1, ()), (y1.1.1, y1.1.2.1, ()), ())) aDK fun y3 =>
 .ite (decide (y3.1 > 0))
 (.ok (((y1.1.1, y1.1.2.1, ()), ())))
 (.ok (((x.1, x.2.1, ()), ()))))
def aAv : LTab := [(76, 3, 1024, ⟨0, (Bool) × Unit, .dat (.s 2) tK <| .nil, [0], [], 0⟩), (76, 58, 4096, ⟨1, (Int) × Unit, .dat (.s 15) ud <| .nil, [14, 13], [], 0⟩)]
def amX (al0 : List Int) (j : Bool × Unit) (i : (Int) × Unit) : TT tJ :=
 .ite (decide (i.1 < len al0))
 (.need (inb i.1 (len al0)) <| .call (acN (gi al0 i.1 0, 0, 65535, ())) Dd1 fun y =>
 .ite (!y.1)
 (.ok (.inr ((false, ()))))
 (.tt <| .lt (w64 (i.1 + 1) : Int) fun z => .vL (vO z (len al0) al0) <| .tr <| .ok (.inl ((z, ())))))
 (.ok (.inr ((true, ()))))
def ay5 (al0 : List Int) (j : (Bool) × Unit) : TT ux :=
 .loop 1 (.tt <| .vL (vO (0 : Int) (len al0) al0) <| .tr <| .ok ((0, ()))) (amX al0 j)
def ajT (al0 : List Int) : TT ux :=
 .join 0 (ι := (Bool) × Unit) (.ite (decide (len al0 < 2))
 (.ok (.inr ((false, ()))))
 (.ite (decide (len al0 > 17))
 (.ok (.inr ((false, ()))))
 (.tt <| .vL (vX false al0) <| .tr <| .ok (.inl ((false, ())))))) (ay5 al0)
def aLp : LTab := [(129, 26, 13312, ⟨0, (Int) × Unit, .dat (.s 17) ud <| .nil, [16, 1], [0], 0⟩), (129, 7, 14336, ⟨1, Unit, .nil, [1], [0], 0⟩), (129, 124, 22528, ⟨2, (Int) × (Int) × Unit, .dat (.s 6) ud <| .dat (.s 5) ud <| .nil, [], [0], 0⟩)]
def ayQ (p : uc × Int × Bool × Unit) (i : Int × Unit) (j : Unit) (i1 : (Int) × (Int) × Unit) : TT (uz ⊕ tJ) :=
 .ite (i1.1 != 0)
 (.need (i1.1 ≠ 0) <| .tt <| .lt (Int.tmod i1.2.1 i1.1 : Int) fun z3 => .vL (vX i1.1 z3) <| .vL (vK (vV 122 p.1.1 p.1.2.1 p.1.2.2.1 p.1.2.2.2.1 p.1.2.2.2.2.1 p.1.2.2.2.2.2.1 p.2.1 <| vU p.2.2.1) True) <| .ok (.inl ((z3, i1.1, ()))))
 (.ok (.inr (.inr ((i1.2.1 == 1, ())))))
def aHV (p : uc × Int × Bool × Unit) (i : Int × Unit) (j : Unit) : TT tJ :=
 .loop 2 (.tt <| .lt (p.1.2.2.2.2.1 : Int) fun z1 => .lt (p.1.2.2.2.1 : Int) fun z2 => .vL (vX z2 z1) <| .vL (vK (vV 122 p.1.1 p.1.2.1 p.1.2.2.1 z2 z1 p.1.2.2.2.2.2.1 p.2.1 <| vU p.2.2.1) True) <| .ok ((z1, z2, ()))) (ayQ p i j)
def agA (p : uc × Int × Bool × Unit) (i : (Int) × Unit) : TT tJ :=
 .ite (decide (i.1 < 3))
 (.need (inb i.1 (↑3 : Int)) <| .call (acN (gi [p.1.2.1, p.1.2.2.1, p.1.2.2.2.2.2.1] i.1 0, -100000000, 100000000, ())) Dd1 fun y =>
 .ite (!y.1)
 (.ok (.inr ((false, ()))))
 (.tt <| .lt (w64 (i.1 + 1) : Int) fun z => .vL (vS z ([p.1.2.1, p.1.2.2.1, p.1.2.2.2.2.2.1] : List Int) <| ui ∧ True) <| .vL (vK (vV 122 p.1.1 p.1.2.1 p.1.2.2.1 p.1.2.2.2.1 p.1.2.2.2.2.1 p.1.2.2.2.2.2.1 p.2.1 <| vU p.2.2.1) True) <| .ok (.inl ((z, ())))))
 (.join 1 (ι := Unit) (.call (acN (p.1.1, w64 (p.2.1 + 1), 1000000, ())) Dd1 fun y1 =>
 .ite (!y1.1)
 (.ok (.inr (.inr ((false, ())))))
 (.call (acN (p.1.2.2.2.1, 1, 36, ())) Dd1 fun y2 =>
 .ite (!y2.1)
 (.ok (.inr (.inr ((false, ())))))
 (.call (acN (p.1.2.2.2.2.1, 1, 12, ())) Dd1 fun y3 =>
 .ite (!y3.1)
 (.ok (.inr (.inr ((false, ())))))
 (.tt <| .vL (ui ∧ True) <| .vL (vK (vV 122 p.1.1 p.1.2.1 p.1.2.2.1 p.1.2.2.2.1 p.1.2.2.2.2.1 p.1.2.2.2.2.2.1 p.2.1 <| vU p.2.2.1) True) <| .ok (.inl (())))))) (aHV p i))
def atU (p : uc × Int × Bool × Unit) : TT ux :=
 .loop 0 (.tt <| .vL (vS (0 : Int) ([p.1.2.1, p.1.2.2.1, p.1.2.2.2.2.2.1] : List Int) <| ui ∧ True) <| .vL (vK (vV 122 p.1.1 p.1.2.1 p.1.2.2.1 p.1.2.2.2.1 p.1.2.2.2.2.1 p.1.2.2.2.2.2.1 p.2.1 <| vU p.2.2.1) True) <| .ok ((0, ()))) (agA p)
def at2 : LTab := [(77, 6, 2048, ⟨0, (Bool) × Unit, .dat (.s 2) tK <| .nil, [1], [0], 0⟩), (128, 14, 14336, ⟨1, (Int) × (Int) × Unit, .dat (.s 9) ud <| .dat (.s 3) ud <| .nil, [8, 7, 0], [8, 4, 2, 0], 0⟩)]
def ai4 (c : Int × List Int × List uc × Unit) (j : Bool × Unit) (i : (Int) × (Int) × Unit) : TT (uz ⊕ ux) :=
 .ite (decide (i.1 < len c.2.2.1))
 (.need (inb i.1 (len c.2.2.1)) <| .call (agJ ((((gi c.2.2.1 i.1 (0, 0, 0, 0, 0, 0, ())).1, (gi c.2.2.1 i.1 (0, 0, 0, 0, 0, 0, ())).2.1, (gi c.2.2.1 i.1 (0, 0, 0, 0, 0, 0, ())).2.2.1, (gi c.2.2.1 i.1 (0, 0, 0, 0, 0, 0, ())).2.2.2.1, (gi c.2.2.1 i.1 (0, 0, 0, 0, 0, 0, ())).2.2.2.2.1, (gi c.2.2.1 i.1 (0, 0, 0, 0, 0, 0, ())).2.2.2.2.2.1, ()), i.2.1, i.1 == 0, ()), ())) Dd1 fun y =>
 .ite (!y.1)
 (.ok (.inr ((false, ()))))
 (.tt <| .lt (w64 (i.1 + 1) : Int) fun z => .lt ((gi c.2.2.1 i.1 (0, 0, 0, 0, 0, 0, ())).1 : Int) fun z1 => .vL (vT z1 z (len c.2.2.1) c.2.2.1 <| (vP 8 true) ∧ True) <| .vL (vK (ua (LoopState.ready : LoopState) (none : Option Code) 34 (#[17] : Array Tmp) (aoS (adZ Tryz.f77) [1, 0, 1, 1, 1, 0, 1, 0, 0]) (aoS (adZ Tryz.f77) [1, 0, 1, 1, 1, 0, 1, 0, 1]) <| (vM (128 : FuncId) <| True ∧ uY ∧ True) ∧ (vM ((c.1, c.2.1, c.2.2.1, ()) : Int × List Int × List uc × Unit) <| uw ∧ (vM j.1 <| ui ∧ True))) <| vK (vN 42 c.1 c.2.1 c.2.2.1) <| vK (vX 4 true) <| vK (vN 42 c.1 c.2.1 c.2.2.1) True) <| .ok (.inl ((z, z1, ())))))
 (.need (inb (w64 (len c.2.2.1 - 1)) (len c.2.2.1)) <| .ok (.inr (((gi c.2.2.1 (w64 (len c.2.2.1 - 1)) (0, 0, 0, 0, 0, 0, ())).1 == 1000000, ()))))
def arG (c : Int × List Int × List uc × Unit) (j : (Bool) × Unit) : TT ux :=
 .tt <| .tt <| .tt <| .tt <| .loop 1 (.tt <| .vL (vT (0 : Int) (0 : Int) (len c.2.2.1) c.2.2.1 <| (vP 8 true) ∧ True) <| .vL (vK (ua (LoopState.ready : LoopState) (none : Option Code) 34 (#[17] : Array Tmp) (aoS (adZ Tryz.f77) [1, 0, 1, 1, 1, 0, 1, 0, 0]) (aoS (adZ Tryz.f77) [1, 0, 1, 1, 1, 0, 1, 0, 1]) <| (vM (128 : FuncId) <| True ∧ uY ∧ True) ∧ (vM ((c.1, c.2.1, c.2.2.1, ()) : Int × List Int × List uc × Unit) <| uw ∧ (vM j.1 <| ui ∧ True))) <| vK (vN 42 c.1 c.2.1 c.2.2.1) <| vK (vX 4 true) <| vK (vN 42 c.1 c.2.1 c.2.2.1) True) <| .ok ((0, 0, ()))) (ai4 c j)
def agB (c : Int × List Int × List uc × Unit) : TT ux :=
 .join 0 (ι := (Bool) × Unit) (.ite (decide (len c.2.2.1 < 1))
 (.ok (.inr ((false, ()))))
 (.ite (decide (len c.2.2.1 > 4))
 (.ok (.inr ((false, ()))))
 (.tt <| .vL (vM false <| ui ∧ True) <| .vL (vK (vN 42 c.1 c.2.1 c.2.2.1) True) <| .ok (.inl ((false, ())))))) (arG c)
def aPe : LTab := []
def ay8 (c : Int × List Int × List uc × Unit) : TT uA :=
 .ite (c.1 == 1)
 (.ite (len c.2.1 == 0)
 (.ite (!len c.2.2.1 == 0)
 (.ok ((90, ())))
 (.ok ((0, ()))))
 (.ok ((90, ()))))
 (.ite (c.1 == 2)
 (.call (ajU (c.2.1, ())) Dd1 fun y =>
 .ite (y.1)
 (.ite (!len c.2.2.1 == 0)
 (.ok ((90, ())))
 (.ok ((0, ()))))
 (.ok ((90, ()))))
 (.ite (c.1 == 3)
 (.ite (len c.2.1 == 0)
 (.call (agM ((c.1, c.2.1, c.2.2.1, ()), ())) Dd1 fun y1 =>
 .ite (!y1.1)
 (.ok ((90, ())))
 (.ok ((0, ()))))
 (.ok ((90, ()))))
 (.ok ((90, ())))))
def aPd : LTab := [(25, 122, 11264, ⟨0, (Int) × (Bool) × (Bool) × Unit, .dat (.s 7) ud <| .dat (.s 6) tK <| .dat (.s 5) tK <| .nil, [3, 2, 1], [0], 0⟩)]
def aBH (c : Int × List Int × List uc × Unit) (y : Int × Unit) (i : (Int) × (Bool) × (Bool) × Unit) : TT (((Int) × (Bool) × (Bool) × Unit) ⊕ uh) :=
 .ite (decide (i.1 < len c.2.1))
 (.ite (i.2.2.1)
 (.ite (i.2.1)
 (.tt <| .lt (w64 (i.1 + 1) : Int) fun z => .vL (vR true true z (0 : Int) (0 : Int) <| ui ∧ True) <| .vL (vK (vN 42 c.1 c.2.1 c.2.2.1) True) <| .ok (.inl ((z, true, true, ()))))
 (.need (inb i.1 (len c.2.1)) <| .need (inb (w64 (i.1 - 1)) (len c.2.1)) <| .tt <| .lt (w64 (i.1 + 1) : Int) fun z1 => .lt (decide (gi c.2.1 i.1 0 < gi c.2.1 (w64 (i.1 - 1)) 0) : Bool) fun z2 => .vL (vR true z2 z1 (0 : Int) (0 : Int) <| ui ∧ True) <| .vL (vK (vN 42 c.1 c.2.1 c.2.2.1) True) <| .ok (.inl ((z1, z2, true, ())))))
 (.need (inb i.1 (len c.2.1)) <| .need (inb (w64 (i.1 - 1)) (len c.2.1)) <| .ite (i.2.1)
 (.tt <| .lt (w64 (i.1 + 1) : Int) fun z3 => .lt (decide (gi c.2.1 i.1 0 > gi c.2.1 (w64 (i.1 - 1)) 0) : Bool) fun z4 => .vL (vR z4 true z3 (0 : Int) (0 : Int) <| ui ∧ True) <| .vL (vK (vN 42 c.1 c.2.1 c.2.2.1) True) <| .ok (.inl ((z3, true, z4, ()))))
 (.need (inb i.1 (len c.2.1)) <| .need (inb (w64 (i.1 - 1)) (len c.2.1)) <| .tt <| .lt (w64 (i.1 + 1) : Int) fun z5 => .lt (decide (gi c.2.1 i.1 0 < gi c.2.1 (w64 (i.1 - 1)) 0) : Bool) fun z6 => .lt (decide (gi c.2.1 i.1 0 > gi c.2.1 (w64 (i.1 - 1)) 0) : Bool) fun z7 => .vL (vR z7 z6 z5 (0 : Int) (0 : Int) <| ui ∧ True) <| .vL (vK (vN 42 c.1 c.2.1 c.2.2.1) True) <| .ok (.inl ((z5, z6, z7, ()))))))
 (.ite (c.1 == 3)
 (.need (asT Int 0 ≤ 0 ∧ 0 < len c.2.2.1) <| .ite (decide ((gi c.2.2.1 0 (0, 0, 0, 0, 0, 0, ())).2.1 < 0))
 (.ite (!decide (len c.2.2.1 > 1))
 (.ok (.inr ((-1, 0, ()))))
 (.ok (.inr ((0, 0, ())))))
 (.ite (!decide (len c.2.2.1 > 1))
 (.ok (.inr ((1, 0, ()))))
 (.ite (!decide (len c.2.2.1 > 1))
 (.ok (.inr ((-1, 0, ()))))
 (.ok (.inr ((0, 0, ())))))))
 (.ite (!i.2.1)
 (.ok (.inr ((1, 0, ()))))
 (.ite (!i.2.2.1)
 (.ok (.inr ((-1, 0, ()))))
 (.ok (.inr ((0, 0, ())))))))
def ay7 (c : Int × List Int × List uc × Unit) : TT uh :=
 .call (ag9 ((c.1, c.2.1, c.2.2.1, ()), ())) Dd6 fun y =>
 .ite (y.1 != 0)
 (.ok ((0, y.1, ())))
 (.loop 0 (.tt <| .vL (vR false false (1 : Int) (0 : Int) (0 : Int) <| ui ∧ True) <| .vL (vK (vN 42 c.1 c.2.1 c.2.2.1) True) <| .ok ((1, false, false, ()))) (aBH c y))
end
theorem aFG (n a b : Int) (y) (h : acN (n, a, b, ()) = some y) : (at1 n a b).toO = some y := by
 injection h with h
 subst h
 unfold at1
 by_cases c : a ≤ n
 ·refine uT (zo c) ?_
  rw [aaJ]
  congr 2
  exact decide_eq_decide.2 ⟨fun h => ⟨c, h⟩, fun h => h.2⟩
 ·refine uF (zn c) ?_
  rw [aaJ, zn (fun h : inR n a b => c h.1)]
theorem acB (n a b : Int) : acN (n, a, b, ()) = some (decide (inR n a b), ()) := rfl
theorem aLw (n d : Int) (y) (h : ab0 (n, d, ()) = some y) : (aJl n d).toO = some y := by
 unfold ab0 at h
 split at h
 ·rename_i hp
  exact uC (ofQ n d) (by unfold alZ; rw [if_pos hp]) h
 ·cases h
theorem af2 {n : Int} {d : Nat} (hn : abA n) (hd : d ≠ 0) (h2 : d ≤ 9223372036854775807) : ab0 (n, (d : Int), ()) = some (fx (mkRat n d), ()) := by
 have hd2 : abA (d : Int) := ⟨by omega, by omega⟩
 unfold ab0
 rw [if_pos ⟨hn, hd2⟩]
 simp only [aNr hd (abK hn) (abK hd2)]
theorem aDk (n : Int) (y) (h : aaI (n, ()) = some y) : (ay3 n).toO = some y := by
 unfold aaI at h
 split at h
 ·rename_i hp
  exact uC _ (af2 (d := 1) hp zc zc) h
 ·cases h
theorem acH {n : Int} (h : abA n) : aaI (n, ()) = some (fx (mkRat n 1), ()) := by unfold aaI; rw [if_pos h]
theorem acS (n : Int) : mkRat n 1 = (n : Rat) := by rw [Rat.mkRat_eq_div, show ((1 : Nat) : Rat) = 1 from rfl]; grind
theorem aa7 {n : Int} (h : abA n) : ab6 (mkRat n 1) := aeA zc (abK h) (abK ⟨by omega, by omega⟩)
theorem aDC {p q : Rat} (hp : ab6 p) (hq : ab6 q) : af1 (fx p, fx q, ()) = some (avL p q, 0, ()) := by
 unfold af1
 simp only [afD hp, afD hq]
theorem anS (p q : Rat) : avL p q < 0 ↔ p < q := by
 unfold avL
 split
 ·simp_all
 ·split <;> simp_all
theorem anR (p q : Rat) : avL p q > 0 ↔ q < p := by
 unfold avL
 split
 ·rename_i h; constructor
  ·intro h2; omega
  ·intro h2; exact absurd h2 (by grind)
 ·split
  ·rename_i h; subst h; simp
  ·rename_i h1 h2
   constructor
   ·intro _; rcases aD4 p q with c | c | c
    ·exact absurd c h1
    ·exact absurd c h2
    ·exact c
   ·intro _; omega
theorem aeM {q : Rat} (h : ab6 q) : ab7 (fx q, ()) = some (fx (aeY q), ()) := aaG (enc := fun x : Rat => (fx x, ())) q h (fun b hb => af3 (Prod.mk.inj hb).1)
theorem ay4 (x : FxT) (y) (h : ab7 (x, ()) = some y) : (alJ x).toO = some y := by
 obtain ⟨q, hp, hx, rfl⟩ := aaD h
 obtain ⟨rfl, -⟩ := Prod.mk.inj hx
 have i0 : abA 0 := ⟨by omega, by omega⟩
 have i1 : abA 1 := ⟨by omega, by omega⟩
 unfold alJ
 refine uC _ (acH i0) (uC _ (acH i1) (uV (uV (uV (uV ?_)))))
 refine uC _ (aDC hp (aa7 i0)) ?_
 have e0 : mkRat 0 1 = (0 : Rat) := by rw [acS]; rfl
 have e1 : mkRat 1 1 = (1 : Rat) := by rw [acS]; rfl
 unfold aeY
 by_cases c : q < 0
 ·rw [if_pos c]
  refine uT (zo ((anS _ _).2 (by rw [e0]; exact c))) ?_
  rw [e0]; rfl
 ·rw [if_neg c]
  refine uF (zn (fun h => c (by rw [← e0]; exact (anS _ _).1 h))) (uV (uV ?_))
  refine uC _ (aDC hp (aa7 i1)) ?_
  by_cases c2 : q > 1
  ·rw [if_pos c2]
   refine uT (zo ((anR _ _).2 (by rw [e1]; exact c2))) ?_
   rw [e1]; rfl
  ·rw [if_neg c2]
   exact uF (zn (fun h => c2 (by rw [← e1]; exact (anR _ _).1 h))) rfl
theorem avS (l : List Int) (y) (h : ajU (l, ()) = some y) : (ajT l).toO = some y := by
 injection h with h
 subst h
 unfold ajT
 dsimp only
 by_cases h1 : l.length < 2
 ·rw [zn (fun h : adM l => by have := h.1; omega)]
  exact uR _ (uT sd rfl)
 by_cases h2 : l.length > 17
 ·rw [zn (fun h : adM l => by have := h.2.1; omega)]
  exact uR _ (uF sd (uT sd rfl))
 refine uL (false, ()) (uF sd (uF sd rfl)) ?_
 refine uO (0, ()) rfl ?_
 refine aaL (fun i : Int × Unit => ∃ k : Nat, k ≤ l.length ∧ i = ((k : Int), ()) ∧ ∀ v ∈ l.take k, inR v 0 65535) (fun i => ((l.length : Int) - i.1).toNat) (fun _ => (decide (adM l), ())) ?_ _ ⟨0, by omega, rfl, by simp⟩
 rintro i ⟨k, h3, rfl, h4⟩
 simp only [amX, aaM]
 rcases zr k l.length with hk | hk
 ·have e : l.getD k 0 = l[k] := by simp [hk]
  rw [e]
  by_cases c : inR l[k] 0 65535
  ·left
   refine ⟨(((k + 1 : Nat) : Int), ()), ?_, ⟨k + 1, by omega, rfl, ?_⟩, by simp only; omega, ze⟩
   ·refine uT sd (uN sd (uC _ (acB _ _ _) (uF (by rw [zo c]; rfl) ?_)))
    repeat refine za ?_
    simp (disch := omega) only [aaJ, aaA, aaP, aa0, abO, aaM, zu, zp, aaC, zt]
    rfl
   ·intro v hv
    rw [zX hk] at hv
    rcases zJ.1 hv with hv | hv
    ·exact h4 v hv
    ·rw [zZ.1 hv]; exact c
  ·right
   rw [zn (fun h : adM l => c (h.2.2 _ (yf hk)))]
   exact uT sd (uN sd (uC _ (acB _ _ _) (uT (by rw [zn c]; rfl) rfl)))
 ·right
  rw [zx hk] at h4
  rw [zo (show adM l from ⟨by omega, by omega, h4⟩)]
  exact uF sd rfl
theorem aQ5 {a b : Int} (ha : 0 ≤ a) (hb : 0 < b) : Nat.gcd b.natAbs (Int.tmod a b).natAbs = Nat.gcd a.natAbs b.natAbs := by
 obtain ⟨m, rfl⟩ := zv ha
 obtain ⟨n, rfl⟩ := zv (xo hb)
 rw [zz ha]
 have : ((m : Int) % (n : Int)) = ((m % n : Nat) : Int) := zi
 rw [this, zQ, zQ, zQ, xC n, xC m n, Nat.gcd_rec n m]
theorem aL4 {p : PcT} (h : inR p.2.1 0 1000000) : agJ (p, ()) = some (decide (ajY p.2.1 p.1), ()) := by unfold agJ; rw [if_pos h]
theorem aFy (p : PcT) (y) (h : agJ (p, ()) = some y) : (atU p).toO = some y := by
 unfold agJ at h
 split at h
 case isFalse => cases h
 case isTrue hfrom =>
 injection h with h
 subst h
 obtain ⟨hf0, hf1⟩ := hfrom
 dsimp only at hf0 hf1 ⊢
 obtain ⟨⟨till, mul, add, nu, de, off, u⟩, fr, first, u'⟩ := p
 dsimp only at hf0 hf1 ⊢
 unfold atU
 refine uO (0, ()) rfl ?_
 have bad : ∀ b : Bool, b = false → (decide (ajY fr (till, mul, add, nu, de, off, u)), ()) = (false, ()) ∨ ajY fr (till, mul, add, nu, de, off, u) := fun b hb => by
  by_cases c : ajY fr (till, mul, add, nu, de, off, u)
  ·exact Or.inr c
  ·left; rw [zn c]
 have step : ∀ (k : Nat) (x : Int), k < 3 → gi [mul, add, off] (k : Int) 0 = x → (inR x (-100000000) 100000000 → (agA ((till, mul, add, nu, de, off, u), fr, first, u') ((k : Int), ())).toO = some (.inl (((k + 1 : Nat) : Int), ()))) ∧ (¬ inR x (-100000000) 100000000 → (agA ((till, mul, add, nu, de, off, u), fr, first, u') ((k : Int), ())).toO = some (.inr (false, ()))) := by
  intro k x hk hx
  constructor
  ·intro c
   unfold agA
   dsimp only
   refine uT sd (uN ⟨by omega, by omega⟩ ?_)
   rw [hx]
   refine uC _ (acB _ _ _) (uF (by rw [zo c]; rfl) ?_)
   repeat refine za ?_
   simp (disch := omega) only [aaJ, aaA, aaP, aa0, abO, aaM, zu, zp, aaC, zt]
   rfl
  ·intro c
   unfold agA
   dsimp only
   refine uT sd (uN ⟨by omega, by omega⟩ ?_)
   rw [hx]
   exact uC _ (acB _ _ _) (uT (by rw [zn c]; rfl) rfl)
 by_cases c1 : inR mul (-100000000) 100000000
 case neg =>
  rw [zn (fun h : ajY _ _ => c1 h.1.1)]
  exact acL ((step 0 mul zc rfl).2 c1)
 rw [ac4 ((step 0 mul zc rfl).1 c1)]
 by_cases c2 : inR add (-100000000) 100000000
 case neg =>
  rw [zn (fun h : ajY _ _ => c2 h.1.2.1)]
  exact acL ((step 1 add zc rfl).2 c2)
 rw [ac4 ((step 1 add zc rfl).1 c2)]
 by_cases c3 : inR off (-100000000) 100000000
 case neg =>
  rw [zn (fun h : ajY _ _ => c3 h.1.2.2.1)]
  exact acL ((step 2 off zc rfl).2 c3)
 rw [ac4 ((step 2 off zc rfl).1 c3)]
 refine acL ?_
 unfold agA
 refine uF rfl ?_
 dsimp only
 have hw : w64 (fr + 1) = fr + 1 := aaA zc
 by_cases c4 : inR till (fr + 1) 1000000
 case neg =>
  rw [zn (fun h : ajY _ _ => c4 h.2)]
  refine uR _ (uC _ (acB _ _ _) (uT (by rw [hw, zn c4]; rfl) rfl))
 by_cases c5 : inR nu 1 36
 case neg =>
  rw [zn (fun h : ajY _ _ => c5 h.1.2.2.2.1)]
  refine uR _ (uC _ (acB _ _ _) (uF (by rw [hw, zo c4]; rfl) (uC _ (acB _ _ _) (uT (by rw [zn c5]; rfl) rfl))))
 by_cases c6 : inR de 1 12
 case neg =>
  rw [zn (fun h : ajY _ _ => c6 h.1.2.2.2.2.1)]
  refine uR _ (uC _ (acB _ _ _) (uF (by rw [hw, zo c4]; rfl) (uC _ (acB _ _ _) (uF (by rw [zo c5]; rfl) (uC _ (acB _ _ _) (uT (by rw [zn c6]; rfl) rfl))))))
 refine uL () (uC _ (acB _ _ _) (uF (by rw [hw, zo c4]; rfl) (uC _ (acB _ _ _) (uF (by rw [zo c5]; rfl) (uC _ (acB _ _ _) (uF (by rw [zo c6]; rfl) rfl)))))) ?_
 refine uO (de, nu, ()) rfl ?_
 have hd : decide (ajY fr (till, mul, add, nu, de, off, u)) = decide (Nat.gcd nu.natAbs de.natAbs = 1) := decide_eq_decide.2 ⟨fun h => h.1.2.2.2.2.2, fun h => ⟨⟨c1, c2, c3, c5, c6, h⟩, c4⟩⟩
 rw [hd]
 refine aaL (fun i : Int × Int × Unit => 0 ≤ i.1 ∧ 0 ≤ i.2.1 ∧ Nat.gcd i.2.1.natAbs i.1.natAbs = Nat.gcd nu.natAbs de.natAbs) (fun i => i.1.toNat) (fun _ => (.inr (decide (Nat.gcd nu.natAbs de.natAbs = 1), ()) : (Int × Unit) ⊕ (Bool × Unit))) ?_ _ ⟨by show (0 : Int) ≤ de; have := c6.1; omega, by show (0 : Int) ≤ nu; have := c5.1; omega, rfl⟩
 rintro ⟨b, a, u2⟩ ⟨g1, g2, g3⟩
 dsimp only at g1 g2 g3
 unfold ayQ
 by_cases hb : b = 0
 ·right
  subst hb
  refine uF rfl ?_
  have g4 : a.natAbs = Nat.gcd nu.natAbs de.natAbs := by simpa using g3
  show some (Sum.inr (Sum.inr (a == 1, ()))) = _
  by_cases c : a = 1
  ·rw [zo (show Nat.gcd nu.natAbs de.natAbs = 1 by omega), c]; rfl
  ·rw [zn (show ¬ Nat.gcd nu.natAbs de.natAbs = 1 by omega), beq_eq_false_iff_ne.2 c]
 ·left
  have hlt : Int.tmod a b < b := by rw [zz g2]; exact yB _ zc
  have hge : 0 ≤ Int.tmod a b := by rw [zz g2]; exact yO _ hb
  refine ⟨(Int.tmod a b, b, ()), ?_, ⟨hge, by dsimp only; omega, ?_⟩, by dsimp only; omega, ze⟩
  ·refine uT (by simpa using hb) (uN hb ?_)
   repeat refine za ?_
   rfl
  ·dsimp only
   rw [← g3]; exact aQ5 g2 zc
abbrev zs : ad0 := (0, 0, 0, 0, 0, 0, ())
theorem aJU {last : Int} : agZ last [] ↔ last = 1000000 := Iff.rfl
theorem aGy {last : Int} {s : ad0} {r : List ad0} : agZ last (s :: r) ↔ ajY last s ∧ agZ s.1 r := Iff.rfl
theorem apY (c : CvT) (y) (h : agM (c, ()) = some y) : (agB c).toO = some y := by
 injection h with h
 subst h
 obtain ⟨kind, tab, l, u0⟩ := c
 dsimp only
 unfold agB
 dsimp only
 by_cases h1 : l.length < 1
 ·rw [zn (fun h : ab9 l => by have := h.1; omega)]
  exact uR _ (uT sd rfl)
 by_cases h2 : l.length > 4
 ·rw [zn (fun h : ab9 l => by have := h.2.1; omega)]
  exact uR _ (uF sd (uT sd rfl))
 refine uL (false, ()) (uF sd (uF sd rfl)) ?_
 refine uO (0, 0, ()) rfl ?_
 have hl : decide (ab9 l) = decide (agZ 0 l) := decide_eq_decide.2 ⟨fun h => h.2.2, fun h => ⟨by omega, by omega, h⟩⟩
 rw [hl]
 refine aaL (fun i : Int × Int × Unit => ∃ k : Nat, k ≤ l.length ∧ i.1 = (k : Int) ∧ inR i.2.1 0 1000000 ∧ (agZ 0 l ↔ agZ i.2.1 (l.drop k)) ∧ (k ≠ 0 → i.2.1 = (l.getD (k - 1) zs).1)) (fun i => ((l.length : Int) - i.1).toNat) (fun _ => (decide (agZ 0 l), ())) ?_ _ ⟨0, by omega, rfl, ⟨by simp, by simp⟩, by simp, by simp⟩
 rintro ⟨i, last, u⟩ ⟨k, h3, h4, h5, h6, h7⟩
 dsimp only at h4 h5 h6 h7
 subst h4
 simp only [ai4, aaM]
 rcases zr k l.length with hk | hk
 ·have e : l.getD k zs = l[k] := by simp [hk]
  have hv : agJ ((((l.getD k zs).1, (l.getD k zs).2.1, (l.getD k zs).2.2.1, (l.getD k zs).2.2.2.1, (l.getD k zs).2.2.2.2.1, (l.getD k zs).2.2.2.2.2.1, ()), last, (k : Int) == 0, ()), ()) = some (decide (ajY last l[k]), ()) := by
   rw [aL4 h5, e]
  rw [yu hk, aGy] at h6
  by_cases c : ajY last l[k]
  ·left
   refine ⟨(((k + 1 : Nat) : Int), l[k].1, ()), ?_, ⟨k + 1, by omega, rfl, ⟨?_, c.2.2⟩, ⟨fun h => (h6.1 h).2, fun h => h6.2 ⟨c, h⟩⟩, fun _ => by rw [xx, e]⟩, by dsimp only; omega, ze⟩
   ·refine uT sd (uN sd (uC _ hv (uF (by rw [zo c]; rfl) ?_)))
    repeat refine za ?_
    rw [aaA (x := (k : Int) + 1) zc]
    show some (Sum.inl (((k + 1 : Nat) : Int), (l.getD k zs).1, ())) = _
    rw [e]
   ·have := h5.1; have := c.2.1; dsimp only; omega
  ·right
   rw [zn (fun h => c (h6.1 h).1)]
   exact uT sd (uN sd (uC _ hv (uT (by rw [zn c]; rfl) rfl)))
 ·right
  have hkl : k = l.length := zc
  subst hkl
  rw [List.drop_length, aJU] at h6
  have hw : w64 (len l - 1) = ((l.length - 1 : Nat) : Int) := by rw [aaC, aaA (x := (l.length : Int) - 1) zc]; omega
  simp only [hw, aaM]
  refine uF sd (uN sd ?_)
  rw [h7 zc] at h6
  show some (Sum.inr ((l.getD (l.length - 1) zs).1 == 1000000, ())) = _
  by_cases c : (l.getD (l.length - 1) zs).1 = 1000000
  ·rw [zo (h6.2 c), yF.2 c]
  ·rw [zn (fun h => c (h6.1 h)), beq_eq_false_iff_ne.2 c]
theorem ak4 {α : Type} (l : List α) : (len l == 0) = decide (l = []) := by
 cases l with
 | nil => rfl
 | cons a l => rw [zn zi, beq_eq_false_iff_ne]; simp [len]; omega
theorem aH3 (c : CvT) (y) (h : ag9 (c, ()) = some y) : (ay8 c).toO = some y := by
 injection h with h
 subst h
 obtain ⟨kind, tab, l, u⟩ := c
 unfold ay8
 dsimp only
 simp only [ak4]
 by_cases k1 : kind = 1
 ·subst k1
  refine uT rfl ?_
  by_cases a1 : tab = []
  ·refine uT (zo a1) ?_
   by_cases a2 : l = []
   ·rw [if_pos (show abW (1, tab, l, u) from Or.inl ⟨rfl, a1, a2⟩)]
    exact uF (by rw [zo a2]; rfl) rfl
   ·rw [if_neg (fun h => by rcases h with h | h | h; exact a2 h.2.2; exact absurd h.1 zj; exact absurd h.1 zj)]
    exact uT (by rw [zn a2]; rfl) rfl
  ·rw [if_neg (fun h => by rcases h with h | h | h; exact a1 h.2.1; exact absurd h.1 zj; exact absurd h.1 zj)]
   exact uF (zn a1) rfl
 refine uF (beq_eq_false_iff_ne.2 k1) ?_
 by_cases k2 : kind = 2
 ·subst k2
  refine uT rfl (uC (decide (adM tab), ()) rfl ?_)
  by_cases a1 : adM tab
  ·refine uT (zo a1) ?_
   by_cases a2 : l = []
   ·rw [if_pos (show abW (2, tab, l, u) from Or.inr (Or.inl ⟨rfl, a1, a2⟩))]
    exact uF (by rw [zo a2]; rfl) rfl
   ·rw [if_neg (fun h => by rcases h with h | h | h; exact absurd h.1 zj; exact a2 h.2.2; exact absurd h.1 zj)]
    exact uT (by rw [zn a2]; rfl) rfl
  ·rw [if_neg (fun h => by rcases h with h | h | h; exact absurd h.1 zj; exact a1 h.2.1; exact absurd h.1 zj)]
   exact uF (zn a1) rfl
 refine uF (beq_eq_false_iff_ne.2 k2) ?_
 by_cases k3 : kind = 3
 ·subst k3
  refine uT rfl ?_
  by_cases a1 : tab = []
  ·refine uT (zo a1) (uC (decide (ab9 l), ()) rfl ?_)
   by_cases a2 : ab9 l
   ·rw [if_pos (show abW (3, tab, l, u) from Or.inr (Or.inr ⟨rfl, a1, a2⟩))]
    exact uF (by rw [zo a2]; rfl) rfl
   ·rw [if_neg (fun h => by rcases h with h | h | h; exact absurd h.1 zj; exact absurd h.1 zj; exact a2 h.2.2)]
    exact uT (by rw [zn a2]; rfl) rfl
  ·rw [if_neg (fun h => by rcases h with h | h | h; exact absurd h.1 zj; exact absurd h.1 zj; exact a1 h.2.1)]
   exact uF (zn a1) rfl
 ·rw [if_neg (fun h => by rcases h with h | h | h; exact k1 h.1; exact k2 h.1; exact k3 h.1)]
  exact uF (beq_eq_false_iff_ne.2 k3) rfl
theorem az4 (c : CvT) : ag9 (c, ()) = some (if abW c then 0 else 90, ()) := rfl
end Go.Vs
