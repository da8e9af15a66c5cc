/-
  Trees of what the functions compute, and their laws. Own work; no condition.
-/
import Derived.Test.YtakjojajnblpoaaGreatDoorClL2
import Derived.Test.YtakjojajnblpoaaGreatDoorProg
set_option linter.unusedVariables false
set_option linter.unusedSimpArgs false
set_option maxRecDepth 100000
namespace Go.Vs
open Go Go.Vg Go.Proofs
noncomputable section
def aMz : LTab := []
def aw5 (lo : Int) (hi : Int) : TT uG :=
 .ite (decide (-1000000000000000000 ≤ lo))
 (.ite (decide (lo ≤ hi))
 (.ok ((decide (hi ≤ 1000000000000000000), ())))
 (.ok ((false, ()))))
 (.ok ((false, ())))
def aOK : LTab := []
def aBV (lo : Int) (hi : Int) : TT uy :=
 .call (adS (lo, hi, ())) Dd1 fun y =>
 .ite (!y.1)
 (.ok (((0, 0, ()), 6, ())))
 (.ok (((lo, hi, ()), 0, ())))
def aMD : LTab := []
def aw7 (b : Int × Int × Unit) : TT uK :=
 .call (adS (b.1, b.2.1, ())) Dd1 fun y =>
 .ite (!y.1)
 (.ok ((30, ())))
 (.ok ((0, ())))
def aQX : LTab := []
def aMB (lo : Int) (hi : Int) : TT uy :=
 .call (adS (lo, hi, ())) Dd1 fun y =>
 .ite (!y.1)
 (.ok (((0, 0, ()), 30, ())))
 (.ok (((lo, hi, ()), 0, ())))
def aMA : LTab := []
def aD4 (l : List Int) : TT uK :=
 .call (axF (l, ())) Dd6 fun y =>
 .ok ((y.1, ()))
def aD5 : LTab := []
def atH (l : List Int) : TT uK :=
 .call (axG (l, ())) Dd6 fun y =>
 .ok ((y.1, ()))
def aJk : LTab := []
def ar8 (a : List UInt8 × List UInt8 × Unit) : TT uy :=
 .call (akN ((a.1, a.2.1, ()), 1000000000000, ())) aEl fun y =>
 .ite (y.2.1 != 0)
 (.ok (((0, 0, ()), y.2.1, ())))
 (.call (alV (y.1, 1000000000000, ())) aeQ fun y1 =>
 .ite (y1.2.1 != 0)
 (.ok (((0, 0, ()), y1.2.1, ())))
 (.call (ahS ((a.1, a.2.1, ()), (y1.1.1, y1.1.2.1, ()), ())) aEl fun y2 =>
 .ite (y2.2.1 != 0)
 (.ok (((0, 0, ()), y2.2.1, ())))
 (.call (adS (y.1, y.1, ())) Dd1 fun y3 =>
 .ite (!y3.1)
 (.ok (((0, 0, ()), 6, ())))
 (.call (aiF (w64 (y.1 + if 0 < y2.1 then 0 else y2.1), w64 (y.1 + if 0 > y2.1 then 0 else y2.1), ())) atW fun y4 =>
 .ok (((y4.1.1, y4.1.2.1, ()), y4.2.1, ()))))))
def aQh : LTab := [(113, 26, 13312, ⟨0, (Int) × Unit, .dat (.s 11) ui <| .nil, [10, 9, 4, 0], [8, 7, 2, 1, 0], 0⟩)]
def ap0 (a : Int × Int × Unit) (b : Int × Int × Unit) (i : (Int) × Unit) : TT (uS ⊕ uy) :=
 .ite (decide (i.1 < (↑2 : Int)))
 (.need (inb i.1 (↑2 : Int)) <| .call (adS ((List.getD [(a.1, a.2.1, ()), (b.1, b.2.1, ())] (0 + Int.toNat i.1) (0, 0, ())).1, (List.getD [(a.1, a.2.1, ()), (b.1, b.2.1, ())] (0 + Int.toNat i.1) (0, 0, ())).2.1, ())) Dd1 fun y =>
 .ite (!y.1)
 (.ok (.inr (((0, 0, ()), 30, ()))))
 (.tt <| .lt (w64 (i.1 + 1) : Int) fun z => .triv (((z : Int) = z) ∧ (((↑2 : Int) : Int) = (↑2 : Int)) ∧ (((7) = (7)) ∧ (((0) = (0)) ∧ (((2) = (2)) ∧ ((true) = (true))))) ∧ (((8) = (8)) ∧ (((0) = (0)) ∧ ((true) = (true)))) ∧ (((201 : FuncId) = 201) ∧ (True ∧ ((((0) = (0)) ∧ (((0) = (0)) ∧ ((true) = (true)))) ∧ ((((1) = (1)) ∧ (((0) = (0)) ∧ ((true) = (true)))) ∧ True)))) ∧ True) ⟨rfl, rfl, ⟨rfl, ⟨rfl, ⟨rfl, rfl⟩⟩⟩, ⟨rfl, ⟨rfl, rfl⟩⟩, ⟨rfl, ⟨trivial, ⟨⟨rfl, ⟨rfl, rfl⟩⟩, ⟨⟨rfl, ⟨rfl, rfl⟩⟩, trivial⟩⟩⟩⟩, trivial⟩ <| .vQ (vP uo <| vP (vU 53 ([(a.1, a.2.1, ()), (b.1, b.2.1, ())] : List um)) <| vP uo <| vP (vT 53 b.1 b.2.1) <| vP (vT 53 a.1 a.2.1) True) <| .ok (.inl ((z, ())))))
 (.tt <| .tt <| .call (aiF (w64 (a.1 + b.1), w64 (a.2.1 + b.2.1), ())) atW fun y1 =>
 .ok (.inr (((y1.1.1, y1.1.2.1, ()), y1.2.1, ()))))
def aGf (a : Int × Int × Unit) (b : Int × Int × Unit) : TT uy :=
 .tt <| .tt <| .loop 0 (.tt <| .triv (((0 : Int) = 0) ∧ (((↑2 : Int) : Int) = (↑2 : Int)) ∧ (((7) = (7)) ∧ (((0) = (0)) ∧ (((2) = (2)) ∧ ((true) = (true))))) ∧ (((8) = (8)) ∧ (((0) = (0)) ∧ ((true) = (true)))) ∧ (((201 : FuncId) = 201) ∧ (True ∧ ((((0) = (0)) ∧ (((0) = (0)) ∧ ((true) = (true)))) ∧ ((((1) = (1)) ∧ (((0) = (0)) ∧ ((true) = (true)))) ∧ True)))) ∧ True) ⟨rfl, rfl, ⟨rfl, ⟨rfl, ⟨rfl, rfl⟩⟩⟩, ⟨rfl, ⟨rfl, rfl⟩⟩, ⟨rfl, ⟨trivial, ⟨⟨rfl, ⟨rfl, rfl⟩⟩, ⟨⟨rfl, ⟨rfl, rfl⟩⟩, trivial⟩⟩⟩⟩, trivial⟩ <| .vQ (vP uo <| vP (vU 53 ([(a.1, a.2.1, ()), (b.1, b.2.1, ())] : List um)) <| vP uo <| vP (vT 53 b.1 b.2.1) <| vP (vT 53 a.1 a.2.1) True) <| .ok ((0, ()))) (ap0 a b)
def aOM : LTab := [(113, 26, 20480, ⟨0, (Int) × Unit, .dat (.s 11) ui <| .nil, [10, 9, 4, 0], [15, 14, 9, 8, 7, 6, 2, 1, 0], 0⟩)]
def alN (a : Int × Int × Unit) (b : Int × Int × Unit) (i : (Int) × Unit) : TT (uS ⊕ uy) :=
 .ite (decide (i.1 < (↑2 : Int)))
 (.need (inb i.1 (↑2 : Int)) <| .call (adS ((List.getD [(a.1, a.2.1, ()), (b.1, b.2.1, ())] (0 + Int.toNat i.1) (0, 0, ())).1, (List.getD [(a.1, a.2.1, ()), (b.1, b.2.1, ())] (0 + Int.toNat i.1) (0, 0, ())).2.1, ())) Dd1 fun y =>
 .ite (!y.1)
 (.ok (.inr (((0, 0, ()), 30, ()))))
 (.tt <| .lt (w64 (i.1 + 1) : Int) fun z => .triv (((z : Int) = z) ∧ (((↑2 : Int) : Int) = (↑2 : Int)) ∧ (((14) = (14)) ∧ (((0) = (0)) ∧ (((2) = (2)) ∧ ((true) = (true))))) ∧ (((15) = (15)) ∧ (((0) = (0)) ∧ ((true) = (true)))) ∧ (((230 : FuncId) = 230) ∧ (True ∧ ((((7) = (7)) ∧ (((0) = (0)) ∧ ((true) = (true)))) ∧ ((((8) = (8)) ∧ (((0) = (0)) ∧ ((true) = (true)))) ∧ ((((6) = (6)) ∧ (((0) = (0)) ∧ ((true) = (true)))) ∧ True))))) ∧ True) ⟨rfl, rfl, ⟨rfl, ⟨rfl, ⟨rfl, rfl⟩⟩⟩, ⟨rfl, ⟨rfl, rfl⟩⟩, ⟨rfl, ⟨trivial, ⟨⟨rfl, ⟨rfl, rfl⟩⟩, ⟨⟨rfl, ⟨rfl, rfl⟩⟩, ⟨⟨rfl, ⟨rfl, rfl⟩⟩, trivial⟩⟩⟩⟩⟩, trivial⟩ <| .vQ (vP uo <| vP (vU 53 ([(a.1, a.2.1, ()), (b.1, b.2.1, ())] : List um)) <| vP uo <| vP (vT 53 b.1 b.2.1) <| vP (vT 53 a.1 a.2.1) <| vP (uc 3 (2 : Int)) <| vP uo <| vP (vT 53 b.1 b.2.1) <| vP (vT 53 a.1 a.2.1) True) <| .ok (.inl ((z, ())))))
 (.tt <| .tt <| .ite (match a.1 == b.1 with
| true =>
 match a.2.1 == b.2.1 with
 | true => true
 | false => false
| false => false)
 (.ok (.inr (((a.1, a.2.1, ()), 0, ()))))
 (.triv (asT Int 0 ≤ 2 ∧ 2 < (↑4 : Int)) zf <| .call (axJ (List.take 2 [a.1, b.1], ())) Dd6 fun y1 =>
 .call (alX (List.take 2 [a.2.1, b.2.1], ())) Dd6 fun y2 =>
 .ite (decide (y1.1 > y2.1))
 (.ok (.inr (((0, 0, ()), 4, ()))))
 (.ok (.inr (((y1.1, y2.1, ()), 0, ()))))))
def aBW (a : Int × Int × Unit) (b : Int × Int × Unit) : TT uy :=
 .tt <| .tt <| .tt <| .tt <| .loop 0 (.tt <| .triv (((0 : Int) = 0) ∧ (((↑2 : Int) : Int) = (↑2 : Int)) ∧ (((14) = (14)) ∧ (((0) = (0)) ∧ (((2) = (2)) ∧ ((true) = (true))))) ∧ (((15) = (15)) ∧ (((0) = (0)) ∧ ((true) = (true)))) ∧ (((230 : FuncId) = 230) ∧ (True ∧ ((((7) = (7)) ∧ (((0) = (0)) ∧ ((true) = (true)))) ∧ ((((8) = (8)) ∧ (((0) = (0)) ∧ ((true) = (true)))) ∧ ((((6) = (6)) ∧ (((0) = (0)) ∧ ((true) = (true)))) ∧ True))))) ∧ True) ⟨rfl, rfl, ⟨rfl, ⟨rfl, ⟨rfl, rfl⟩⟩⟩, ⟨rfl, ⟨rfl, rfl⟩⟩, ⟨rfl, ⟨trivial, ⟨⟨rfl, ⟨rfl, rfl⟩⟩, ⟨⟨rfl, ⟨rfl, rfl⟩⟩, ⟨⟨rfl, ⟨rfl, rfl⟩⟩, trivial⟩⟩⟩⟩⟩, trivial⟩ <| .vQ (vP uo <| vP (vU 53 ([(a.1, a.2.1, ()), (b.1, b.2.1, ())] : List um)) <| vP uo <| vP (vT 53 b.1 b.2.1) <| vP (vT 53 a.1 a.2.1) <| vP (uc 3 (2 : Int)) <| vP uo <| vP (vT 53 b.1 b.2.1) <| vP (vT 53 a.1 a.2.1) True) <| .ok ((0, ()))) (alN a b)
def aMC : LTab := [(113, 26, 13312, ⟨0, (Int) × Unit, .dat (.s 11) ui <| .nil, [10, 9, 4, 0], [8, 7, 3, 2, 1, 0], 0⟩)]
def ai8 (b : Int × Int × Unit) (lo : Int) (hi : Int) (i : (Int) × Unit) : TT (uS ⊕ uy) :=
 .ite (decide (i.1 < (↑1 : Int)))
 (.need (inb i.1 (↑1 : Int)) <| .call (adS ((List.getD [(b.1, b.2.1, ())] (0 + Int.toNat i.1) (0, 0, ())).1, (List.getD [(b.1, b.2.1, ())] (0 + Int.toNat i.1) (0, 0, ())).2.1, ())) Dd1 fun y =>
 .ite (!y.1)
 (.ok (.inr (((0, 0, ()), 30, ()))))
 (.tt <| .lt (w64 (i.1 + 1) : Int) fun z => .triv (((z : Int) = z) ∧ (((↑1 : Int) : Int) = (↑1 : Int)) ∧ (((7) = (7)) ∧ (((0) = (0)) ∧ (((1) = (1)) ∧ ((true) = (true))))) ∧ (((8) = (8)) ∧ (((0) = (0)) ∧ ((true) = (true)))) ∧ (((114 : FuncId) = 114) ∧ (True ∧ ((((1) = (1)) ∧ (((0) = (0)) ∧ ((true) = (true)))) ∧ ((((2) = (2)) ∧ (((0) = (0)) ∧ ((true) = (true)))) ∧ ((((0) = (0)) ∧ (((0) = (0)) ∧ ((true) = (true)))) ∧ True))))) ∧ True) ⟨rfl, rfl, ⟨rfl, ⟨rfl, ⟨rfl, rfl⟩⟩⟩, ⟨rfl, ⟨rfl, rfl⟩⟩, ⟨rfl, ⟨trivial, ⟨⟨rfl, ⟨rfl, rfl⟩⟩, ⟨⟨rfl, ⟨rfl, rfl⟩⟩, ⟨⟨rfl, ⟨rfl, rfl⟩⟩, trivial⟩⟩⟩⟩⟩, trivial⟩ <| .vQ (vP uo <| vP (vU 53 ([(b.1, b.2.1, ())] : List um)) <| vP uo <| vP (uc 3 hi) <| vP (uc 3 lo) <| vP (vT 53 b.1 b.2.1) True) <| .ok (.inl ((z, ())))))
 (.tt <| .tt <| .call (adS (lo, hi, ())) Dd1 fun y1 =>
 .ite (!y1.1)
 (.ok (.inr (((0, 0, ()), 2, ()))))
 (.call (aiF (if hi < if lo > b.1 then lo else b.1 then hi else if lo > b.1 then lo else b.1, if hi < if lo > b.2.1 then lo else b.2.1 then hi else if lo > b.2.1 then lo else b.2.1, ())) atW fun y2 =>
 .ok (.inr (((y2.1.1, y2.1.2.1, ()), y2.2.1, ())))))
def aw6 (b : Int × Int × Unit) (lo : Int) (hi : Int) : TT uy :=
 .tt <| .tt <| .loop 0 (.tt <| .triv (((0 : Int) = 0) ∧ (((↑1 : Int) : Int) = (↑1 : Int)) ∧ (((7) = (7)) ∧ (((0) = (0)) ∧ (((1) = (1)) ∧ ((true) = (true))))) ∧ (((8) = (8)) ∧ (((0) = (0)) ∧ ((true) = (true)))) ∧ (((114 : FuncId) = 114) ∧ (True ∧ ((((1) = (1)) ∧ (((0) = (0)) ∧ ((true) = (true)))) ∧ ((((2) = (2)) ∧ (((0) = (0)) ∧ ((true) = (true)))) ∧ ((((0) = (0)) ∧ (((0) = (0)) ∧ ((true) = (true)))) ∧ True))))) ∧ True) ⟨rfl, rfl, ⟨rfl, ⟨rfl, ⟨rfl, rfl⟩⟩⟩, ⟨rfl, ⟨rfl, rfl⟩⟩, ⟨rfl, ⟨trivial, ⟨⟨rfl, ⟨rfl, rfl⟩⟩, ⟨⟨rfl, ⟨rfl, rfl⟩⟩, ⟨⟨rfl, ⟨rfl, rfl⟩⟩, trivial⟩⟩⟩⟩⟩, trivial⟩ <| .vQ (vP uo <| vP (vU 53 ([(b.1, b.2.1, ())] : List um)) <| vP uo <| vP (uc 3 hi) <| vP (uc 3 lo) <| vP (vT 53 b.1 b.2.1) True) <| .ok ((0, ()))) (ai8 b lo hi)
def aPn : LTab := [(251, 3, 1024, ⟨0, Unit, .nil, [2, 0], [], 0⟩), (251, 122, 6144, ⟨1, (Int) × (Int) × Unit, .dat (.s 4) ui <| .dat (.s 3) ui <| .nil, [2, 0], [], 0⟩)]
def aGv (x : List Int) (j : Unit) (i : (Int) × (Int) × Unit) : TT (uE ⊕ uK) :=
 .ite (decide (i.1 < len x))
 (.need (inb i.1 (len x)) <| .tt <| .lt (w64 (i.1 + 1) : Int) fun z1 => .lt (if gi x i.1 0 < i.2.1 then gi x i.1 0 else i.2.1 : Int) fun z2 => .vQ (vS z2 z1 (0 : Int) x) <| .tr <| .ok (.inl ((z1, z2, ()))))
 (.ok (.inr ((i.2.1, ()))))
def aNp (x : List Int) (j : Unit) : TT uK :=
 .need (asT Int 0 ≤ 0 ∧ 0 < len x) <| .loop 1 (.tt <| .lt (gi x 0 0 : Int) fun z => .vQ (vS z (1 : Int) (0 : Int) x) <| .tr <| .ok ((1, z, ()))) (aGv x j)
def aEI (x : List Int) : TT uK :=
 .join 0 (ι := Unit) (.ite (decide (len x < 1))
 (.bad)
 (.tt <| .vQ (uc (0 : Int) x) <| .tr <| .ok (.inl (())))) (aNp x)
def aPo : LTab := [(252, 3, 1024, ⟨0, Unit, .nil, [2, 0], [], 0⟩), (252, 122, 6144, ⟨1, (Int) × (Int) × Unit, .dat (.s 4) ui <| .dat (.s 3) ui <| .nil, [2, 0], [], 0⟩)]
def aGw (x : List Int) (j : Unit) (i : (Int) × (Int) × Unit) : TT (uE ⊕ uK) :=
 .ite (decide (i.1 < len x))
 (.need (inb i.1 (len x)) <| .tt <| .lt (w64 (i.1 + 1) : Int) fun z1 => .lt (if gi x i.1 0 > i.2.1 then gi x i.1 0 else i.2.1 : Int) fun z2 => .vQ (vS z2 z1 (0 : Int) x) <| .tr <| .ok (.inl ((z1, z2, ()))))
 (.ok (.inr ((i.2.1, ()))))
def aNq (x : List Int) (j : Unit) : TT uK :=
 .need (asT Int 0 ≤ 0 ∧ 0 < len x) <| .loop 1 (.tt <| .lt (gi x 0 0 : Int) fun z => .vQ (vS z (1 : Int) (0 : Int) x) <| .tr <| .ok ((1, z, ()))) (aGw x j)
def aEJ (x : List Int) : TT uK :=
 .join 0 (ι := Unit) (.ite (decide (len x < 1))
 (.bad)
 (.tt <| .vQ (uc (0 : Int) x) <| .tr <| .ok (.inl (())))) (aNq x)
def aE4 : LTab := []
def anU (n : Int) : TT tb :=
 .call (aHi (#[48].toList, n, ())) Dd2 fun y =>
 .need (List.length #[49].toList + List.length y.1 ≤ lim) <| .ok ((#[49].toList ++ y.1, ()))
def aNM : LTab := []
def aA1 (a : List UInt8) (k : Int) : TT (List UInt8 × Bool × Int × Unit) :=
 .call (ap5 (a, k, ())) aGn fun y =>
 .ite (y.2.1 != 0)
 (.ok ((#[].toList, false, y.2.1, ())))
 (.call (alS (y.1, k, ())) aGn fun y1 =>
 .ite (y1.2.1 != 0)
 (.ok ((#[].toList, false, y1.2.1, ())))
 (.ok ((y.1, y1.1 == a, 0, ()))))
def aE5 : LTab := []
def anV (a : List UInt8) (up0 : Bool) : TT um :=
 .call (akK (a, ())) aEl fun y =>
 .ite (y.2.1 != 0)
 (.ok ((0, y.2.1, ())))
 (.ite (decide (y.1 > 1000000000000000000))
 (.ok ((0, 6, ())))
 (.ite (up0)
 (.ok ((w64 (y.1 + 1), 0, ())))
 (.ok ((y.1, 0, ())))))
def aH5 : LTab := []
def aq7 (e : Int × Int × Unit) : TT uG :=
 .ite (decide (e.1 ≥ 1))
 (.ite (decide (e.1 ≤ 36))
 (.ite (decide (e.2.1 ≥ 1))
 (.ok ((decide (e.2.1 ≤ 12), ())))
 (.ok ((false, ()))))
 (.ok ((false, ()))))
 (.ok ((false, ())))
def aNE : LTab := []
def aAX (p : um × Unit) (n : Int) (up0 : Bool) : TT um :=
 .call (atJ (n, ())) Dd2 fun y =>
 .call (alS (y.1, p.1.1, ())) aGn fun y1 =>
 .ite (y1.2.1 != 0)
 (.ok ((0, y1.2.1, ())))
 (.ite (decide (p.1.1 ≤ p.1.2.1))
 (.call (ahP (w64 (12 * w64 (p.1.2.1 - p.1.1)), ())) Dd2 fun y2 =>
 .call (asC (y1.1, y2.1, ())) aGn fun y3 =>
 .ite (y3.2.1 != 0)
 (.ok ((0, y3.2.1, ())))
 (.call (aqB (y3.1, p.1.2.1, ())) aRx fun y4 =>
 .ite (y4.2.2.1 != 0)
 (.ok ((0, y4.2.2.1, ())))
 (.ite (up0)
 (.ite (y4.2.1)
 (.call (acH (y4.1, !#[48].toList == #[48].toList, ())) aEl fun y5 =>
 .ok ((y5.1, y5.2.1, ())))
 (.call (acH (y4.1, !false, ())) aEl fun y6 =>
 .ok ((y6.1, y6.2.1, ()))))
 (.call (acH (y4.1, false, ())) aEl fun y7 =>
 .ok ((y7.1, y7.2.1, ()))))))
 (.call (ahP (w64 (12 * w64 (p.1.1 - p.1.2.1)), ())) Dd2 fun y8 =>
 .call (asD (y1.1, y8.1, ())) aRE fun y9 =>
 .ite (y9.2.2.1 != 0)
 (.ok ((0, y9.2.2.1, ())))
 (.call (aqB (y9.1, p.1.2.1, ())) aRx fun y10 =>
 .ite (y10.2.2.1 != 0)
 (.ok ((0, y10.2.2.1, ())))
 (.ite (up0)
 (.ite (y10.2.1)
 (.call (acH (y10.1, !y9.2.1 == #[48].toList, ())) aEl fun y11 =>
 .ok ((y11.1, y11.2.1, ())))
 (.call (acH (y10.1, !false, ())) aEl fun y12 =>
 .ok ((y12.1, y12.2.1, ()))))
 (.call (acH (y10.1, false, ())) aEl fun y13 =>
 .ok ((y13.1, y13.2.1, ())))))))
def aKD : LTab := []
def avD (b : Int × Int × Unit) (p : Int) (q : Int) : TT uy :=
 .call (aqK ((b.1, b.2.1, ()), ())) Dd6 fun y =>
 .ite (y.1 != 0)
 (.ok (((0, 0, ()), y.1, ())))
 (.call (asE ((p, q, ()), ())) Dd1 fun y1 =>
 .ite (!y1.1)
 (.ok (((0, 0, ()), 2, ())))
 (.ite (decide (b.1 < 0))
 (.ok (((0, 0, ()), 2, ())))
 (.tt <| .tt <| .call (aqA (((p, q, ()), ()), b.1, false, ())) aEl fun y2 =>
 .ite (y2.2.1 != 0)
 (.ok (((0, 0, ()), y2.2.1, ())))
 (.call (aqA (((p, q, ()), ()), b.2.1, true, ())) aEl fun y3 =>
 .ite (y3.2.1 != 0)
 (.ok (((0, 0, ()), y3.2.1, ())))
 (.call (aHj (y2.1, y3.1, ())) atW fun y4 =>
 .ite (y4.2.1 != 0)
 (.ok (((0, 0, ()), 6, ())))
 (.ok (((y4.1.1, y4.1.2.1, ()), 0, ()))))))))
end
open Go Go.Vg
theorem aGb (lo hi : Int) (y) (h : adS (lo, hi, ()) = some y) : (aw5 lo hi).toO = some y := by
 injection h with h
 subst h
 unfold aw5
 by_cases h1 : -1000000000000000000 ≤ lo
 ·refine uT (zo h1) ?_
  by_cases h2 : lo ≤ hi
  ·refine uT (zo h2) ?_
   simp [aaK, okB, h1, h2]
  ·refine uF (zn h2) ?_
   simp [aaK, okB, h2]
 ·refine uF (zn h1) ?_
  simp [aaK, okB, h1]
theorem al2 (lo hi : Int) : adS (lo, hi, ()) = some (decide (okB lo hi), ()) := rfl
theorem aJi (lo hi : Int) (y) (h : aiF (lo, hi, ()) = some y) : (aBV lo hi).toO = some y := by
 unfold aiF mkB at h
 dsimp only at h
 unfold aBV
 refine uC _ (al2 lo hi) ?_
 by_cases h1 : okB lo hi
 ·rw [if_pos h1] at h
  exact uF (by rw [zo h1]; rfl) h
 ·rw [if_neg h1] at h
  exact uT (by rw [zn h1]; rfl) h
theorem aOL (lo hi : Int) (y) (h : aHj (lo, hi, ()) = some y) : (aMB lo hi).toO = some y := by
 unfold aHj mkB at h
 dsimp only at h
 unfold aMB
 refine uC _ (al2 lo hi) ?_
 by_cases h1 : okB lo hi
 ·rw [if_pos h1] at h
  exact uF (by rw [zo h1]; rfl) h
 ·rw [if_neg h1] at h
  exact uT (by rw [zn h1]; rfl) h
theorem aGe (b : BdT) (y) (h : aqK (b, ()) = some y) : (aw7 b).toO = some y := by
 unfold aqK at h
 dsimp only at h
 unfold aw7
 refine uC _ (al2 b.1 b.2.1) ?_
 by_cases h1 : okB b.1 b.2.1
 ·rw [if_pos h1] at h
  exact uF (by rw [zo h1]; rfl) h
 ·rw [if_neg h1] at h
  exact uT (by rw [zn h1]; rfl) h
theorem aJ5 (x : List Int) (y) (h : axF (x, ()) = some y) : (aEI x).toO = some y := by
 unfold axF at h
 cases x with
 | nil => cases h
 | cons a l =>
  simp only at h
  split at h
  ·rename_i hl
   injection h with h
   subst h
   unfold aEI
   refine uL () (uF (by (try simp only [ym, yk, yM, xe, beq_eq_false_iff_ne, bne_eq_false_iff_eq, zR, yD]) <;> (try simp only [aaC, inb, inc, ge_iff_le, gt_iff_lt, zp, asT, ne_eq]) <;> simp only [zI] <;> omega) rfl) ?_
   refine uN ⟨by simp [asT], by (try simp only [aaC, inb, inc, ge_iff_le, gt_iff_lt, zp, asT, ne_eq]); simp only [zI]; omega⟩ ?_
   refine uO (1, a, ()) rfl ?_
   refine aaN (fun i : Int × Int × Unit => ∃ k : Nat, k ≤ l.length ∧ i = (((k + 1 : Nat) : Int), (l.take k).foldl (fun m y => if y < m then y else m) a, ())) (fun i => ((l.length + 1 : Nat) - i.1).toNat) (fun _ => (l.foldl (fun m y => if y < m then y else m) a, ())) ?_ _ ⟨0, by omega, rfl⟩
   rintro i ⟨k, hk, rfl⟩
   simp only [aGv, aaM]
   rcases zr k l.length with h1 | h1
   ·left
    refine ⟨(((k + 1 + 1 : Nat) : Int), (l.take (k + 1)).foldl (fun m y => if y < m then y else m) a, ()), ?_, ⟨k + 1, by omega, rfl⟩, by simp only; omega, ze⟩
    refine uT (by (try simp only [ym, yk, yM, xe, beq_eq_false_iff_ne, bne_eq_false_iff_eq, zR, yD]) <;> (try simp only [aaC, inb, inc, ge_iff_le, gt_iff_lt, zp, asT, ne_eq]) <;> simp only [zI] <;> omega) (uN ⟨by omega, by (try simp only [aaC, inb, inc, ge_iff_le, gt_iff_lt, zp, asT, ne_eq]); simp only [zI]; omega⟩ ?_)
    repeat refine za ?_
    rw [zW h1, List.foldl_append]
    have e : (a :: l).getD (k + 1) 0 = l[k] := by simp [h1]
    rw [e, aaA (x := ((k + 1 : Nat) : Int) + 1) zc]
    rfl
   ·right
    refine uF (by (try simp only [ym, yk, yM, xe, beq_eq_false_iff_ne, bne_eq_false_iff_eq, zR, yD]) <;> (try simp only [aaC, inb, inc, ge_iff_le, gt_iff_lt, zp, asT, ne_eq]) <;> simp only [zI] <;> omega) ?_
    rw [zz h1]; rfl
  ·cases h
theorem aJ6 (x : List Int) (y) (h : axG (x, ()) = some y) : (aEJ x).toO = some y := by
 unfold axG at h
 cases x with
 | nil => cases h
 | cons a l =>
  simp only at h
  split at h
  ·rename_i hl
   injection h with h
   subst h
   unfold aEJ
   refine uL () (uF (by (try simp only [ym, yk, yM, xe, beq_eq_false_iff_ne, bne_eq_false_iff_eq, zR, yD]) <;> (try simp only [aaC, inb, inc, ge_iff_le, gt_iff_lt, zp, asT, ne_eq]) <;> simp only [zI] <;> omega) rfl) ?_
   refine uN ⟨by simp [asT], by (try simp only [aaC, inb, inc, ge_iff_le, gt_iff_lt, zp, asT, ne_eq]); simp only [zI]; omega⟩ ?_
   refine uO (1, a, ()) rfl ?_
   refine aaN (fun i : Int × Int × Unit => ∃ k : Nat, k ≤ l.length ∧ i = (((k + 1 : Nat) : Int), (l.take k).foldl (fun m y => if y > m then y else m) a, ())) (fun i => ((l.length + 1 : Nat) - i.1).toNat) (fun _ => (l.foldl (fun m y => if y > m then y else m) a, ())) ?_ _ ⟨0, by omega, rfl⟩
   rintro i ⟨k, hk, rfl⟩
   simp only [aGw, aaM]
   rcases zr k l.length with h1 | h1
   ·left
    refine ⟨(((k + 1 + 1 : Nat) : Int), (l.take (k + 1)).foldl (fun m y => if y > m then y else m) a, ()), ?_, ⟨k + 1, by omega, rfl⟩, by simp only; omega, ze⟩
    refine uT (by (try simp only [ym, yk, yM, xe, beq_eq_false_iff_ne, bne_eq_false_iff_eq, zR, yD]) <;> (try simp only [aaC, inb, inc, ge_iff_le, gt_iff_lt, zp, asT, ne_eq]) <;> simp only [zI] <;> omega) (uN ⟨by omega, by (try simp only [aaC, inb, inc, ge_iff_le, gt_iff_lt, zp, asT, ne_eq]); simp only [zI]; omega⟩ ?_)
    repeat refine za ?_
    rw [zW h1, List.foldl_append]
    have e : (a :: l).getD (k + 1) 0 = l[k] := by simp [h1]
    rw [e, aaA (x := ((k + 1 : Nat) : Int) + 1) zc]
    rfl
   ·right
    refine uF (by (try simp only [ym, yk, yM, xe, beq_eq_false_iff_ne, bne_eq_false_iff_eq, zR, yD]) <;> (try simp only [aaC, inb, inc, ge_iff_le, gt_iff_lt, zp, asT, ne_eq]) <;> simp only [zI] <;> omega) ?_
    rw [zz h1]; rfl
  ·cases h
theorem aGc (l : List Int) (y) (h : axJ (l, ()) = some y) : (aD4 l).toO = some y := uC _ h rfl
theorem ayO (l : List Int) (y) (h : alX (l, ()) = some y) : (atH l).toO = some y := uC _ h rfl
theorem ai3 (q : Rat) (n : Int) : n ≤ fl q ↔ (n : Rat) ≤ q := by
 unfold fl
 rw [Rat.le_iff, xd (by have := q.den_pos; omega)]
 simp
theorem aCx (a b : Rat) : a < b ∨ a = b ∨ b < a := by grind
theorem aIJ {q : Rat} {n : Int} (h1 : (n : Rat) ≤ q) (h2 : q < ((n + 1 : Int) : Rat)) : fl q = n := by
 have e1 := (ai3 q n).2 h1
 have e2 : ¬ (n + 1 ≤ fl q) := fun h => by
  have := (ai3 q (n + 1)).1 h
  exact absurd h2 (wh.2 this)
 omega
theorem aQL (q : Rat) : ((fl q : Int) : Rat) ≤ q := (ai3 q _).1 (Int.le_refl _)
theorem aRk (q : Rat) : q < ((fl q + 1 : Int) : Rat) := by
 rcases Rat.not_le.1 (fun h => by have := (ai3 q (fl q + 1)).2 h; omega) with h
 exact h
theorem aGh {x : Rat} {n : Int} (hn : fl (x + 1 / 2) = n) : (x = n → fl x = n ∧ -fl (-x) = n) ∧ (x < n → fl x = n - 1 ∧ -fl (-x) = n) ∧ ((n : Rat) < x → fl x = n ∧ -fl (-x) = n + 1) := by
 have a1 := aQL (x + 1 / 2)
 have a2 := aRk (x + 1 / 2)
 rw [hn] at a1 a2
 rw [xV] at a2
 refine ⟨fun h => ⟨aIJ ?_ ?_, ?_⟩, fun h => ⟨aIJ ?_ ?_, ?_⟩, fun h => ⟨aIJ ?_ ?_, ?_⟩⟩
 ·grind
 ·rw [xV]; grind
 ·have : fl (-x) = -n := aIJ (by rw [xW]; grind) (by rw [xV, xW]; grind)
  omega
 ·rw [vK]; grind
 ·rw [xV, vK]; grind
 ·have : fl (-x) = -n := aIJ (by rw [xW]; grind) (by rw [xV, xW]; grind)
  omega
 ·grind
 ·rw [xV]; grind
 ·have : fl (-x) = -n - 1 := aIJ (by rw [vK, xW]; grind) (by rw [xV, vK, xW]; grind)
  omega
theorem aeN {n : Int} {d : Nat} (hd : d ≠ 0) (h1 : Fit n) (h2 : Fit d) : ac1 (mkRat n d) := by
 obtain ⟨g, t, hg, g0, e0, e1, e2⟩ := aeK n hd
 refine ⟨ae5 h1 ?_, ae5 h2 ?_⟩
 ·rw [e1, ← acS e0 g0]; exact xB _ _
 ·rw [e2]; simp only [zN]; exact xB _ _
theorem aKL {n : Int} {d : Nat} (hd : d ≠ 0) (h1 : Fit n) (h2 : Fit d) : ofQ n d = (fx (mkRat n d), 0, ()) := by
 unfold ofQ
 rw [if_neg zc, xJ, aEq (aeN hd h1 h2)]
theorem aQ2 {n : Int} {d : Nat} (hn : abD n) (hd : d ≠ 0) (h2 : d ≤ 9223372036854775807) : alV (n, (d : Int), ()) = some (fx (mkRat n d), 0, ()) := by
 have hd2 : abD (d : Int) := ⟨by omega, by omega⟩
 unfold alV
 rw [if_pos ⟨hn, hd2⟩]
 simp only [aKL hd (abI hn) (abI hd2)]
theorem ao9 (n : Int) {d : Nat} (hd : d ≠ 0) : mkRat n d * (d : Rat) = (n : Rat) := by
 rw [Rat.mkRat_eq_div]
 exact Rat.div_mul_cancel (by simpa using hd)
theorem aQE (q : Rat) : ao8 q 1000000000000 = fl (q * akS + 1 / 2) := by
 unfold ao8 akS
 rw [show mkRat 1 2 = (1 / 2 : Rat) by rw [Rat.mkRat_eq_div]; rfl]
theorem aD6 (a : FxT) (y) (h : af3 (a, ()) = some y) : (ar8 a).toO = some y := by
 unfold af3 at h
 dsimp only at h
 unfold ar8
 cases ha : rdF a with
 | none =>
  simp only [ha] at h
  exact uC (0, 20, ()) (by unfold akN; dsimp only; rw [show rdF (a.1, a.2.1, ()) = none from ha]) (uT rfl h)
 | some q =>
  simp only [ha] at h
  have hq := (agR ha).1
  have hnear : akN ((a.1, a.2.1, ()), 1000000000000, ()) = some (if abD (ao8 q 1000000000000) then (ao8 q 1000000000000, 0, ()) else (0, 6, ())) := by
   unfold akN
   dsimp only
   rw [show rdF (a.1, a.2.1, ()) = some q from ha]
   simp only
   rw [if_neg zc]
   rfl
  rw [aQE] at hnear
  have hst := aGh (x := q * akS) rfl
  generalize hn : fl (q * akS + 1 / 2) = n at *
  unfold agC mkB at h
  by_cases hi : abD n
  ·rw [if_pos hi] at hnear
   refine uC _ hnear (uF rfl ?_)
   have hof := aQ2 (n := n) (d := 1000000000000) hi zc zc
   refine uC _ hof (uF rfl ?_)
   have hfr : ac1 (mkRat n 1000000000000) := aeN zc (abI hi) (abI ⟨by omega, by omega⟩)
   have hm := ao9 n (d := 1000000000000) zc
   have hcmp : ahS ((a.1, a.2.1, ()), (dec (mkRat n 1000000000000).num, aa2 (mkRat n 1000000000000).den, ()), ()) = some (axZ q (mkRat n 1000000000000), 0, ()) := by
    unfold ahS
    simp only [show rdF (a.1, a.2.1, ()) = some q from ha, afI hfr]
   refine uC _ hcmp (uF rfl ?_)
   refine uC _ (al2 n n) ?_
   have hx : akS = ((1000000000000 : Nat) : Rat) := rfl
   generalize mkRat n 1000000000000 = r at *
   rw [← hx] at hm
   have hone : (0 : Rat) < akS := by rw [hx]; decide
   have hlt : q < r ↔ q * akS < n := by rw [← hm]; exact (vL hone).symm
   have heq : q = r ↔ q * akS = n := by
    rw [← hm]
    constructor
    ·rintro rfl; rfl
    ·intro h
     rcases aCx q r with c | c | c
     ·have := (vL hone).2 c; grind
     ·exact c
     ·have := (vL hone).2 c; grind
   generalize q * akS = x at *
   by_cases hv : okB n n
   ·refine uF (by rw [zo hv]; rfl) ?_
    obtain ⟨v1, v2, v3⟩ := hv
    have key : ∀ lo hi : Int, w64 (n + if 0 < axZ q r then 0 else axZ q r) = lo → w64 (n + if 0 > axZ q r then 0 else axZ q r) = hi → fl x = lo ∧ -fl (-x) = hi → (TT.call (aiF (w64 (n + if 0 < axZ q r then 0 else axZ q r), w64 (n + if 0 > axZ q r then 0 else axZ q r), ())) (Ty.dflt (Ty.pair tD uP)) fun y4 => TT.ok ((y4.1.1, y4.1.2.1, ()), y4.2.1, ())).toO = some y := by
     intro lo hi' h1 h2 h3
     rw [h1, h2]
     refine uC (mkB 6 lo hi') rfl ?_
     rw [h3.1, h3.2] at h
     exact h
    refine key _ _ rfl rfl ?_
    unfold axZ
    by_cases c1 : q < r
    ·rw [if_pos c1]
     obtain ⟨g1, g2⟩ := hst.2.1 (hlt.1 c1)
     rw [if_neg zc, if_pos zc, aaA zc, aaA zc, g1, g2]
     omega
    ·rw [if_neg c1]
     by_cases c2 : q = r
     ·rw [if_pos c2]
      obtain ⟨g1, g2⟩ := hst.1 (heq.1 c2)
      rw [if_neg zc, aaA zc, g1, g2]
      omega
     ·rw [if_neg c2]
      have c3 : (n : Rat) < x := by
       rcases aCx x n with c | c | c
       ·exact absurd (hlt.2 c) c1
       ·exact absurd (heq.2 c) c2
       ·exact c
      obtain ⟨g1, g2⟩ := hst.2.2 c3
      rw [if_pos zc, if_neg zc, aaA zc, aaA zc, g1, g2]
      omega
   ·refine uT (by rw [zn hv]; rfl) ?_
    rw [if_neg] at h
    ·exact h
    ·intro hok
     apply hv
     unfold okB at hok ⊢
     rcases aCx x n with c | c | c
     ·have := hst.2.1 c; omega
     ·have := hst.1 c; omega
     ·have := hst.2.2 c; omega
  ·rw [if_neg hi] at hnear
   refine uC _ hnear (uT rfl ?_)
   rw [if_neg] at h
   ·exact h
   ·intro hok
    apply hi
    unfold okB at hok
    unfold abD
    rcases aCx (q * akS) n with c | c | c
    ·have := hst.2.1 c; omega
    ·have := hst.1 c; omega
    ·have := hst.2.2 c; omega
theorem aHq (lo hi : Int) : aiF (lo, hi, ()) = some (mkB 6 lo hi) := rfl
theorem aQG {α : Type} {R : Int × Unit → Option ((Int × Unit) ⊕ α)} {a : α} (ok0 ok1 : Prop) [Decidable ok0] [Decidable ok1] {e z : α}
  (h0 : R (0, ()) = if ok0 then some (.inl (1, ())) else some (.inr e)) (h1 : R (1, ()) = if ok1 then some (.inl (2, ())) else some (.inr e)) (h2 : ok0 → ok1 → R (2, ()) = some (.inr z))
  (hz : a = if ok0 ∧ ok1 then z else e) : acX R (0, ()) = some a := by
 subst hz
 by_cases c0 : ok0
 ·rw [if_pos c0] at h0
  rw [acN h0]
  by_cases c1 : ok1
  ·rw [if_pos c1] at h1
   rw [acN h1, ab9 (h2 c0 c1), if_pos ⟨c0, c1⟩]
  ·rw [if_neg c1] at h1
   rw [ab9 h1, if_neg (fun h => c1 h.2)]
 ·rw [if_neg c0] at h0
  rw [ab9 h0, if_neg (fun h => c0 h.1)]
theorem aME (a b : BdT) (y) (h : aGj (a, b, ()) = some y) : (aGf a b).toO = some y := by
 injection h with h
 unfold aGf
 refine uV (uV (uO (0, ()) rfl ?_))
 refine aQG (okB a.1 a.2.1) (okB b.1 b.2.1) (z := mkB 6 (a.1 + b.1) (a.2.1 + b.2.1)) ?_ ?_ ?_ h.symm
 ·by_cases c : okB a.1 a.2.1
  ·rw [if_pos c]
   unfold ap0
   refine uT zf (uN zf (uC (decide (okB a.1 a.2.1), ()) rfl (uF (by rw [zo c]; rfl) ?_)))
   repeat refine za ?_
   rfl
  ·rw [if_neg c]
   unfold ap0
   exact uT zf (uN zf (uC (decide (okB a.1 a.2.1), ()) rfl (uT (by rw [zn c]; rfl) rfl)))
 ·by_cases c : okB b.1 b.2.1
  ·rw [if_pos c]
   unfold ap0
   refine uT zf (uN zf (uC (decide (okB b.1 b.2.1), ()) rfl (uF (by rw [zo c]; rfl) ?_)))
   repeat refine za ?_
   rfl
  ·rw [if_neg c]
   unfold ap0
   exact uT zf (uN zf (uC (decide (okB b.1 b.2.1), ()) rfl (uT (by rw [zn c]; rfl) rfl)))
 ·intro c0 c1
  obtain ⟨u1, u2, u3⟩ := c0
  obtain ⟨w1, w2, w3⟩ := c1
  refine uF zf (uV (uV ?_))
  rw [aaA (x := a.1 + b.1) zc, aaA (x := a.2.1 + b.2.1) zc]
  exact uC _ (aHq _ _) rfl
theorem aJj (a b : BdT) (y) (h : aqJ (a, b, ()) = some y) : (aBW a b).toO = some y := by
 injection h with h
 unfold aBW
 refine uV (uV (uV (uV (uO (0, ()) rfl ?_))))
 refine aQG (okB a.1 a.2.1) (okB b.1 b.2.1) (z := ((min a.1 b.1, max a.2.1 b.2.1, ()), 0, ())) ?_ ?_ ?_ h.symm
 ·by_cases c : okB a.1 a.2.1
  ·rw [if_pos c]
   unfold alN
   refine uT zf (uN zf (uC (decide (okB a.1 a.2.1), ()) rfl (uF (by rw [zo c]; rfl) ?_)))
   repeat refine za ?_
   rfl
  ·rw [if_neg c]
   unfold alN
   exact uT zf (uN zf (uC (decide (okB a.1 a.2.1), ()) rfl (uT (by rw [zn c]; rfl) rfl)))
 ·by_cases c : okB b.1 b.2.1
  ·rw [if_pos c]
   unfold alN
   refine uT zf (uN zf (uC (decide (okB b.1 b.2.1), ()) rfl (uF (by rw [zo c]; rfl) ?_)))
   repeat refine za ?_
   rfl
  ·rw [if_neg c]
   unfold alN
   exact uT zf (uN zf (uC (decide (okB b.1 b.2.1), ()) rfl (uT (by rw [zn c]; rfl) rfl)))
 ·intro c0 c1
  obtain ⟨u1, u2, u3⟩ := c0
  obtain ⟨w1, w2, w3⟩ := c1
  refine uF zf (uV (uV ?_))
  by_cases he : a.1 = b.1 ∧ a.2.1 = b.2.1
  ·refine uT ?_ ?_
   ·rw [he.1, he.2]; simp
   ·rw [aaK, he.1, he.2, Int.min_self, Int.max_self]
  ·refine uF ?_ ?_
   ·by_cases e1 : a.1 = b.1
    ·have e2 : a.2.1 ≠ b.2.1 := fun h => he ⟨e1, h⟩
     have b1 : (a.1 == b.1) = true := by rw [e1]; simp
     have b2 : (a.2.1 == b.2.1) = false := by rw [beq_eq_false_iff_ne]; exact e2
     rw [b1, b2]
    ·have b1 : (a.1 == b.1) = false := by rw [beq_eq_false_iff_ne]; exact e1
     rw [b1]
   refine uV ?_
   refine uC (if b.1 < a.1 then b.1 else a.1, ()) rfl ?_
   refine uC (if b.2.1 > a.2.1 then b.2.1 else a.2.1, ()) rfl ?_
   have m1 : (if b.1 < a.1 then b.1 else a.1) = min a.1 b.1 := by rw [Int.min_def]; split <;> split <;> omega
   have m2 : (if b.2.1 > a.2.1 then b.2.1 else a.2.1) = max a.2.1 b.2.1 := by rw [Int.max_def]; split <;> split <;> omega
   simp only [m1, m2]
   refine uF sd rfl
theorem aGd (b : BdT) (lo hi : Int) (y) (h : ajN (b, lo, hi, ()) = some y) : (aw6 b lo hi).toO = some y := by
 injection h with h
 unfold aw6
 refine uV (uV (uO (0, ()) rfl ?_))
 unfold aAd at h
 dsimp only at h
 by_cases c : okB b.1 b.2.1
 ·rw [if_pos c] at h
  have h0 : (ai8 b lo hi (0, ())).toO = some (.inl (1, ())) := by
   unfold ai8
   refine uT zf (uN zf (uC (decide (okB b.1 b.2.1), ()) rfl (uF (by rw [zo c]; rfl) ?_)))
   repeat refine za ?_
   rfl
  rw [acN h0]
  refine ab9 ?_
  unfold ai8
  refine uF zf (uV (uV (uC _ (al2 lo hi) ?_)))
  by_cases c2 : okB lo hi
  ·rw [if_pos c2] at h
   refine uF (by rw [zo c2]; rfl) ?_
   have m : ∀ x : Int, (if hi < if lo > x then lo else x then hi else if lo > x then lo else x) = min (max x lo) hi := by
    intro x
    rw [Int.min_def, Int.max_def]
    split <;> split <;> split <;> omega
   simp only [m]
   refine uC _ (aHq _ _) ?_
   unfold okB at c c2
   unfold mkB
   rw [if_pos (by unfold okB; omega), ← h]
   rfl
  ·rw [if_neg c2] at h
   exact uT (by rw [zn c2]; rfl) (by rw [← h]; rfl)
 ·rw [if_neg c] at h
  refine ab9 ?_
  unfold ai8
  exact uT zf (uN zf (uC (decide (okB b.1 b.2.1), ()) rfl (uT (by rw [zn c]; rfl) (by rw [← h]; rfl))))
theorem aOC (n : Nat) : aa2 (10 ^ n) = 49 :: List.replicate n 48 := by
 induction n with
 | zero => rw [Nat.pow_zero, abH zc]; rfl
 | succ n ih =>
  have h1 : 1 ≤ 10 ^ n := xn zc
  rw [yC, ae6 zc, wE _ zc, Nat.mul_mod_left, ih, wR]
  rfl
theorem aQK (n : Nat) : (List.replicate n ([48] : List UInt8)).flatten = List.replicate n 48 := by
 induction n with
 | zero => rfl
 | succ n ih => rw [xk, List.flatten_cons, ih, xk]; rfl
theorem axR {n : Nat} (h : n ≤ 1000) : ahP ((n : Int), ()) = some (aa2 (10 ^ n), ()) := aaI (enc := fun x : Nat => ((x : Int), ())) n h (fun b hb => Int.ofNat.inj (Prod.mk.inj hb).1)
theorem aA0 (n : Int) (y) (h : ahP (n, ()) = some y) : (anU n).toO = some y := by
 obtain ⟨k, hp, hx, rfl⟩ := aaE h
 obtain ⟨rfl, -⟩ := Prod.mk.inj hx
 unfold anU
 refine uC (List.replicate k 48, ()) ?_ ?_
 ·unfold aHi
  rw [if_pos ⟨by simp only; omega, by simp only; omega, by show 1 ≤ 1000; omega⟩]
  simp only [zp]
  rw [aQK]
 ·refine uN ?_ ?_
  ·simp only [xS]
   show 1 + k ≤ lim
   unfold lim; omega
  ·rw [aOC]; rfl
theorem ajR {n : Nat} (h : Fit (n : Int)) : rdW (aa2 n) = some (n : Int) := by rw [← ad7]; exact ak1 h
theorem aMb {p q : Nat × Nat} (h : (aa2 p.1, (p.2 : Int), ()) = (aa2 q.1, (q.2 : Int), ())) : p = q := by
 obtain ⟨h1, h2⟩ := Prod.mk.inj h
 obtain ⟨h2, -⟩ := Prod.mk.inj h2
 exact Prod.ext (ah6 h1) (Int.ofNat.inj h2)
theorem aHm {n k : Nat} (h1 : Fit (n : Int)) (h2 : 1 ≤ k) (h3 : k ≤ 12) : aqB (aa2 n, (k : Int), ()) = some (aa2 (adN k n), decide (adN k n ^ k = n), 0, ()) := aaI (enc := fun x : Nat × Nat => (aa2 x.1, (x.2 : Int), ())) (n, k) ⟨h1, h2, h3⟩ (fun b hb => aMb hb)
theorem aH7 (a : List UInt8) (k : Int) (y) (h : aqB (a, k, ()) = some y) : (aA1 a k).toO = some y := by
 obtain ⟨⟨n, j⟩, hp, hx, rfl⟩ := aaE h
 obtain ⟨rfl, hx2⟩ := Prod.mk.inj hx; obtain ⟨rfl, -⟩ := Prod.mk.inj hx2; dsimp only
 obtain ⟨h1, h2, h3⟩ := hp
 simp only at h1 h2 h3
 obtain ⟨s1, s2⟩ := amJ n h2
 have hle := at9 (n := n) h2
 have f1 : Fit (adN j n : Int) := ae5 h1 (by simp only [zN]; exact hle)
 have f2 : Fit ((adN j n ^ j : Nat) : Int) := ae5 h1 (by simp only [zN]; exact s1)
 unfold aA1
 refine uC (aa2 (adN j n), 0, ()) ?_ (uF rfl ?_)
 ·unfold ap5
  dsimp only
  rw [ajR h1]
  dsimp only
  rw [if_neg zc, zp, zN, aiI f1, ad7]
 refine uC (aa2 (adN j n ^ j), 0, ()) ?_ (uF rfl ?_)
 ·unfold alS
  dsimp only
  rw [ajR f1]
  dsimp only
  rw [if_neg zc, zp, ← wD, aiI f2, ad7]
 ·rw [aaK]
  have : (aa2 (adN j n ^ j) == aa2 n) = decide (adN j n ^ j = n) := by
   by_cases c : adN j n ^ j = n
   ·rw [c, zo rfl]; simp
   ·rw [zn c, beq_eq_false_iff_ne]
    exact fun h => c (ah6 h)
  rw [this]
theorem af5 {n : Nat} {u : Bool} (h1 : Fit (n : Int)) : acH (aa2 n, u, ()) = some (if n > 1000000000000000000 then (0, 6, ()) else ((n : Int) + (if u then 1 else 0), 0, ())) := by
 refine aaI (enc := fun x : Nat × Bool => (aa2 x.1, x.2, ())) (n, u) h1 (fun b hb => ?_)
 obtain ⟨e1, e2⟩ := Prod.mk.inj hb
 obtain ⟨e2, -⟩ := Prod.mk.inj e2
 exact Prod.ext (ah6 e1) e2
theorem aA2 (a : List UInt8) (u : Bool) (y) (h : acH (a, u, ()) = some y) : (anV a u).toO = some y := by
 obtain ⟨⟨n, v⟩, hp, hx, rfl⟩ := aaE h
 obtain ⟨rfl, hx2⟩ := Prod.mk.inj hx; obtain ⟨rfl, -⟩ := Prod.mk.inj hx2; dsimp only
 simp only at hp
 unfold anV
 have hi : akK (aa2 n, ()) = some (if abD n then ((n : Int), 0, ()) else (0, 6, ())) := by rw [← ad7]; exact axO hp
 by_cases c : abD n
 ·rw [if_pos c] at hi
  unfold abD at c
  refine uC _ hi (uF rfl ?_)
  by_cases c2 : n > 1000000000000000000
  ·rw [if_pos c2]
   exact uT (zo zl) rfl
  ·rw [if_neg c2]
   refine uF (zn zl) ?_
   cases u
   ·exact uF rfl (by simp [aaK])
   ·refine uT rfl ?_
    rw [aaK, aaA zl]; rfl
 ·rw [if_neg c] at hi
  unfold abD at c
  rw [if_pos zc]
  exact uC _ hi (uT rfl rfl)
theorem aCR (e : Int × Int × Unit) (y) (h : asE (e, ()) = some y) : (aq7 e).toO = some y := by
 injection h with h
 subst h
 unfold aq7
 by_cases h1 : e.1 ≥ 1
 ·refine uT (zo h1) ?_
  by_cases h2 : e.1 ≤ 36
  ·refine uT (zo h2) ?_
   by_cases h3 : e.2.1 ≥ 1
   ·refine uT (zo h3) ?_
    rw [aaK]
    congr 2
    exact decide_eq_decide.2 ⟨fun h => ⟨h1, h2, h3, h⟩, fun h => h.2.2.2⟩
   ·refine uF (zn h3) ?_
    rw [aaK, zn (fun h : okE e.1 e.2.1 => h3 h.2.2.1)]
  ·refine uF (zn h2) ?_
   rw [aaK, zn (fun h : okE e.1 e.2.1 => h2 h.2.1)]
 ·refine uF (zn h1) ?_
  rw [aaK, zn (fun h : okE e.1 e.2.1 => h1 h.1)]
theorem aP9 (p q n : Nat) : (p ≤ q → n ^ p * 10 ^ (12 * q) / 10 ^ (12 * p) = n ^ p * 10 ^ (12 * (q - p)) ∧ n ^ p * 10 ^ (12 * q) = n ^ p * 10 ^ (12 * (q - p)) * 10 ^ (12 * p)) ∧ (q < p → n ^ p * 10 ^ (12 * q) / 10 ^ (12 * p) = n ^ p / 10 ^ (12 * (p - q)) ∧ (10 : Nat) ^ (12 * p) = 10 ^ (12 * (p - q)) * 10 ^ (12 * q)) := by
 constructor
 ·intro h
  have e : (10 : Nat) ^ (12 * q) = 10 ^ (12 * (q - p)) * 10 ^ (12 * p) := by rw [← xz]; congr 1; omega
  have h2 : n ^ p * 10 ^ (12 * q) = n ^ p * 10 ^ (12 * (q - p)) * 10 ^ (12 * p) := by rw [e, wz]
  exact ⟨by rw [h2, wE _ (xn zc)], h2⟩
 ·intro h
  have e : (10 : Nat) ^ (12 * p) = 10 ^ (12 * (p - q)) * 10 ^ (12 * q) := by rw [← xz]; congr 1; omega
  refine ⟨?_, e⟩
  rw [e, ← vt, vt, yL (10 ^ (12 * (p - q))), ← vt, wE _ (xn zc)]
theorem amO {n k : Nat} (h : n < 10 ^ k) (hk : k ≤ 600) : Fit (n : Int) := by
 show (aa2 n).length ≤ 600
 have h2 : (aa2 n).length ≤ k + 1 := acG (yn h (zV zc zc))
 rcases zF k with h0 | h0
 ·omega
 ·have := (acQ h0).2 h
  omega
theorem aPL {n K : Nat} (hK : K = 600) (h : ¬ Fit (n : Int)) : 10 ^ K ≤ n := by
 rcases zr n (10 ^ K) with h2 | h2
 ·exact absurd (amO h2 zc) h
 ·exact h2
theorem aQa {p q n : Nat} (hq : 1 ≤ q) (hq2 : q ≤ 12) (hp2 : p ≤ 36) (h : ¬ Fit ((n ^ p : Nat) : Int)) : aBB p q n > 1000000000000000000 := by
 obtain ⟨K, hK⟩ : ∃ K : Nat, K = 600 := ⟨_, rfl⟩
 have h1 := aPL hK h
 unfold aBB
 obtain ⟨s1, s2⟩ := amJ (n ^ p * 10 ^ (12 * q) / 10 ^ (12 * p)) hq
 generalize adN q (n ^ p * 10 ^ (12 * q) / 10 ^ (12 * p)) = v at *
 rcases zr 1000000000000000000 v with h2 | h2
 ·exact h2
 ·exfalso
  rw [yN (xn zc)] at s2
  have h3 : (v + 1) ^ q ≤ (10 ^ 19) ^ q := xl zc q
  have h4 : (10 ^ 19 : Nat) ^ q * 10 ^ (12 * p) ≤ 10 ^ K * 10 ^ (12 * q) := by
   rw [← xM, ← xz, ← xz]
   exact zV zc zc
  have h5 : (v + 1) ^ q * 10 ^ (12 * p) ≤ (10 ^ 19) ^ q * 10 ^ (12 * p) := zS _ h3
  have h6 : 10 ^ K * 10 ^ (12 * q) ≤ n ^ p * 10 ^ (12 * q) := zS _ h1
  generalize (v + 1) ^ q * 10 ^ (12 * p) = a1 at *
  generalize (10 ^ 19 : Nat) ^ q * 10 ^ (12 * p) = a2 at *
  generalize 10 ^ K * 10 ^ (12 * q) = a3 at *
  omega
theorem aBE (n : Nat) : (aa2 n == #[48].toList) = decide (n = 0) := by
 by_cases c : n = 0
 ·subst c; rw [abH zc]; rfl
 ·rw [zn c, beq_eq_false_iff_ne]
  intro h
  have h0 : aa2 0 = #[48].toList := by rw [abH zc]; rfl
  exact c (ah6 (h.trans h0.symm))
theorem aHl {p q n : Nat} {u : Bool} (h : okE p q) (hn : n ≤ 1000000000000000000) : aqA ((((p : Int), (q : Int), ()), ()), (n : Int), u, ()) = some (ax1 p q n u) := by
 refine aaI (enc := fun x : (Nat × Nat) × Nat × Bool => ((((x.1.1 : Int), (x.1.2 : Int), ()), ()), (x.2.1 : Int), x.2.2, ())) ((p, q), n, u) ⟨h, hn⟩ (fun b hb => ?_)
 obtain ⟨⟨b1, b2⟩, b3, b4⟩ := b
 simp only [Prod.mk.injEq, Int.ofNat.injEq, Int.natCast_inj, and_true] at hb
 obtain ⟨⟨h1, h2⟩, h3, h4⟩ := hb
 rw [h1, h2, h3, h4]
theorem aH4 (e : (Int × Int × Unit) × Unit) (n : Int) (u : Bool) (y) (h : aqA (e, n, u, ()) = some y) : (aAX e n u).toO = some y := by
 obtain ⟨⟨⟨p, q⟩, m, b⟩, hp, hx, rfl⟩ := aaE h
 obtain ⟨rfl, hx2⟩ := Prod.mk.inj hx
 obtain ⟨rfl, hx3⟩ := Prod.mk.inj hx2
 obtain ⟨rfl, -⟩ := Prod.mk.inj hx3
 obtain ⟨⟨p1, p2, q1, q2⟩, hm⟩ := hp
 dsimp only at p1 p2 q1 q2 hm ⊢
 have fm : Fit (m : Int) := abI ⟨by omega, by omega⟩
 unfold aAX
 dsimp only
 refine uC (aa2 m, ()) (by rw [aMS ⟨by omega, by omega⟩, ad7]) ?_
 have hpow : alS (aa2 m, (p : Int), ()) = some (wrW ((m ^ p : Nat) : Int)) := by
  unfold alS
  dsimp only
  rw [ajR fm]
  dsimp only
  rw [if_neg zc, zp, ← wD]
 obtain ⟨r1, r2⟩ := aP9 p q m
 by_cases hf : Fit ((m ^ p : Nat) : Int)
 ·rw [aiI hf, ad7] at hpow
  refine uC _ hpow (uF rfl ?_)
  by_cases hpq : p ≤ q
  ·obtain ⟨e1, e2⟩ := r1 hpq
   refine uT sd ?_
   have ew : w64 (12 * w64 ((q : Int) - p)) = ((12 * (q - p) : Nat) : Int) := by rw [aaA (x := (q : Int) - p) zc, aaA zc]; omega
   refine uC (aa2 (10 ^ (12 * (q - p))), ()) (by rw [ew]; exact axR zc) ?_
   obtain ⟨K, hK⟩ : ∃ K : Nat, K = 400 := ⟨_, rfl⟩
   have hlt : m ^ p * 10 ^ (12 * (q - p)) < 10 ^ K := by
    have a1 : m ^ p ≤ (10 ^ 18) ^ p := xl zc p
    have a2 : (10 ^ 18 : Nat) ^ p * 10 ^ (12 * (q - p)) < 10 ^ K := by
     rw [← xM, ← xz]
     exact wS zc zc
    exact Nat.lt_of_le_of_lt (zS _ a1) a2
   have hfm : Fit ((m ^ p * 10 ^ (12 * (q - p)) : Nat) : Int) := amO hlt zc
   have hft : Fit ((10 ^ (12 * (q - p)) : Nat) : Int) := amO (k := K) (wS zc zc) zc
   have hmul : asC (aa2 (m ^ p), aa2 (10 ^ (12 * (q - p))), ()) = some (aa2 (m ^ p * 10 ^ (12 * (q - p))), 0, ()) := by
    unfold asC
    dsimp only
    rw [ajR hf, ajR hft]
    dsimp only
    rw [← yi, aiI hfm, ad7]
   refine uC _ hmul (uF rfl ?_)
   refine uC _ (aHm hfm zc zc) (uF rfl ?_)
   have hv : adN q (m ^ p * 10 ^ (12 * (q - p))) = aBB p q m := by unfold aBB; rw [e1]
   have hfv : Fit (aBB p q m : Int) := by rw [← hv]; exact ae5 hfm zk
   have hex : decide (adN q (m ^ p * 10 ^ (12 * (q - p))) ^ q = m ^ p * 10 ^ (12 * (q - p))) = decide (aBB p q m ^ q * 10 ^ (12 * p) = m ^ p * 10 ^ (12 * q)) := by
    rw [hv, e2]
    exact decide_eq_decide.2 ⟨fun h => by rw [h], fun h => Nat.eq_of_mul_eq_mul_right (xn zc) h⟩
   unfold ax1
   rw [hex, hv]
   dsimp only
   cases u
   ·refine uF rfl (uC _ (af5 hfv) ?_)
    simp only [ye, false_and, if_false]
    rfl
   ·refine uT rfl ?_
    by_cases c : aBB p q m ^ q * 10 ^ (12 * p) = m ^ p * 10 ^ (12 * q)
    ·refine uT (zo c) (uC _ (show acH (aa2 (aBB p q m), (!#[48].toList == #[48].toList), ()) = some _ from af5 (u := false) hfv) ?_)
     simp only [ye, if_false, c, ne_eq, not_true_eq_false, and_false]
     rfl
    ·refine uF (zn c) (uC _ (af5 (u := !false) hfv) ?_)
     simp only [wJ, if_true, c, ne_eq, not_false_eq_true, and_self]
     rfl
  ·obtain ⟨e1, e2⟩ := r2 zc
   refine uF sd ?_
   have ew : w64 (12 * w64 ((p : Int) - q)) = ((12 * (p - q) : Nat) : Int) := by rw [aaA (x := (p : Int) - q) zc, aaA zc]; omega
   refine uC (aa2 (10 ^ (12 * (p - q))), ()) (by rw [ew]; exact axR zc) ?_
   obtain ⟨K, hK⟩ : ∃ K : Nat, K = 600 := ⟨_, rfl⟩
   have hft : Fit ((10 ^ (12 * (p - q)) : Nat) : Int) := amO (k := K) (wS zc zc) zc
   have hD : 0 < 10 ^ (12 * (p - q)) := xn zc
   have hdiv : asD (aa2 (m ^ p), aa2 (10 ^ (12 * (p - q))), ()) = some (aa2 (m ^ p / 10 ^ (12 * (p - q))), aa2 (m ^ p % 10 ^ (12 * (p - q))), 0, ()) := by
    unfold asD
    dsimp only
    rw [ajR hf, ajR hft]
    dsimp only
    rw [if_neg zc, ← Int.natCast_ediv, ← Int.natCast_emod, ad7, ad7]
   refine uC _ hdiv (uF rfl ?_)
   have hfm : Fit ((m ^ p / 10 ^ (12 * (p - q)) : Nat) : Int) := ae5 hf (by simp only [zN]; exact xB _ _)
   refine uC _ (aHm hfm zc zc) (uF rfl ?_)
   have hv : adN q (m ^ p / 10 ^ (12 * (p - q))) = aBB p q m := by unfold aBB; rw [e1]
   have hfv : Fit (aBB p q m : Int) := by rw [← hv]; exact ae5 hfm zk
   have hex : (aBB p q m ^ q = m ^ p / 10 ^ (12 * (p - q)) ∧ m ^ p % 10 ^ (12 * (p - q)) = 0) ↔ aBB p q m ^ q * 10 ^ (12 * p) = m ^ p * 10 ^ (12 * q) := by
    rw [e2, ← wz]
    have hdm := xU (m ^ p) (10 ^ (12 * (p - q)))
    constructor
    ·rintro ⟨h1, h2⟩
     rw [h1]
     rw [h2, zu, yL] at hdm
     rw [hdm]
    ·intro h
     have h3 := Nat.eq_of_mul_eq_mul_right (xn zc) h
     constructor
     ·rw [← h3, wE _ hD]
     ·rw [← h3, Nat.mul_mod_left]
   unfold ax1
   rw [hv]
   dsimp only
   cases u
   ·refine uF rfl (uC _ (af5 hfv) ?_)
    simp only [ye, false_and, if_false]
    rfl
   ·refine uT rfl ?_
    by_cases c1 : aBB p q m ^ q = m ^ p / 10 ^ (12 * (p - q))
    ·refine uT (zo c1) ?_
     rw [aBE]
     refine uC _ (af5 hfv) ?_
     by_cases c2 : m ^ p % 10 ^ (12 * (p - q)) = 0
     ·have c := hex.1 ⟨c1, c2⟩
      simp only [zo c2, Bool.not_true, ye, if_false, c, ne_eq, not_true_eq_false, and_false]
      rfl
     ·have c : ¬ _ := fun h => c2 (hex.2 h).2
      simp only [zn c2, wJ, if_true, c, ne_eq, not_false_eq_true, and_self]
      rfl
    ·refine uF (zn c1) (uC _ (af5 (u := !false) hfv) ?_)
     have c : ¬ _ := fun h => c1 (hex.2 h).1
     simp only [wJ, if_true, c, ne_eq, not_false_eq_true, and_self]
     rfl
 ·rw [aqP hf] at hpow
  refine uC _ hpow (uT rfl ?_)
  have := aQa (q := q) (n := m) zc zc zc hf
  unfold ax1
  rw [if_pos this]
  rfl
theorem az7 (p q n : Nat) (u : Bool) : (ax1 p q n u).2.1 = 0 ∨ (ax1 p q n u).2.1 = 6 := by
 unfold ax1
 split
 ·right; rfl
 ·left; rfl
theorem aE6 (b : BdT) (p q : Int) (y) (h : axI (b, p, q, ()) = some y) : (avD b p q).toO = some y := by
 injection h with h
 unfold aJD at h
 dsimp only at h
 unfold avD
 refine uC (if okB b.1 b.2.1 then 0 else 30, ()) rfl ?_
 by_cases c : okB b.1 b.2.1
 ·rw [if_pos c] at h ⊢
  refine uF rfl ?_
  refine uC (decide (okE p q), ()) rfl ?_
  by_cases c2 : okE p q
  ·refine uF (by rw [zo c2]; rfl) ?_
   by_cases c3 : b.1 < 0
   ·rw [if_neg (fun h => by have := h.2; omega)] at h
    exact uT (zo c3) (by rw [← h]; rfl)
   ·rw [if_pos ⟨c2, by omega⟩] at h
    obtain ⟨k1, k2, k3⟩ := c
    refine uF (zn c3) (uV (uV ?_))
    obtain ⟨P, rfl⟩ := zv (show 0 ≤ p by have := c2.1; omega)
    obtain ⟨Q, rfl⟩ := zv (show 0 ≤ q by have := c2.2.2.1; omega)
    obtain ⟨lo, hlo⟩ := zv (show 0 ≤ b.1 by omega)
    obtain ⟨hi, hhi⟩ := zv (show 0 ≤ b.2.1 by omega)
    rw [hlo, hhi] at h ⊢
    simp only [zp] at h
    refine uC _ (aHl c2 zc) ?_
    by_cases d1 : (ax1 P Q lo false).2.1 ≠ 0
    ·rw [if_pos d1] at h
     refine uT (by simpa using d1) ?_
     have : (ax1 P Q lo false).2.1 = 6 := by rcases az7 P Q lo false with e | e <;> omega
     rw [this, ← h]; rfl
    ·rw [if_neg d1] at h
     refine uF (by simpa using d1) ?_
     refine uC _ (aHl c2 zc) ?_
     by_cases d2 : (ax1 P Q hi true).2.1 ≠ 0
     ·rw [if_pos d2] at h
      refine uT (by simpa using d2) ?_
      have : (ax1 P Q hi true).2.1 = 6 := by rcases az7 P Q hi true with e | e <;> omega
      rw [this, ← h]; rfl
     ·rw [if_neg d2] at h
      refine uF (by simpa using d2) ?_
      unfold mkB at h
      refine uC (mkB 30 (ax1 P Q lo false).1 (ax1 P Q hi true).1) rfl ?_
      unfold mkB
      by_cases d3 : okB (ax1 P Q lo false).1 (ax1 P Q hi true).1
      ·rw [if_pos d3] at h ⊢
       exact uF rfl (by rw [← h]; rfl)
      ·rw [if_neg d3] at h ⊢
       exact uT rfl (by rw [← h]; rfl)
  ·rw [if_neg (fun h => c2 h.1)] at h
   exact uT (by rw [zn c2]; rfl) (by rw [← h]; rfl)
 ·rw [if_neg c] at h ⊢
  exact uT rfl (by rw [← h]; rfl)
set_option maxRecDepth 100000
open Go Go.Vg Go.Proofs
noncomputable section
def aI5 : LTab := []
def ar4 (n : Int) (low : Int) (high : Int) : TT uG :=
 .ite (decide (low ≤ n))
 (.ok ((decide (n ≤ high), ())))
 (.ok ((false, ())))
def aOH : LTab := []
def aHe (n : Int) (d : Int) : TT (uj × Unit) :=
 .call (alV (n, d, ())) aeQ fun y =>
 .ok (((y.1.1, y.1.2.1, ()), ()))
def aF4 : LTab := []
def awV (n : Int) : TT (uj × Unit) :=
 .call (abZ (n, 1, ())) adU fun y =>
 .ok (((y.1.1, y.1.2.1, ()), ()))
def aBQ : LTab := []
def akC (x : List UInt8 × List UInt8 × Unit) : TT (uj × Unit) :=
 .call (aaF (0, ())) adU fun y =>
 .call (aaF (1, ())) adU fun y1 =>
 .tt <| .tt <| .tt <| .tt <| .call (ahS ((x.1, x.2.1, ()), (y.1.1, y.1.2.1, ()), ())) aEl fun y2 =>
 .ite (decide (y2.1 < 0))
 (.ok (((y.1.1, y.1.2.1, ()), ())))
 (.tt <| .tt <| .call (ahS ((x.1, x.2.1, ()), (y1.1.1, y1.1.2.1, ()), ())) aEl fun y3 =>
 .ite (decide (y3.1 > 0))
 (.ok (((y1.1.1, y1.1.2.1, ()), ())))
 (.ok (((x.1, x.2.1, ()), ()))))
def ayM : LTab := [(76, 3, 1024, ⟨0, (Bool) × Unit, .dat (.s 2) tQ <| .nil, [0], [], 0⟩), (76, 58, 4096, ⟨1, (Int) × Unit, .dat (.s 15) ui <| .nil, [14, 13], [], 0⟩)]
def alK (akR : List Int) (j : Bool × Unit) (i : (Int) × Unit) : TT sa :=
 .ite (decide (i.1 < len akR))
 (.need (inb i.1 (len akR)) <| .call (acW (gi akR i.1 0, 0, 65535, ())) Dd1 fun y =>
 .ite (!y.1)
 (.ok (.inr ((false, ()))))
 (.tt <| .lt (w64 (i.1 + 1) : Int) fun z => .vQ (vT z (len akR) akR) <| .tr <| .ok (.inl ((z, ())))))
 (.ok (.inr ((true, ()))))
def awX (akR : List Int) (j : (Bool) × Unit) : TT uG :=
 .loop 1 (.tt <| .vQ (vT (0 : Int) (len akR) akR) <| .tr <| .ok ((0, ()))) (alK akR j)
def aiR (akR : List Int) : TT uG :=
 .join 0 (ι := (Bool) × Unit) (.ite (decide (len akR < 2))
 (.ok (.inr ((false, ()))))
 (.ite (decide (len akR > 17))
 (.ok (.inr ((false, ()))))
 (.tt <| .vQ (uc false akR) <| .tr <| .ok (.inl ((false, ())))))) (awX akR)
def aIX : LTab := [(129, 26, 13312, ⟨0, (Int) × Unit, .dat (.s 17) ui <| .nil, [16, 1], [0], 0⟩), (129, 7, 14336, ⟨1, Unit, .nil, [1], [0], 0⟩), (129, 124, 22528, ⟨2, (Int) × (Int) × Unit, .dat (.s 6) ui <| .dat (.s 5) ui <| .nil, [], [0], 0⟩)]
def awI (p : uh × Int × Bool × Unit) (i : Int × Unit) (j : Unit) (i1 : (Int) × (Int) × Unit) : TT (uE ⊕ sa) :=
 .ite (i1.1 != 0)
 (.need (i1.1 ≠ 0) <| .tt <| .lt (Int.tmod i1.2.1 i1.1 : Int) fun z3 => .vQ (uc i1.1 z3) <| .vQ (vP (ua 122 p.1.1 p.1.2.1 p.1.2.2.1 p.1.2.2.2.1 p.1.2.2.2.2.1 p.1.2.2.2.2.2.1 p.2.1 <| vZ p.2.2.1) True) <| .ok (.inl ((z3, i1.1, ()))))
 (.ok (.inr (.inr ((i1.2.1 == 1, ())))))
def aFX (p : uh × Int × Bool × Unit) (i : Int × Unit) (j : Unit) : TT sa :=
 .loop 2 (.tt <| .lt (p.1.2.2.2.2.1 : Int) fun z1 => .lt (p.1.2.2.2.1 : Int) fun z2 => .vQ (uc z2 z1) <| .vQ (vP (ua 122 p.1.1 p.1.2.1 p.1.2.2.1 z2 z1 p.1.2.2.2.2.2.1 p.2.1 <| vZ p.2.2.1) True) <| .ok ((z1, z2, ()))) (awI p i j)
def afO (p : uh × Int × Bool × Unit) (i : (Int) × Unit) : TT sa :=
 .ite (decide (i.1 < 3))
 (.need (inb i.1 (↑3 : Int)) <| .call (acW (gi [p.1.2.1, p.1.2.2.1, p.1.2.2.2.2.2.1] i.1 0, -100000000, 100000000, ())) Dd1 fun y =>
 .ite (!y.1)
 (.ok (.inr ((false, ()))))
 (.tt <| .lt (w64 (i.1 + 1) : Int) fun z => .vQ (vX z ([p.1.2.1, p.1.2.2.1, p.1.2.2.2.2.2.1] : List Int) <| un ∧ True) <| .vQ (vP (ua 122 p.1.1 p.1.2.1 p.1.2.2.1 p.1.2.2.2.1 p.1.2.2.2.2.1 p.1.2.2.2.2.2.1 p.2.1 <| vZ p.2.2.1) True) <| .ok (.inl ((z, ())))))
 (.join 1 (ι := Unit) (.call (acW (p.1.1, w64 (p.2.1 + 1), 1000000, ())) Dd1 fun y1 =>
 .ite (!y1.1)
 (.ok (.inr (.inr ((false, ())))))
 (.call (acW (p.1.2.2.2.1, 1, 36, ())) Dd1 fun y2 =>
 .ite (!y2.1)
 (.ok (.inr (.inr ((false, ())))))
 (.call (acW (p.1.2.2.2.2.1, 1, 12, ())) Dd1 fun y3 =>
 .ite (!y3.1)
 (.ok (.inr (.inr ((false, ())))))
 (.tt <| .vQ (un ∧ True) <| .vQ (vP (ua 122 p.1.1 p.1.2.1 p.1.2.2.1 p.1.2.2.2.1 p.1.2.2.2.2.1 p.1.2.2.2.2.2.1 p.2.1 <| vZ p.2.2.1) True) <| .ok (.inl (())))))) (aFX p i))
def arY (p : uh × Int × Bool × Unit) : TT uG :=
 .loop 0 (.tt <| .vQ (vX (0 : Int) ([p.1.2.1, p.1.2.2.1, p.1.2.2.2.2.2.1] : List Int) <| un ∧ True) <| .vQ (vP (ua 122 p.1.1 p.1.2.1 p.1.2.2.1 p.1.2.2.2.1 p.1.2.2.2.2.1 p.1.2.2.2.2.2.1 p.2.1 <| vZ p.2.2.1) True) <| .ok ((0, ()))) (afO p)
def ar5 : LTab := [(77, 6, 2048, ⟨0, (Bool) × Unit, .dat (.s 2) tQ <| .nil, [1], [0], 0⟩), (128, 14, 14336, ⟨1, (Int) × (Int) × Unit, .dat (.s 9) ui <| .dat (.s 3) ui <| .nil, [8, 7, 0], [8, 4, 2, 0], 0⟩)]
def ah7 (c : Int × List Int × List uh × Unit) (j : Bool × Unit) (i : (Int) × (Int) × Unit) : TT (uE ⊕ uG) :=
 .ite (decide (i.1 < len c.2.2.1))
 (.need (inb i.1 (len c.2.2.1)) <| .call (afZ ((((gi c.2.2.1 i.1 (0, 0, 0, 0, 0, 0, ())).1, (gi c.2.2.1 i.1 (0, 0, 0, 0, 0, 0, ())).2.1, (gi c.2.2.1 i.1 (0, 0, 0, 0, 0, 0, ())).2.2.1, (gi c.2.2.1 i.1 (0, 0, 0, 0, 0, 0, ())).2.2.2.1, (gi c.2.2.1 i.1 (0, 0, 0, 0, 0, 0, ())).2.2.2.2.1, (gi c.2.2.1 i.1 (0, 0, 0, 0, 0, 0, ())).2.2.2.2.2.1, ()), i.2.1, i.1 == 0, ()), ())) Dd1 fun y =>
 .ite (!y.1)
 (.ok (.inr ((false, ()))))
 (.tt <| .lt (w64 (i.1 + 1) : Int) fun z => .lt ((gi c.2.2.1 i.1 (0, 0, 0, 0, 0, 0, ())).1 : Int) fun z1 => .vQ (vY z1 z (len c.2.2.1) c.2.2.1 <| (vU 8 true) ∧ True) <| .vQ (vP (uf (LoopState.ready : LoopState) (none : Option Code) 34 (#[17] : Array Tmp) (am8 (adF Tryz.f77) [1, 0, 1, 1, 1, 0, 1, 0, 0]) (am8 (adF Tryz.f77) [1, 0, 1, 1, 1, 0, 1, 0, 1]) <| (vR (128 : FuncId) <| True ∧ uY ∧ True) ∧ (vR ((c.1, c.2.1, c.2.2.1, ()) : Int × List Int × List uh × Unit) <| uM ∧ (vR j.1 <| un ∧ True))) <| vP (vS 42 c.1 c.2.1 c.2.2.1) <| vP (uc 4 true) <| vP (vS 42 c.1 c.2.1 c.2.2.1) True) <| .ok (.inl ((z, z1, ())))))
 (.need (inb (w64 (len c.2.2.1 - 1)) (len c.2.2.1)) <| .ok (.inr (((gi c.2.2.1 (w64 (len c.2.2.1 - 1)) (0, 0, 0, 0, 0, 0, ())).1 == 1000000, ()))))
def apX (c : Int × List Int × List uh × Unit) (j : (Bool) × Unit) : TT uG :=
 .tt <| .tt <| .tt <| .tt <| .loop 1 (.tt <| .vQ (vY (0 : Int) (0 : Int) (len c.2.2.1) c.2.2.1 <| (vU 8 true) ∧ True) <| .vQ (vP (uf (LoopState.ready : LoopState) (none : Option Code) 34 (#[17] : Array Tmp) (am8 (adF Tryz.f77) [1, 0, 1, 1, 1, 0, 1, 0, 0]) (am8 (adF Tryz.f77) [1, 0, 1, 1, 1, 0, 1, 0, 1]) <| (vR (128 : FuncId) <| True ∧ uY ∧ True) ∧ (vR ((c.1, c.2.1, c.2.2.1, ()) : Int × List Int × List uh × Unit) <| uM ∧ (vR j.1 <| un ∧ True))) <| vP (vS 42 c.1 c.2.1 c.2.2.1) <| vP (uc 4 true) <| vP (vS 42 c.1 c.2.1 c.2.2.1) True) <| .ok ((0, 0, ()))) (ah7 c j)
def afP (c : Int × List Int × List uh × Unit) : TT uG :=
 .join 0 (ι := (Bool) × Unit) (.ite (decide (len c.2.2.1 < 1))
 (.ok (.inr ((false, ()))))
 (.ite (decide (len c.2.2.1 > 4))
 (.ok (.inr ((false, ()))))
 (.tt <| .vQ (vR false <| un ∧ True) <| .vQ (vP (vS 42 c.1 c.2.1 c.2.2.1) True) <| .ok (.inl ((false, ())))))) (apX c)
def aMs : LTab := []
def aw0 (c : Int × List Int × List uh × Unit) : TT uK :=
 .ite (c.1 == 1)
 (.ite (len c.2.1 == 0)
 (.ite (!len c.2.2.1 == 0)
 (.ok ((90, ())))
 (.ok ((0, ()))))
 (.ok ((90, ()))))
 (.ite (c.1 == 2)
 (.call (aiS (c.2.1, ())) Dd1 fun y =>
 .ite (y.1)
 (.ite (!len c.2.2.1 == 0)
 (.ok ((90, ())))
 (.ok ((0, ()))))
 (.ok ((90, ()))))
 (.ite (c.1 == 3)
 (.ite (len c.2.1 == 0)
 (.call (af2 ((c.1, c.2.1, c.2.2.1, ()), ())) Dd1 fun y1 =>
 .ite (!y1.1)
 (.ok ((90, ())))
 (.ok ((0, ()))))
 (.ok ((90, ()))))
 (.ok ((90, ())))))
def aMr : LTab := [(25, 122, 11264, ⟨0, (Int) × (Bool) × (Bool) × Unit, .dat (.s 7) ui <| .dat (.s 6) tQ <| .dat (.s 5) tQ <| .nil, [3, 2, 1], [0], 0⟩)]
def aAg (c : Int × List Int × List uh × Unit) (y : Int × Unit) (i : (Int) × (Bool) × (Bool) × Unit) : TT (((Int) × (Bool) × (Bool) × Unit) ⊕ um) :=
 .ite (decide (i.1 < len c.2.1))
 (.ite (i.2.2.1)
 (.ite (i.2.1)
 (.tt <| .lt (w64 (i.1 + 1) : Int) fun z => .vQ (vW true true z (0 : Int) (0 : Int) <| un ∧ True) <| .vQ (vP (vS 42 c.1 c.2.1 c.2.2.1) True) <| .ok (.inl ((z, true, true, ()))))
 (.need (inb i.1 (len c.2.1)) <| .need (inb (w64 (i.1 - 1)) (len c.2.1)) <| .tt <| .lt (w64 (i.1 + 1) : Int) fun z1 => .lt (decide (gi c.2.1 i.1 0 < gi c.2.1 (w64 (i.1 - 1)) 0) : Bool) fun z2 => .vQ (vW true z2 z1 (0 : Int) (0 : Int) <| un ∧ True) <| .vQ (vP (vS 42 c.1 c.2.1 c.2.2.1) True) <| .ok (.inl ((z1, z2, true, ())))))
 (.need (inb i.1 (len c.2.1)) <| .need (inb (w64 (i.1 - 1)) (len c.2.1)) <| .ite (i.2.1)
 (.tt <| .lt (w64 (i.1 + 1) : Int) fun z3 => .lt (decide (gi c.2.1 i.1 0 > gi c.2.1 (w64 (i.1 - 1)) 0) : Bool) fun z4 => .vQ (vW z4 true z3 (0 : Int) (0 : Int) <| un ∧ True) <| .vQ (vP (vS 42 c.1 c.2.1 c.2.2.1) True) <| .ok (.inl ((z3, true, z4, ()))))
 (.need (inb i.1 (len c.2.1)) <| .need (inb (w64 (i.1 - 1)) (len c.2.1)) <| .tt <| .lt (w64 (i.1 + 1) : Int) fun z5 => .lt (decide (gi c.2.1 i.1 0 < gi c.2.1 (w64 (i.1 - 1)) 0) : Bool) fun z6 => .lt (decide (gi c.2.1 i.1 0 > gi c.2.1 (w64 (i.1 - 1)) 0) : Bool) fun z7 => .vQ (vW z7 z6 z5 (0 : Int) (0 : Int) <| un ∧ True) <| .vQ (vP (vS 42 c.1 c.2.1 c.2.2.1) True) <| .ok (.inl ((z5, z6, z7, ()))))))
 (.ite (c.1 == 3)
 (.need (asT Int 0 ≤ 0 ∧ 0 < len c.2.2.1) <| .ite (decide ((gi c.2.2.1 0 (0, 0, 0, 0, 0, 0, ())).2.1 < 0))
 (.ite (!decide (len c.2.2.1 > 1))
 (.ok (.inr ((-1, 0, ()))))
 (.ok (.inr ((0, 0, ())))))
 (.ite (!decide (len c.2.2.1 > 1))
 (.ok (.inr ((1, 0, ()))))
 (.ite (!decide (len c.2.2.1 > 1))
 (.ok (.inr ((-1, 0, ()))))
 (.ok (.inr ((0, 0, ())))))))
 (.ite (!i.2.1)
 (.ok (.inr ((1, 0, ()))))
 (.ite (!i.2.2.1)
 (.ok (.inr ((-1, 0, ()))))
 (.ok (.inr ((0, 0, ())))))))
def awZ (c : Int × List Int × List uh × Unit) : TT um :=
 .call (agM ((c.1, c.2.1, c.2.2.1, ()), ())) Dd6 fun y =>
 .ite (y.1 != 0)
 (.ok ((0, y.1, ())))
 (.loop 0 (.tt <| .vQ (vW false false (1 : Int) (0 : Int) (0 : Int) <| un ∧ True) <| .vQ (vP (vS 42 c.1 c.2.1 c.2.2.1) True) <| .ok ((1, false, false, ()))) (aAg c y))
end
theorem aDX (n a b : Int) (y) (h : acW (n, a, b, ()) = some y) : (ar4 n a b).toO = some y := by
 injection h with h
 subst h
 unfold ar4
 by_cases c : a ≤ n
 ·refine uT (zo c) ?_
  rw [aaK]
  congr 2
  exact decide_eq_decide.2 ⟨fun h => ⟨c, h⟩, fun h => h.2⟩
 ·refine uF (zn c) ?_
  rw [aaK, zn (fun h : inR n a b => c h.1)]
theorem ab0 (n a b : Int) : acW (n, a, b, ()) = some (decide (inR n a b), ()) := rfl
theorem aI6 (n d : Int) (y) (h : abZ (n, d, ()) = some y) : (aHe n d).toO = some y := by
 unfold abZ at h
 split at h
 ·rename_i hp
  exact uC (ofQ n d) (by unfold alV; rw [if_pos hp]) h
 ·cases h
theorem afH {n : Int} {d : Nat} (hn : abD n) (hd : d ≠ 0) (h2 : d ≤ 9223372036854775807) : abZ (n, (d : Int), ()) = some (fx (mkRat n d), ()) := by
 have hd2 : abD (d : Int) := ⟨by omega, by omega⟩
 unfold abZ
 rw [if_pos ⟨hn, hd2⟩]
 simp only [aKL hd (abI hn) (abI hd2)]
theorem aBO (n : Int) (y) (h : aaF (n, ()) = some y) : (awV n).toO = some y := by
 unfold aaF at h
 split at h
 ·rename_i hp
  exact uC _ (afH (d := 1) hp zc zc) h
 ·cases h
theorem ab4 {n : Int} (h : abD n) : aaF (n, ()) = some (fx (mkRat n 1), ()) := by unfold aaF; rw [if_pos h]
theorem aeB (n : Int) : mkRat n 1 = (n : Rat) := by rw [Rat.mkRat_eq_div, show ((1 : Nat) : Rat) = 1 from rfl]; grind
theorem ad0 {n : Int} (h : abD n) : ac1 (mkRat n 1) := aeN zc (abI h) (abI ⟨by omega, by omega⟩)
theorem aB7 {p q : Rat} (hp : ac1 p) (hq : ac1 q) : ahS (fx p, fx q, ()) = some (axZ p q, 0, ()) := by
 unfold ahS
 simp only [afI hp, afI hq]
theorem aGM (p q : Rat) : axZ p q < 0 ↔ p < q := by
 unfold axZ
 split
 ·simp_all
 ·split <;> simp_all
theorem aA3 (p q : Rat) : axZ p q > 0 ↔ q < p := by
 unfold axZ
 split
 ·rename_i h; constructor
  ·intro h2; omega
  ·intro h2; exact absurd h2 (by grind)
 ·split
  ·rename_i h; subst h; simp
  ·rename_i h1 h2
   constructor
   ·intro _; rcases aCx p q with c | c | c
    ·exact absurd c h1
    ·exact absurd c h2
    ·exact c
   ·intro _; omega
theorem agZ {q : Rat} (h : ac1 q) : acY (fx q, ()) = some (fx (acK q), ()) := aaI (enc := fun x : Rat => (fx x, ())) q h (fun b hb => avU (Prod.mk.inj hb).1)
theorem awW (x : FxT) (y) (h : acY (x, ()) = some y) : (akC x).toO = some y := by
 obtain ⟨q, hp, hx, rfl⟩ := aaE h
 obtain ⟨rfl, -⟩ := Prod.mk.inj hx
 have i0 : abD 0 := ⟨by omega, by omega⟩
 have i1 : abD 1 := ⟨by omega, by omega⟩
 unfold akC
 refine uC _ (ab4 i0) (uC _ (ab4 i1) (uV (uV (uV (uV ?_)))))
 refine uC _ (aB7 hp (ad0 i0)) ?_
 have e0 : mkRat 0 1 = (0 : Rat) := by rw [aeB]; rfl
 have e1 : mkRat 1 1 = (1 : Rat) := by rw [aeB]; rfl
 unfold acK
 by_cases c : q < 0
 ·rw [if_pos c]
  refine uT (zo ((aGM _ _).2 (by rw [e0]; exact c))) ?_
  rw [e0]; rfl
 ·rw [if_neg c]
  refine uF (zn (fun h => c (by rw [← e0]; exact (aGM _ _).1 h))) (uV (uV ?_))
  refine uC _ (aB7 hp (ad0 i1)) ?_
  by_cases c2 : q > 1
  ·rw [if_pos c2]
   refine uT (zo ((aA3 _ _).2 (by rw [e1]; exact c2))) ?_
   rw [e1]; rfl
  ·rw [if_neg c2]
   exact uF (zn (fun h => c2 (by rw [← e1]; exact (aA3 _ _).1 h))) rfl
theorem atV (l : List Int) (y) (h : aiS (l, ()) = some y) : (aiR l).toO = some y := by
 injection h with h
 subst h
 unfold aiR
 dsimp only
 by_cases h1 : l.length < 2
 ·rw [zn (fun h : adX l => by have := h.1; omega)]
  exact uR _ (uT sd rfl)
 by_cases h2 : l.length > 17
 ·rw [zn (fun h : adX l => by have := h.2.1; omega)]
  exact uR _ (uF sd (uT sd rfl))
 refine uL (false, ()) (uF sd (uF sd rfl)) ?_
 refine uO (0, ()) rfl ?_
 refine aaN (fun i : Int × Unit => ∃ k : Nat, k ≤ l.length ∧ i = ((k : Int), ()) ∧ ∀ v ∈ l.take k, inR v 0 65535) (fun i => ((l.length : Int) - i.1).toNat) (fun _ => (decide (adX l), ())) ?_ _ ⟨0, by omega, rfl, by simp⟩
 rintro i ⟨k, h3, rfl, h4⟩
 simp only [alK, aaM]
 rcases zr k l.length with hk | hk
 ·have e : l.getD k 0 = l[k] := by simp [hk]
  rw [e]
  by_cases c : inR l[k] 0 65535
  ·left
   refine ⟨(((k + 1 : Nat) : Int), ()), ?_, ⟨k + 1, by omega, rfl, ?_⟩, by simp only; omega, ze⟩
   ·refine uT sd (uN sd (uC _ (ab0 _ _ _) (uF (by rw [zo c]; rfl) ?_)))
    repeat refine za ?_
    simp (disch := omega) only [aaK, aaA, aaO, aa0, abO, aaM, zu, zp, aaC, zt]
    rfl
   ·intro v hv
    rw [zW hk] at hv
    rcases zJ.1 hv with hv | hv
    ·exact h4 v hv
    ·rw [yd.1 hv]; exact c
  ·right
   rw [zn (fun h : adX l => c (h.2.2 _ (yp hk)))]
   exact uT sd (uN sd (uC _ (ab0 _ _ _) (uT (by rw [zn c]; rfl) rfl)))
 ·right
  rw [zz hk] at h4
  rw [zo (show adX l from ⟨by omega, by omega, h4⟩)]
  exact uF sd rfl
theorem aOn {a b : Int} (ha : 0 ≤ a) (hb : 0 < b) : Nat.gcd b.natAbs (Int.tmod a b).natAbs = Nat.gcd a.natAbs b.natAbs := by
 obtain ⟨m, rfl⟩ := zv ha
 obtain ⟨n, rfl⟩ := zv (xm hb)
 rw [zE ha]
 have : ((m : Int) % (n : Int)) = ((m % n : Nat) : Int) := zi
 rw [this, zN, zN, zN, xC n, xC m n, Nat.gcd_rec n m]
theorem aJz {p : PcT} (h : inR p.2.1 0 1000000) : afZ (p, ()) = some (decide (aiW p.2.1 p.1), ()) := by unfold afZ; rw [if_pos h]
theorem aDP (p : PcT) (y) (h : afZ (p, ()) = some y) : (arY p).toO = some y := by
 unfold afZ at h
 split at h
 case isFalse => cases h
 case isTrue hfrom =>
 injection h with h
 subst h
 obtain ⟨hf0, hf1⟩ := hfrom
 dsimp only at hf0 hf1 ⊢
 obtain ⟨⟨till, mul, add, nu, de, off, u⟩, fr, first, u'⟩ := p
 dsimp only at hf0 hf1 ⊢
 unfold arY
 refine uO (0, ()) rfl ?_
 have bad : ∀ b : Bool, b = false → (decide (aiW fr (till, mul, add, nu, de, off, u)), ()) = (false, ()) ∨ aiW fr (till, mul, add, nu, de, off, u) := fun b hb => by
  by_cases c : aiW fr (till, mul, add, nu, de, off, u)
  ·exact Or.inr c
  ·left; rw [zn c]
 have step : ∀ (k : Nat) (x : Int), k < 3 → gi [mul, add, off] (k : Int) 0 = x → (inR x (-100000000) 100000000 → (afO ((till, mul, add, nu, de, off, u), fr, first, u') ((k : Int), ())).toO = some (.inl (((k + 1 : Nat) : Int), ()))) ∧ (¬ inR x (-100000000) 100000000 → (afO ((till, mul, add, nu, de, off, u), fr, first, u') ((k : Int), ())).toO = some (.inr (false, ()))) := by
  intro k x hk hx
  constructor
  ·intro c
   unfold afO
   dsimp only
   refine uT sd (uN ⟨by omega, by omega⟩ ?_)
   rw [hx]
   refine uC _ (ab0 _ _ _) (uF (by rw [zo c]; rfl) ?_)
   repeat refine za ?_
   simp (disch := omega) only [aaK, aaA, aaO, aa0, abO, aaM, zu, zp, aaC, zt]
   rfl
  ·intro c
   unfold afO
   dsimp only
   refine uT sd (uN ⟨by omega, by omega⟩ ?_)
   rw [hx]
   exact uC _ (ab0 _ _ _) (uT (by rw [zn c]; rfl) rfl)
 by_cases c1 : inR mul (-100000000) 100000000
 case neg =>
  rw [zn (fun h : aiW _ _ => c1 h.1.1)]
  exact ab9 ((step 0 mul zc rfl).2 c1)
 rw [acN ((step 0 mul zc rfl).1 c1)]
 by_cases c2 : inR add (-100000000) 100000000
 case neg =>
  rw [zn (fun h : aiW _ _ => c2 h.1.2.1)]
  exact ab9 ((step 1 add zc rfl).2 c2)
 rw [acN ((step 1 add zc rfl).1 c2)]
 by_cases c3 : inR off (-100000000) 100000000
 case neg =>
  rw [zn (fun h : aiW _ _ => c3 h.1.2.2.1)]
  exact ab9 ((step 2 off zc rfl).2 c3)
 rw [acN ((step 2 off zc rfl).1 c3)]
 refine ab9 ?_
 unfold afO
 refine uF rfl ?_
 dsimp only
 have hw : w64 (fr + 1) = fr + 1 := aaA zc
 by_cases c4 : inR till (fr + 1) 1000000
 case neg =>
  rw [zn (fun h : aiW _ _ => c4 h.2)]
  refine uR _ (uC _ (ab0 _ _ _) (uT (by rw [hw, zn c4]; rfl) rfl))
 by_cases c5 : inR nu 1 36
 case neg =>
  rw [zn (fun h : aiW _ _ => c5 h.1.2.2.2.1)]
  refine uR _ (uC _ (ab0 _ _ _) (uF (by rw [hw, zo c4]; rfl) (uC _ (ab0 _ _ _) (uT (by rw [zn c5]; rfl) rfl))))
 by_cases c6 : inR de 1 12
 case neg =>
  rw [zn (fun h : aiW _ _ => c6 h.1.2.2.2.2.1)]
  refine uR _ (uC _ (ab0 _ _ _) (uF (by rw [hw, zo c4]; rfl) (uC _ (ab0 _ _ _) (uF (by rw [zo c5]; rfl) (uC _ (ab0 _ _ _) (uT (by rw [zn c6]; rfl) rfl))))))
 refine uL () (uC _ (ab0 _ _ _) (uF (by rw [hw, zo c4]; rfl) (uC _ (ab0 _ _ _) (uF (by rw [zo c5]; rfl) (uC _ (ab0 _ _ _) (uF (by rw [zo c6]; rfl) rfl)))))) ?_
 refine uO (de, nu, ()) rfl ?_
 have hd : decide (aiW fr (till, mul, add, nu, de, off, u)) = decide (Nat.gcd nu.natAbs de.natAbs = 1) := decide_eq_decide.2 ⟨fun h => h.1.2.2.2.2.2, fun h => ⟨⟨c1, c2, c3, c5, c6, h⟩, c4⟩⟩
 rw [hd]
 refine aaN (fun i : Int × Int × Unit => 0 ≤ i.1 ∧ 0 ≤ i.2.1 ∧ Nat.gcd i.2.1.natAbs i.1.natAbs = Nat.gcd nu.natAbs de.natAbs) (fun i => i.1.toNat) (fun _ => (.inr (decide (Nat.gcd nu.natAbs de.natAbs = 1), ()) : (Int × Unit) ⊕ (Bool × Unit))) ?_ _ ⟨by show (0 : Int) ≤ de; have := c6.1; omega, by show (0 : Int) ≤ nu; have := c5.1; omega, rfl⟩
 rintro ⟨b, a, u2⟩ ⟨g1, g2, g3⟩
 dsimp only at g1 g2 g3
 unfold awI
 by_cases hb : b = 0
 ·right
  subst hb
  refine uF rfl ?_
  have g4 : a.natAbs = Nat.gcd nu.natAbs de.natAbs := by simpa using g3
  show some (Sum.inr (Sum.inr (a == 1, ()))) = _
  by_cases c : a = 1
  ·rw [zo (show Nat.gcd nu.natAbs de.natAbs = 1 by omega), c]; rfl
  ·rw [zn (show ¬ Nat.gcd nu.natAbs de.natAbs = 1 by omega), beq_eq_false_iff_ne.2 c]
 ·left
  have hlt : Int.tmod a b < b := by rw [zE g2]; exact yr _ zc
  have hge : 0 ≤ Int.tmod a b := by rw [zE g2]; exact yE _ hb
  refine ⟨(Int.tmod a b, b, ()), ?_, ⟨hge, by dsimp only; omega, ?_⟩, by dsimp only; omega, ze⟩
  ·refine uT (by simpa using hb) (uN hb ?_)
   repeat refine za ?_
   rfl
  ·dsimp only
   rw [← g3]; exact aOn g2 zc
abbrev zs : afS := (0, 0, 0, 0, 0, 0, ())
theorem aHL {last : Int} : ag6 last [] ↔ last = 1000000 := Iff.rfl
theorem aEL {last : Int} {s : afS} {r : List afS} : ag6 last (s :: r) ↔ aiW last s ∧ ag6 s.1 r := Iff.rfl
theorem aoG (c : CvT) (y) (h : af2 (c, ()) = some y) : (afP c).toO = some y := by
 injection h with h
 subst h
 obtain ⟨kind, tab, l, u0⟩ := c
 dsimp only
 unfold afP
 dsimp only
 by_cases h1 : l.length < 1
 ·rw [zn (fun h : aeA l => by have := h.1; omega)]
  exact uR _ (uT sd rfl)
 by_cases h2 : l.length > 4
 ·rw [zn (fun h : aeA l => by have := h.2.1; omega)]
  exact uR _ (uF sd (uT sd rfl))
 refine uL (false, ()) (uF sd (uF sd rfl)) ?_
 refine uO (0, 0, ()) rfl ?_
 have hl : decide (aeA l) = decide (ag6 0 l) := decide_eq_decide.2 ⟨fun h => h.2.2, fun h => ⟨by omega, by omega, h⟩⟩
 rw [hl]
 refine aaN (fun i : Int × Int × Unit => ∃ k : Nat, k ≤ l.length ∧ i.1 = (k : Int) ∧ inR i.2.1 0 1000000 ∧ (ag6 0 l ↔ ag6 i.2.1 (l.drop k)) ∧ (k ≠ 0 → i.2.1 = (l.getD (k - 1) zs).1)) (fun i => ((l.length : Int) - i.1).toNat) (fun _ => (decide (ag6 0 l), ())) ?_ _ ⟨0, by omega, rfl, ⟨by simp, by simp⟩, by simp, by simp⟩
 rintro ⟨i, last, u⟩ ⟨k, h3, h4, h5, h6, h7⟩
 dsimp only at h4 h5 h6 h7
 subst h4
 simp only [ah7, aaM]
 rcases zr k l.length with hk | hk
 ·have e : l.getD k zs = l[k] := by simp [hk]
  have hv : afZ ((((l.getD k zs).1, (l.getD k zs).2.1, (l.getD k zs).2.2.1, (l.getD k zs).2.2.2.1, (l.getD k zs).2.2.2.2.1, (l.getD k zs).2.2.2.2.2.1, ()), last, (k : Int) == 0, ()), ()) = some (decide (aiW last l[k]), ()) := by
   rw [aJz h5, e]
  rw [yz hk, aEL] at h6
  by_cases c : aiW last l[k]
  ·left
   refine ⟨(((k + 1 : Nat) : Int), l[k].1, ()), ?_, ⟨k + 1, by omega, rfl, ⟨?_, c.2.2⟩, ⟨fun h => (h6.1 h).2, fun h => h6.2 ⟨c, h⟩⟩, fun _ => by rw [xv, e]⟩, by dsimp only; omega, ze⟩
   ·refine uT sd (uN sd (uC _ hv (uF (by rw [zo c]; rfl) ?_)))
    repeat refine za ?_
    rw [aaA (x := (k : Int) + 1) zc]
    show some (Sum.inl (((k + 1 : Nat) : Int), (l.getD k zs).1, ())) = _
    rw [e]
   ·have := h5.1; have := c.2.1; dsimp only; omega
  ·right
   rw [zn (fun h => c (h6.1 h).1)]
   exact uT sd (uN sd (uC _ hv (uT (by rw [zn c]; rfl) rfl)))
 ·right
  have hkl : k = l.length := zc
  subst hkl
  rw [List.drop_length, aHL] at h6
  have hw : w64 (len l - 1) = ((l.length - 1 : Nat) : Int) := by rw [aaC, aaA (x := (l.length : Int) - 1) zc]; omega
  simp only [hw, aaM]
  refine uF sd (uN sd ?_)
  rw [h7 zc] at h6
  show some (Sum.inr ((l.getD (l.length - 1) zs).1 == 1000000, ())) = _
  by_cases c : (l.getD (l.length - 1) zs).1 = 1000000
  ·rw [zo (h6.2 c), yM.2 c]
  ·rw [zn (fun h => c (h6.1 h)), beq_eq_false_iff_ne.2 c]
theorem aFl {α : Type} (l : List α) : (len l == 0) = decide (l = []) := by
 cases l with
 | nil => rfl
 | cons a l => rw [zn zi, beq_eq_false_iff_ne]; simp [len]; omega
theorem aF6 (c : CvT) (y) (h : agM (c, ()) = some y) : (aw0 c).toO = some y := by
 injection h with h
 subst h
 obtain ⟨kind, tab, l, u⟩ := c
 unfold aw0
 dsimp only
 simp only [aFl]
 by_cases k1 : kind = 1
 ·subst k1
  refine uT rfl ?_
  by_cases a1 : tab = []
  ·refine uT (zo a1) ?_
   by_cases a2 : l = []
   ·rw [if_pos (show acJ (1, tab, l, u) from Or.inl ⟨rfl, a1, a2⟩)]
    exact uF (by rw [zo a2]; rfl) rfl
   ·rw [if_neg (fun h => by rcases h with h | h | h; exact a2 h.2.2; exact absurd h.1 zj; exact absurd h.1 zj)]
    exact uT (by rw [zn a2]; rfl) rfl
  ·rw [if_neg (fun h => by rcases h with h | h | h; exact a1 h.2.1; exact absurd h.1 zj; exact absurd h.1 zj)]
   exact uF (zn a1) rfl
 refine uF (beq_eq_false_iff_ne.2 k1) ?_
 by_cases k2 : kind = 2
 ·subst k2
  refine uT rfl (uC (decide (adX tab), ()) rfl ?_)
  by_cases a1 : adX tab
  ·refine uT (zo a1) ?_
   by_cases a2 : l = []
   ·rw [if_pos (show acJ (2, tab, l, u) from Or.inr (Or.inl ⟨rfl, a1, a2⟩))]
    exact uF (by rw [zo a2]; rfl) rfl
   ·rw [if_neg (fun h => by rcases h with h | h | h; exact absurd h.1 zj; exact a2 h.2.2; exact absurd h.1 zj)]
    exact uT (by rw [zn a2]; rfl) rfl
  ·rw [if_neg (fun h => by rcases h with h | h | h; exact absurd h.1 zj; exact a1 h.2.1; exact absurd h.1 zj)]
   exact uF (zn a1) rfl
 refine uF (beq_eq_false_iff_ne.2 k2) ?_
 by_cases k3 : kind = 3
 ·subst k3
  refine uT rfl ?_
  by_cases a1 : tab = []
  ·refine uT (zo a1) (uC (decide (aeA l), ()) rfl ?_)
   by_cases a2 : aeA l
   ·rw [if_pos (show acJ (3, tab, l, u) from Or.inr (Or.inr ⟨rfl, a1, a2⟩))]
    exact uF (by rw [zo a2]; rfl) rfl
   ·rw [if_neg (fun h => by rcases h with h | h | h; exact absurd h.1 zj; exact absurd h.1 zj; exact a2 h.2.2)]
    exact uT (by rw [zn a2]; rfl) rfl
  ·rw [if_neg (fun h => by rcases h with h | h | h; exact absurd h.1 zj; exact absurd h.1 zj; exact a1 h.2.1)]
   exact uF (zn a1) rfl
 ·rw [if_neg (fun h => by rcases h with h | h | h; exact k1 h.1; exact k2 h.1; exact k3 h.1)]
  exact uF (beq_eq_false_iff_ne.2 k3) rfl
theorem axW (c : CvT) : agM (c, ()) = some (if acJ c then 0 else 90, ()) := rfl
end Go.Vs
