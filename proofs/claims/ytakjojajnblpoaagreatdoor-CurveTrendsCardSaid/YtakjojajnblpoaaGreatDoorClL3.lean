/-
  Trees of what the functions compute, and their laws. Own work; no condition.
-/
import Derived.Test.YtakjojajnblpoaaGreatDoorClL2
import Derived.Test.YtakjojajnblpoaaGreatDoorProg
set_option linter.unusedVariables false
set_option linter.unusedSimpArgs false
set_option maxRecDepth 100000
namespace Go.Vs
open Go Go.Vg Go.Proofs
noncomputable section
def aMV : LTab := []
def aw7 (lo : Int) (hi : Int) : TT (Bool × Unit) :=
 .ite (decide (-1000000000000000000 ≤ lo))
 (.ite (decide (lo ≤ hi))
 (.ok ((decide (hi ≤ 1000000000000000000), ())))
 (.ok ((false, ()))))
 (.ok ((false, ())))
def aO2 : LTab := []
def aB1 (lo : Int) (hi : Int) : TT ((Int × Int × Unit) × Int × Unit) :=
 .call (adQ (lo, hi, ())) Dd1 fun y =>
 .ite (!y.1)
 (.ok (((0, 0, ()), 6, ())))
 (.ok (((lo, hi, ()), 0, ())))
def aMZ : LTab := []
def aw9 (b : Int × Int × Unit) : TT (Int × Unit) :=
 .call (adQ (b.1, b.2.1, ())) Dd1 fun y =>
 .ite (!y.1)
 (.ok ((30, ())))
 (.ok ((0, ())))
def aRi : LTab := []
def aMX (lo : Int) (hi : Int) : TT ((Int × Int × Unit) × Int × Unit) :=
 .call (adQ (lo, hi, ())) Dd1 fun y =>
 .ite (!y.1)
 (.ok (((0, 0, ()), 30, ())))
 (.ok (((lo, hi, ()), 0, ())))
def aMW : LTab := []
def aEd (l : List Int) : TT (Int × Unit) :=
 .call (axH (l, ())) Dd6 fun y =>
 .ok ((y.1, ()))
def aEe : LTab := []
def atI (l : List Int) : TT (Int × Unit) :=
 .call (axI (l, ())) Dd6 fun y =>
 .ok ((y.1, ()))
def aJE : LTab := []
def ar6 (a : List UInt8 × List UInt8 × Unit) : TT ((Int × Int × Unit) × Int × Unit) :=
 .call (akN ((a.1, a.2.1, ()), 1000000000000, ())) aCf fun y =>
 .ite (y.2.1 != 0)
 (.ok (((0, 0, ()), y.2.1, ())))
 (.call (alY (y.1, 1000000000000, ())) afI fun y1 =>
 .ite (y1.2.1 != 0)
 (.ok (((0, 0, ()), y1.2.1, ())))
 (.call (afX ((a.1, a.2.1, ()), (y1.1.1, y1.1.2.1, ()), ())) aCf fun y2 =>
 .ite (y2.2.1 != 0)
 (.ok (((0, 0, ()), y2.2.1, ())))
 (.call (adQ (y.1, y.1, ())) Dd1 fun y3 =>
 .ite (!y3.1)
 (.ok (((0, 0, ()), 6, ())))
 (.call (aiC (w64 (y.1 + if 0 < y2.1 then 0 else y2.1), w64 (y.1 + if 0 > y2.1 then 0 else y2.1), ())) atZ fun y4 =>
 .ok (((y4.1.1, y4.1.2.1, ()), y4.2.1, ()))))))
def aQz : LTab := [(113, 26, 13312, { tag := 0, ι := (Int) × Unit, vs := .dat (.s 11) (Ty.int IntKind.i64) <| .nil, ks := [10, 9, 4, 0], kh := [8, 7, 2, 1, 0], fresh := 0 })]
def apY (a : Int × Int × Unit) (b : Int × Int × Unit) (i : (Int) × Unit) : TT (((Int) × Unit) ⊕ ((Int × Int × Unit) × Int × Unit)) :=
 .ite (decide (i.1 < (↑2 : Int)))
 (.need (inb i.1 (↑2 : Int)) <| .call (adQ ((List.getD [(a.1, a.2.1, ()), (b.1, b.2.1, ())] (0 + Int.toNat i.1) (0, 0, ())).1, (List.getD [(a.1, a.2.1, ()), (b.1, b.2.1, ())] (0 + Int.toNat i.1) (0, 0, ())).2.1, ())) Dd1 fun y =>
 .ite (!y.1)
 (.ok (.inr (((0, 0, ()), 30, ()))))
 (.tt <| .lt (w64 (i.1 + 1) : Int) fun z => .triv (((z : Int) = z) ∧ (((↑2 : Int) : Int) = (↑2 : Int)) ∧ (((7) = (7)) ∧ (((0) = (0)) ∧ (((2) = (2)) ∧ ((true) = (true))))) ∧ (((8) = (8)) ∧ (((0) = (0)) ∧ ((true) = (true)))) ∧ (((201 : FuncId) = 201) ∧ (True ∧ ((((0) = (0)) ∧ (((0) = (0)) ∧ ((true) = (true)))) ∧ ((((1) = (1)) ∧ (((0) = (0)) ∧ ((true) = (true)))) ∧ True)))) ∧ True) ⟨rfl, rfl, ⟨rfl, ⟨rfl, ⟨rfl, rfl⟩⟩⟩, ⟨rfl, ⟨rfl, rfl⟩⟩, ⟨rfl, ⟨trivial, ⟨⟨rfl, ⟨rfl, rfl⟩⟩, ⟨⟨rfl, ⟨rfl, rfl⟩⟩, trivial⟩⟩⟩⟩, trivial⟩ <| .triv ((Qq (53 : TypeId) ∧ Qq (0 : Int) ∧ Qq (0 : Int) ∧ True) ∧ Qq true ∧ (Qq (53 : TypeId) ∧ Qq ([(a.1, a.2.1, ()), (b.1, b.2.1, ())] : List (Int × Int × Unit))) ∧ Qq true ∧ (Qq (53 : TypeId) ∧ Qq (0 : Int) ∧ Qq (0 : Int) ∧ True) ∧ Qq true ∧ (Qq (53 : TypeId) ∧ Qq b.1 ∧ Qq b.2.1 ∧ True) ∧ Qq true ∧ (Qq (53 : TypeId) ∧ Qq a.1 ∧ Qq a.2.1 ∧ True) ∧ Qq true ∧ True) tv <| .ok (.inl ((z, ())))))
 (.tt <| .tt <| .call (aiC (w64 (a.1 + b.1), w64 (a.2.1 + b.2.1), ())) atZ fun y1 =>
 .ok (.inr (((y1.1.1, y1.1.2.1, ()), y1.2.1, ()))))
def aGq (a : Int × Int × Unit) (b : Int × Int × Unit) : TT ((Int × Int × Unit) × Int × Unit) :=
 .tt <| .tt <| .loop 0 (.tt <| .triv (((0 : Int) = 0) ∧ (((↑2 : Int) : Int) = (↑2 : Int)) ∧ (((7) = (7)) ∧ (((0) = (0)) ∧ (((2) = (2)) ∧ ((true) = (true))))) ∧ (((8) = (8)) ∧ (((0) = (0)) ∧ ((true) = (true)))) ∧ (((201 : FuncId) = 201) ∧ (True ∧ ((((0) = (0)) ∧ (((0) = (0)) ∧ ((true) = (true)))) ∧ ((((1) = (1)) ∧ (((0) = (0)) ∧ ((true) = (true)))) ∧ True)))) ∧ True) ⟨rfl, rfl, ⟨rfl, ⟨rfl, ⟨rfl, rfl⟩⟩⟩, ⟨rfl, ⟨rfl, rfl⟩⟩, ⟨rfl, ⟨trivial, ⟨⟨rfl, ⟨rfl, rfl⟩⟩, ⟨⟨rfl, ⟨rfl, rfl⟩⟩, trivial⟩⟩⟩⟩, trivial⟩ <| .triv ((Qq (53 : TypeId) ∧ Qq (0 : Int) ∧ Qq (0 : Int) ∧ True) ∧ Qq true ∧ (Qq (53 : TypeId) ∧ Qq ([(a.1, a.2.1, ()), (b.1, b.2.1, ())] : List (Int × Int × Unit))) ∧ Qq true ∧ (Qq (53 : TypeId) ∧ Qq (0 : Int) ∧ Qq (0 : Int) ∧ True) ∧ Qq true ∧ (Qq (53 : TypeId) ∧ Qq b.1 ∧ Qq b.2.1 ∧ True) ∧ Qq true ∧ (Qq (53 : TypeId) ∧ Qq a.1 ∧ Qq a.2.1 ∧ True) ∧ Qq true ∧ True) tv <| .ok ((0, ()))) (apY a b)
def aO4 : LTab := [(113, 26, 20480, { tag := 0, ι := (Int) × Unit, vs := .dat (.s 11) (Ty.int IntKind.i64) <| .nil, ks := [10, 9, 4, 0], kh := [15, 14, 9, 8, 7, 6, 2, 1, 0], fresh := 0 })]
def alQ (a : Int × Int × Unit) (b : Int × Int × Unit) (i : (Int) × Unit) : TT (((Int) × Unit) ⊕ ((Int × Int × Unit) × Int × Unit)) :=
 .ite (decide (i.1 < (↑2 : Int)))
 (.need (inb i.1 (↑2 : Int)) <| .call (adQ ((List.getD [(a.1, a.2.1, ()), (b.1, b.2.1, ())] (0 + Int.toNat i.1) (0, 0, ())).1, (List.getD [(a.1, a.2.1, ()), (b.1, b.2.1, ())] (0 + Int.toNat i.1) (0, 0, ())).2.1, ())) Dd1 fun y =>
 .ite (!y.1)
 (.ok (.inr (((0, 0, ()), 30, ()))))
 (.tt <| .lt (w64 (i.1 + 1) : Int) fun z => .triv (((z : Int) = z) ∧ (((↑2 : Int) : Int) = (↑2 : Int)) ∧ (((14) = (14)) ∧ (((0) = (0)) ∧ (((2) = (2)) ∧ ((true) = (true))))) ∧ (((15) = (15)) ∧ (((0) = (0)) ∧ ((true) = (true)))) ∧ (((230 : FuncId) = 230) ∧ (True ∧ ((((7) = (7)) ∧ (((0) = (0)) ∧ ((true) = (true)))) ∧ ((((8) = (8)) ∧ (((0) = (0)) ∧ ((true) = (true)))) ∧ ((((6) = (6)) ∧ (((0) = (0)) ∧ ((true) = (true)))) ∧ True))))) ∧ True) ⟨rfl, rfl, ⟨rfl, ⟨rfl, ⟨rfl, rfl⟩⟩⟩, ⟨rfl, ⟨rfl, rfl⟩⟩, ⟨rfl, ⟨trivial, ⟨⟨rfl, ⟨rfl, rfl⟩⟩, ⟨⟨rfl, ⟨rfl, rfl⟩⟩, ⟨⟨rfl, ⟨rfl, rfl⟩⟩, trivial⟩⟩⟩⟩⟩, trivial⟩ <| .triv ((Qq (53 : TypeId) ∧ Qq (0 : Int) ∧ Qq (0 : Int) ∧ True) ∧ Qq true ∧ (Qq (53 : TypeId) ∧ Qq ([(a.1, a.2.1, ()), (b.1, b.2.1, ())] : List (Int × Int × Unit))) ∧ Qq true ∧ (Qq (53 : TypeId) ∧ Qq (0 : Int) ∧ Qq (0 : Int) ∧ True) ∧ Qq true ∧ (Qq (53 : TypeId) ∧ Qq b.1 ∧ Qq b.2.1 ∧ True) ∧ Qq true ∧ (Qq (53 : TypeId) ∧ Qq a.1 ∧ Qq a.2.1 ∧ True) ∧ Qq true ∧ (Qq (3 : TypeId) ∧ Qq (2 : Int) ∧ True) ∧ Qq true ∧ (Qq (53 : TypeId) ∧ Qq (0 : Int) ∧ Qq (0 : Int) ∧ True) ∧ Qq true ∧ (Qq (53 : TypeId) ∧ Qq b.1 ∧ Qq b.2.1 ∧ True) ∧ Qq true ∧ (Qq (53 : TypeId) ∧ Qq a.1 ∧ Qq a.2.1 ∧ True) ∧ Qq true ∧ True) tv <| .ok (.inl ((z, ())))))
 (.tt <| .tt <| .ite (match a.1 == b.1 with
| true =>
 match a.2.1 == b.2.1 with
 | true => true
 | false => false
| false => false)
 (.ok (.inr (((a.1, a.2.1, ()), 0, ()))))
 (.triv (asT Int 0 ≤ 2 ∧ 2 < (↑4 : Int)) (by decide) <| .call (axM (List.take 2 [a.1, b.1], ())) Dd6 fun y1 =>
 .call (al0 (List.take 2 [a.2.1, b.2.1], ())) Dd6 fun y2 =>
 .ite (decide (y1.1 > y2.1))
 (.ok (.inr (((0, 0, ()), 4, ()))))
 (.ok (.inr (((y1.1, y2.1, ()), 0, ()))))))
def aB2 (a : Int × Int × Unit) (b : Int × Int × Unit) : TT ((Int × Int × Unit) × Int × Unit) :=
 .tt <| .tt <| .tt <| .tt <| .loop 0 (.tt <| .triv (((0 : Int) = 0) ∧ (((↑2 : Int) : Int) = (↑2 : Int)) ∧ (((14) = (14)) ∧ (((0) = (0)) ∧ (((2) = (2)) ∧ ((true) = (true))))) ∧ (((15) = (15)) ∧ (((0) = (0)) ∧ ((true) = (true)))) ∧ (((230 : FuncId) = 230) ∧ (True ∧ ((((7) = (7)) ∧ (((0) = (0)) ∧ ((true) = (true)))) ∧ ((((8) = (8)) ∧ (((0) = (0)) ∧ ((true) = (true)))) ∧ ((((6) = (6)) ∧ (((0) = (0)) ∧ ((true) = (true)))) ∧ True))))) ∧ True) ⟨rfl, rfl, ⟨rfl, ⟨rfl, ⟨rfl, rfl⟩⟩⟩, ⟨rfl, ⟨rfl, rfl⟩⟩, ⟨rfl, ⟨trivial, ⟨⟨rfl, ⟨rfl, rfl⟩⟩, ⟨⟨rfl, ⟨rfl, rfl⟩⟩, ⟨⟨rfl, ⟨rfl, rfl⟩⟩, trivial⟩⟩⟩⟩⟩, trivial⟩ <| .triv ((Qq (53 : TypeId) ∧ Qq (0 : Int) ∧ Qq (0 : Int) ∧ True) ∧ Qq true ∧ (Qq (53 : TypeId) ∧ Qq ([(a.1, a.2.1, ()), (b.1, b.2.1, ())] : List (Int × Int × Unit))) ∧ Qq true ∧ (Qq (53 : TypeId) ∧ Qq (0 : Int) ∧ Qq (0 : Int) ∧ True) ∧ Qq true ∧ (Qq (53 : TypeId) ∧ Qq b.1 ∧ Qq b.2.1 ∧ True) ∧ Qq true ∧ (Qq (53 : TypeId) ∧ Qq a.1 ∧ Qq a.2.1 ∧ True) ∧ Qq true ∧ (Qq (3 : TypeId) ∧ Qq (2 : Int) ∧ True) ∧ Qq true ∧ (Qq (53 : TypeId) ∧ Qq (0 : Int) ∧ Qq (0 : Int) ∧ True) ∧ Qq true ∧ (Qq (53 : TypeId) ∧ Qq b.1 ∧ Qq b.2.1 ∧ True) ∧ Qq true ∧ (Qq (53 : TypeId) ∧ Qq a.1 ∧ Qq a.2.1 ∧ True) ∧ Qq true ∧ True) tv <| .ok ((0, ()))) (alQ a b)
def aMY : LTab := [(113, 26, 13312, { tag := 0, ι := (Int) × Unit, vs := .dat (.s 11) (Ty.int IntKind.i64) <| .nil, ks := [10, 9, 4, 0], kh := [8, 7, 3, 2, 1, 0], fresh := 0 })]
def ai7 (b : Int × Int × Unit) (lo : Int) (hi : Int) (i : (Int) × Unit) : TT (((Int) × Unit) ⊕ ((Int × Int × Unit) × Int × Unit)) :=
 .ite (decide (i.1 < (↑1 : Int)))
 (.need (inb i.1 (↑1 : Int)) <| .call (adQ ((List.getD [(b.1, b.2.1, ())] (0 + Int.toNat i.1) (0, 0, ())).1, (List.getD [(b.1, b.2.1, ())] (0 + Int.toNat i.1) (0, 0, ())).2.1, ())) Dd1 fun y =>
 .ite (!y.1)
 (.ok (.inr (((0, 0, ()), 30, ()))))
 (.tt <| .lt (w64 (i.1 + 1) : Int) fun z => .triv (((z : Int) = z) ∧ (((↑1 : Int) : Int) = (↑1 : Int)) ∧ (((7) = (7)) ∧ (((0) = (0)) ∧ (((1) = (1)) ∧ ((true) = (true))))) ∧ (((8) = (8)) ∧ (((0) = (0)) ∧ ((true) = (true)))) ∧ (((114 : FuncId) = 114) ∧ (True ∧ ((((1) = (1)) ∧ (((0) = (0)) ∧ ((true) = (true)))) ∧ ((((2) = (2)) ∧ (((0) = (0)) ∧ ((true) = (true)))) ∧ ((((0) = (0)) ∧ (((0) = (0)) ∧ ((true) = (true)))) ∧ True))))) ∧ True) ⟨rfl, rfl, ⟨rfl, ⟨rfl, ⟨rfl, rfl⟩⟩⟩, ⟨rfl, ⟨rfl, rfl⟩⟩, ⟨rfl, ⟨trivial, ⟨⟨rfl, ⟨rfl, rfl⟩⟩, ⟨⟨rfl, ⟨rfl, rfl⟩⟩, ⟨⟨rfl, ⟨rfl, rfl⟩⟩, trivial⟩⟩⟩⟩⟩, trivial⟩ <| .triv ((Qq (53 : TypeId) ∧ Qq (0 : Int) ∧ Qq (0 : Int) ∧ True) ∧ Qq true ∧ (Qq (53 : TypeId) ∧ Qq ([(b.1, b.2.1, ())] : List (Int × Int × Unit))) ∧ Qq true ∧ (Qq (53 : TypeId) ∧ Qq (0 : Int) ∧ Qq (0 : Int) ∧ True) ∧ Qq true ∧ (Qq (3 : TypeId) ∧ Qq hi ∧ True) ∧ Qq true ∧ (Qq (3 : TypeId) ∧ Qq lo ∧ True) ∧ Qq true ∧ (Qq (53 : TypeId) ∧ Qq b.1 ∧ Qq b.2.1 ∧ True) ∧ Qq true ∧ True) tv <| .ok (.inl ((z, ())))))
 (.tt <| .tt <| .call (adQ (lo, hi, ())) Dd1 fun y1 =>
 .ite (!y1.1)
 (.ok (.inr (((0, 0, ()), 2, ()))))
 (.call (aiC (if hi < if lo > b.1 then lo else b.1 then hi else if lo > b.1 then lo else b.1, if hi < if lo > b.2.1 then lo else b.2.1 then hi else if lo > b.2.1 then lo else b.2.1, ())) atZ fun y2 =>
 .ok (.inr (((y2.1.1, y2.1.2.1, ()), y2.2.1, ())))))
def aw8 (b : Int × Int × Unit) (lo : Int) (hi : Int) : TT ((Int × Int × Unit) × Int × Unit) :=
 .tt <| .tt <| .loop 0 (.tt <| .triv (((0 : Int) = 0) ∧ (((↑1 : Int) : Int) = (↑1 : Int)) ∧ (((7) = (7)) ∧ (((0) = (0)) ∧ (((1) = (1)) ∧ ((true) = (true))))) ∧ (((8) = (8)) ∧ (((0) = (0)) ∧ ((true) = (true)))) ∧ (((114 : FuncId) = 114) ∧ (True ∧ ((((1) = (1)) ∧ (((0) = (0)) ∧ ((true) = (true)))) ∧ ((((2) = (2)) ∧ (((0) = (0)) ∧ ((true) = (true)))) ∧ ((((0) = (0)) ∧ (((0) = (0)) ∧ ((true) = (true)))) ∧ True))))) ∧ True) ⟨rfl, rfl, ⟨rfl, ⟨rfl, ⟨rfl, rfl⟩⟩⟩, ⟨rfl, ⟨rfl, rfl⟩⟩, ⟨rfl, ⟨trivial, ⟨⟨rfl, ⟨rfl, rfl⟩⟩, ⟨⟨rfl, ⟨rfl, rfl⟩⟩, ⟨⟨rfl, ⟨rfl, rfl⟩⟩, trivial⟩⟩⟩⟩⟩, trivial⟩ <| .triv ((Qq (53 : TypeId) ∧ Qq (0 : Int) ∧ Qq (0 : Int) ∧ True) ∧ Qq true ∧ (Qq (53 : TypeId) ∧ Qq ([(b.1, b.2.1, ())] : List (Int × Int × Unit))) ∧ Qq true ∧ (Qq (53 : TypeId) ∧ Qq (0 : Int) ∧ Qq (0 : Int) ∧ True) ∧ Qq true ∧ (Qq (3 : TypeId) ∧ Qq hi ∧ True) ∧ Qq true ∧ (Qq (3 : TypeId) ∧ Qq lo ∧ True) ∧ Qq true ∧ (Qq (53 : TypeId) ∧ Qq b.1 ∧ Qq b.2.1 ∧ True) ∧ Qq true ∧ True) tv <| .ok ((0, ()))) (ai7 b lo hi)
def aPG : LTab := [(251, 3, 1024, { tag := 0, ι := Unit, vs := .nil, ks := [2, 0], kh := [], fresh := 0 }), (251, 122, 6144, { tag := 1, ι := (Int) × (Int) × Unit, vs := .dat (.s 4) (Ty.int IntKind.i64) <| .dat (.s 3) (Ty.int IntKind.i64) <| .nil, ks := [2, 0], kh := [], fresh := 0 })]
def aGG (x : List Int) (j : Unit) (i : (Int) × (Int) × Unit) : TT (((Int) × (Int) × Unit) ⊕ (Int × Unit)) :=
 .ite (decide (i.1 < len x))
 (.need (inb i.1 (len x)) <| .tt <| .lt (w64 (i.1 + 1) : Int) fun z1 => .lt (if gi x i.1 0 < i.2.1 then gi x i.1 0 else i.2.1 : Int) fun z2 => .triv (Qq z2 ∧ Qq z1 ∧ Qq (0 : Int) ∧ Qq x ∧ True) tv <| .tr <| .ok (.inl ((z1, z2, ()))))
 (.ok (.inr ((i.2.1, ()))))
def aNM (x : List Int) (j : Unit) : TT (Int × Unit) :=
 .need (asT Int 0 ≤ 0 ∧ 0 < len x) <| .loop 1 (.tt <| .lt (gi x 0 0 : Int) fun z => .triv (Qq z ∧ Qq (1 : Int) ∧ Qq (0 : Int) ∧ Qq x ∧ True) tv <| .tr <| .ok ((1, z, ()))) (aGG x j)
def aEQ (x : List Int) : TT (Int × Unit) :=
 .join 0 (ι := Unit) (.ite (decide (len x < 1))
 (.bad)
 (.tt <| .triv (Qq (0 : Int) ∧ Qq x ∧ True) tv <| .tr <| .ok (.inl (())))) (aNM x)
def aPH : LTab := [(252, 3, 1024, { tag := 0, ι := Unit, vs := .nil, ks := [2, 0], kh := [], fresh := 0 }), (252, 122, 6144, { tag := 1, ι := (Int) × (Int) × Unit, vs := .dat (.s 4) (Ty.int IntKind.i64) <| .dat (.s 3) (Ty.int IntKind.i64) <| .nil, ks := [2, 0], kh := [], fresh := 0 })]
def aGH (x : List Int) (j : Unit) (i : (Int) × (Int) × Unit) : TT (((Int) × (Int) × Unit) ⊕ (Int × Unit)) :=
 .ite (decide (i.1 < len x))
 (.need (inb i.1 (len x)) <| .tt <| .lt (w64 (i.1 + 1) : Int) fun z1 => .lt (if gi x i.1 0 > i.2.1 then gi x i.1 0 else i.2.1 : Int) fun z2 => .triv (Qq z2 ∧ Qq z1 ∧ Qq (0 : Int) ∧ Qq x ∧ True) tv <| .tr <| .ok (.inl ((z1, z2, ()))))
 (.ok (.inr ((i.2.1, ()))))
def aNN (x : List Int) (j : Unit) : TT (Int × Unit) :=
 .need (asT Int 0 ≤ 0 ∧ 0 < len x) <| .loop 1 (.tt <| .lt (gi x 0 0 : Int) fun z => .triv (Qq z ∧ Qq (1 : Int) ∧ Qq (0 : Int) ∧ Qq x ∧ True) tv <| .tr <| .ok ((1, z, ()))) (aGH x j)
def aER (x : List Int) : TT (Int × Unit) :=
 .join 0 (ι := Unit) (.ite (decide (len x < 1))
 (.bad)
 (.tt <| .triv (Qq (0 : Int) ∧ Qq x ∧ True) tv <| .tr <| .ok (.inl (())))) (aNN x)
def aFc : LTab := []
def anP (n : Int) : TT (List UInt8 × Unit) :=
 .call (aHv (#[48].toList, n, ())) Dd2 fun y =>
 .need (List.length #[49].toList + List.length y.1 ≤ lim) <| .ok ((#[49].toList ++ y.1, ()))
def aN7 : LTab := []
def aA8 (a : List UInt8) (k : Int) : TT (List UInt8 × Bool × Int × Unit) :=
 .call (ap3 (a, k, ())) aGy fun y =>
 .ite (y.2.1 != 0)
 (.ok ((#[].toList, false, y.2.1, ())))
 (.call (alV (y.1, k, ())) aGy fun y1 =>
 .ite (y1.2.1 != 0)
 (.ok ((#[].toList, false, y1.2.1, ())))
 (.ok ((y.1, y1.1 == a, 0, ()))))
def aFd : LTab := []
def anQ (a : List UInt8) (up0 : Bool) : TT (Int × Int × Unit) :=
 .call (akL (a, ())) aCf fun y =>
 .ite (y.2.1 != 0)
 (.ok ((0, y.2.1, ())))
 (.ite (decide (y.1 > 1000000000000000000))
 (.ok ((0, 6, ())))
 (.ite (up0)
 (.ok ((w64 (y.1 + 1), 0, ())))
 (.ok ((y.1, 0, ())))))
def aIm : LTab := []
def aq7 (e : Int × Int × Unit) : TT (Bool × Unit) :=
 .ite (decide (e.1 ≥ 1))
 (.ite (decide (e.1 ≤ 36))
 (.ite (decide (e.2.1 ≥ 1))
 (.ok ((decide (e.2.1 ≤ 12), ())))
 (.ok ((false, ()))))
 (.ok ((false, ()))))
 (.ok ((false, ())))
def aN0 : LTab := []
def aA3 (p : (Int × Int × Unit) × Unit) (n : Int) (up0 : Bool) : TT (Int × Int × Unit) :=
 .call (atK (n, ())) Dd2 fun y =>
 .call (alV (y.1, p.1.1, ())) aGy fun y1 =>
 .ite (y1.2.1 != 0)
 (.ok ((0, y1.2.1, ())))
 (.ite (decide (p.1.1 ≤ p.1.2.1))
 (.call (ahO (w64 (12 * w64 (p.1.2.1 - p.1.1)), ())) Dd2 fun y2 =>
 .call (asA (y1.1, y2.1, ())) aGy fun y3 =>
 .ite (y3.2.1 != 0)
 (.ok ((0, y3.2.1, ())))
 (.call (ap9 (y3.1, p.1.2.1, ())) aRS fun y4 =>
 .ite (y4.2.2.1 != 0)
 (.ok ((0, y4.2.2.1, ())))
 (.ite (up0)
 (.ite (y4.2.1)
 (.call (acJ (y4.1, !#[48].toList == #[48].toList, ())) aCf fun y5 =>
 .ok ((y5.1, y5.2.1, ())))
 (.call (acJ (y4.1, !false, ())) aCf fun y6 =>
 .ok ((y6.1, y6.2.1, ()))))
 (.call (acJ (y4.1, false, ())) aCf fun y7 =>
 .ok ((y7.1, y7.2.1, ()))))))
 (.call (ahO (w64 (12 * w64 (p.1.1 - p.1.2.1)), ())) Dd2 fun y8 =>
 .call (asB (y1.1, y8.1, ())) aRZ fun y9 =>
 .ite (y9.2.2.1 != 0)
 (.ok ((0, y9.2.2.1, ())))
 (.call (ap9 (y9.1, p.1.2.1, ())) aRS fun y10 =>
 .ite (y10.2.2.1 != 0)
 (.ok ((0, y10.2.2.1, ())))
 (.ite (up0)
 (.ite (y10.2.1)
 (.call (acJ (y10.1, !y9.2.1 == #[48].toList, ())) aCf fun y11 =>
 .ok ((y11.1, y11.2.1, ())))
 (.call (acJ (y10.1, !false, ())) aCf fun y12 =>
 .ok ((y12.1, y12.2.1, ()))))
 (.call (acJ (y10.1, false, ())) aCf fun y13 =>
 .ok ((y13.1, y13.2.1, ())))))))
def aKX : LTab := []
def avG (b : Int × Int × Unit) (p : Int) (q : Int) : TT ((Int × Int × Unit) × Int × Unit) :=
 .call (aqI ((b.1, b.2.1, ()), ())) Dd6 fun y =>
 .ite (y.1 != 0)
 (.ok (((0, 0, ()), y.1, ())))
 (.call (asC ((p, q, ()), ())) Dd1 fun y1 =>
 .ite (!y1.1)
 (.ok (((0, 0, ()), 2, ())))
 (.ite (decide (b.1 < 0))
 (.ok (((0, 0, ()), 2, ())))
 (.tt <| .tt <| .call (ap8 (((p, q, ()), ()), b.1, false, ())) aCf fun y2 =>
 .ite (y2.2.1 != 0)
 (.ok (((0, 0, ()), y2.2.1, ())))
 (.call (ap8 (((p, q, ()), ()), b.2.1, true, ())) aCf fun y3 =>
 .ite (y3.2.1 != 0)
 (.ok (((0, 0, ()), y3.2.1, ())))
 (.call (aHx (y2.1, y3.1, ())) atZ fun y4 =>
 .ite (y4.2.1 != 0)
 (.ok (((0, 0, ()), 6, ())))
 (.ok (((y4.1.1, y4.1.2.1, ()), 0, ()))))))))
end
open Go Go.Vg
theorem aGm (lo hi : Int) (y) (h : adQ (lo, hi, ()) = some y) : (aw7 lo hi).toO = some y := by
 injection h with h
 subst h
 unfold aw7
 by_cases h1 : -1000000000000000000 ≤ lo
 ·refine uT (decide_eq_true h1) ?_
  by_cases h2 : lo ≤ hi
  ·refine uT (decide_eq_true h2) ?_
   simp [aaK, okB, h1, h2]
  ·refine uF (decide_eq_false h2) ?_
   simp [aaK, okB, h2]
 ·refine uF (decide_eq_false h1) ?_
  simp [aaK, okB, h1]
theorem al4 (lo hi : Int) : adQ (lo, hi, ()) = some (decide (okB lo hi), ()) := rfl
theorem aJC (lo hi : Int) (y) (h : aiC (lo, hi, ()) = some y) : (aB1 lo hi).toO = some y := by
 unfold aiC mkB at h
 dsimp only at h
 unfold aB1
 refine uC _ (al4 lo hi) ?_
 by_cases h1 : okB lo hi
 ·rw [if_pos h1] at h
  exact uF (by rw [decide_eq_true h1]; rfl) h
 ·rw [if_neg h1] at h
  exact uT (by rw [decide_eq_false h1]; rfl) h
theorem aO3 (lo hi : Int) (y) (h : aHx (lo, hi, ()) = some y) : (aMX lo hi).toO = some y := by
 unfold aHx mkB at h
 dsimp only at h
 unfold aMX
 refine uC _ (al4 lo hi) ?_
 by_cases h1 : okB lo hi
 ·rw [if_pos h1] at h
  exact uF (by rw [decide_eq_true h1]; rfl) h
 ·rw [if_neg h1] at h
  exact uT (by rw [decide_eq_false h1]; rfl) h
theorem aGp (b : BdT) (y) (h : aqI (b, ()) = some y) : (aw9 b).toO = some y := by
 unfold aqI at h
 dsimp only at h
 unfold aw9
 refine uC _ (al4 b.1 b.2.1) ?_
 by_cases h1 : okB b.1 b.2.1
 ·rw [if_pos h1] at h
  exact uF (by rw [decide_eq_true h1]; rfl) h
 ·rw [if_neg h1] at h
  exact uT (by rw [decide_eq_false h1]; rfl) h
theorem aKn (x : List Int) (y) (h : axH (x, ()) = some y) : (aEQ x).toO = some y := by
 unfold axH at h
 cases x with
 | nil => cases h
 | cons a l =>
  simp only at h
  split at h
  ·rename_i hl
   injection h with h
   subst h
   unfold aEQ
   refine uL () (uF (by (try simp only [decide_eq_true_eq, decide_eq_false_iff_not, beq_iff_eq, bne_iff_ne, beq_eq_false_iff_ne, bne_eq_false_iff_eq, Bool.not_eq_true', Bool.not_eq_false']) <;> (try simp only [aaC, inb, inc, ge_iff_le, gt_iff_lt, Int.toNat_natCast, asT, ne_eq]) <;> simp only [List.length_cons] <;> omega) rfl) ?_
   refine uN ⟨by simp [asT], by (try simp only [aaC, inb, inc, ge_iff_le, gt_iff_lt, Int.toNat_natCast, asT, ne_eq]); simp only [List.length_cons]; omega⟩ ?_
   refine uO (1, a, ()) rfl ?_
   refine aaN (fun i : Int × Int × Unit => ∃ k : Nat, k ≤ l.length ∧ i = (((k + 1 : Nat) : Int), (l.take k).foldl (fun m y => if y < m then y else m) a, ())) (fun i => ((l.length + 1 : Nat) - i.1).toNat) (fun _ => (l.foldl (fun m y => if y < m then y else m) a, ())) ?_ _ ⟨0, by omega, rfl⟩
   rintro i ⟨k, hk, rfl⟩
   simp only [aGG, aaM]
   rcases Nat.lt_or_ge k l.length with h1 | h1
   ·left
    refine ⟨(((k + 1 + 1 : Nat) : Int), (l.take (k + 1)).foldl (fun m y => if y < m then y else m) a, ()), ?_, ⟨k + 1, by omega, rfl⟩, by simp only; omega, (by first | exact True.intro | rfl)⟩
    refine uT (by (try simp only [decide_eq_true_eq, decide_eq_false_iff_not, beq_iff_eq, bne_iff_ne, beq_eq_false_iff_ne, bne_eq_false_iff_eq, Bool.not_eq_true', Bool.not_eq_false']) <;> (try simp only [aaC, inb, inc, ge_iff_le, gt_iff_lt, Int.toNat_natCast, asT, ne_eq]) <;> simp only [List.length_cons] <;> omega) (uN ⟨by omega, by (try simp only [aaC, inb, inc, ge_iff_le, gt_iff_lt, Int.toNat_natCast, asT, ne_eq]); simp only [List.length_cons]; omega⟩ ?_)
    repeat (first | refine uV ?_ | refine uB ?_ | refine uN sd ?_ | refine uT sd ?_ | refine uF sd ?_ | refine uN (by simp) ?_)
    rw [List.take_succ_eq_append_getElem h1, List.foldl_append]
    have e : (a :: l).getD (k + 1) 0 = l[k] := by simp [h1]
    rw [e, aaA (x := ((k + 1 : Nat) : Int) + 1) (by omega)]
    rfl
   ·right
    refine uF (by (try simp only [decide_eq_true_eq, decide_eq_false_iff_not, beq_iff_eq, bne_iff_ne, beq_eq_false_iff_ne, bne_eq_false_iff_eq, Bool.not_eq_true', Bool.not_eq_false']) <;> (try simp only [aaC, inb, inc, ge_iff_le, gt_iff_lt, Int.toNat_natCast, asT, ne_eq]) <;> simp only [List.length_cons] <;> omega) ?_
    rw [List.take_of_length_le h1]; rfl
  ·cases h
theorem aKo (x : List Int) (y) (h : axI (x, ()) = some y) : (aER x).toO = some y := by
 unfold axI at h
 cases x with
 | nil => cases h
 | cons a l =>
  simp only at h
  split at h
  ·rename_i hl
   injection h with h
   subst h
   unfold aER
   refine uL () (uF (by (try simp only [decide_eq_true_eq, decide_eq_false_iff_not, beq_iff_eq, bne_iff_ne, beq_eq_false_iff_ne, bne_eq_false_iff_eq, Bool.not_eq_true', Bool.not_eq_false']) <;> (try simp only [aaC, inb, inc, ge_iff_le, gt_iff_lt, Int.toNat_natCast, asT, ne_eq]) <;> simp only [List.length_cons] <;> omega) rfl) ?_
   refine uN ⟨by simp [asT], by (try simp only [aaC, inb, inc, ge_iff_le, gt_iff_lt, Int.toNat_natCast, asT, ne_eq]); simp only [List.length_cons]; omega⟩ ?_
   refine uO (1, a, ()) rfl ?_
   refine aaN (fun i : Int × Int × Unit => ∃ k : Nat, k ≤ l.length ∧ i = (((k + 1 : Nat) : Int), (l.take k).foldl (fun m y => if y > m then y else m) a, ())) (fun i => ((l.length + 1 : Nat) - i.1).toNat) (fun _ => (l.foldl (fun m y => if y > m then y else m) a, ())) ?_ _ ⟨0, by omega, rfl⟩
   rintro i ⟨k, hk, rfl⟩
   simp only [aGH, aaM]
   rcases Nat.lt_or_ge k l.length with h1 | h1
   ·left
    refine ⟨(((k + 1 + 1 : Nat) : Int), (l.take (k + 1)).foldl (fun m y => if y > m then y else m) a, ()), ?_, ⟨k + 1, by omega, rfl⟩, by simp only; omega, (by first | exact True.intro | rfl)⟩
    refine uT (by (try simp only [decide_eq_true_eq, decide_eq_false_iff_not, beq_iff_eq, bne_iff_ne, beq_eq_false_iff_ne, bne_eq_false_iff_eq, Bool.not_eq_true', Bool.not_eq_false']) <;> (try simp only [aaC, inb, inc, ge_iff_le, gt_iff_lt, Int.toNat_natCast, asT, ne_eq]) <;> simp only [List.length_cons] <;> omega) (uN ⟨by omega, by (try simp only [aaC, inb, inc, ge_iff_le, gt_iff_lt, Int.toNat_natCast, asT, ne_eq]); simp only [List.length_cons]; omega⟩ ?_)
    repeat (first | refine uV ?_ | refine uB ?_ | refine uN sd ?_ | refine uT sd ?_ | refine uF sd ?_ | refine uN (by simp) ?_)
    rw [List.take_succ_eq_append_getElem h1, List.foldl_append]
    have e : (a :: l).getD (k + 1) 0 = l[k] := by simp [h1]
    rw [e, aaA (x := ((k + 1 : Nat) : Int) + 1) (by omega)]
    rfl
   ·right
    refine uF (by (try simp only [decide_eq_true_eq, decide_eq_false_iff_not, beq_iff_eq, bne_iff_ne, beq_eq_false_iff_ne, bne_eq_false_iff_eq, Bool.not_eq_true', Bool.not_eq_false']) <;> (try simp only [aaC, inb, inc, ge_iff_le, gt_iff_lt, Int.toNat_natCast, asT, ne_eq]) <;> simp only [List.length_cons] <;> omega) ?_
    rw [List.take_of_length_le h1]; rfl
  ·cases h
theorem aGn (l : List Int) (y) (h : axM (l, ()) = some y) : (aEd l).toO = some y := uC _ h rfl
theorem ayS (l : List Int) (y) (h : al0 (l, ()) = some y) : (atI l).toO = some y := uC _ h rfl
theorem ai2 (q : Rat) (n : Int) : n ≤ fl q ↔ (n : Rat) ≤ q := by
 unfold fl
 rw [Rat.le_iff, Int.le_ediv_iff_mul_le (by have := q.den_pos; omega)]
 simp
theorem aCD (a b : Rat) : a < b ∨ a = b ∨ b < a := by grind
theorem aI2 {q : Rat} {n : Int} (h1 : (n : Rat) ≤ q) (h2 : q < ((n + 1 : Int) : Rat)) : fl q = n := by
 have e1 := (ai2 q n).2 h1
 have e2 : ¬ (n + 1 ≤ fl q) := fun h => by
  have := (ai2 q (n + 1)).1 h
  exact absurd h2 (Rat.not_lt.2 this)
 omega
theorem aQ7 (q : Rat) : ((fl q : Int) : Rat) ≤ q := (ai2 q _).1 (Int.le_refl _)
theorem aRF (q : Rat) : q < ((fl q + 1 : Int) : Rat) := by
 rcases Rat.not_le.1 (fun h => by have := (ai2 q (fl q + 1)).2 h; omega) with h
 exact h
theorem aGs {x : Rat} {n : Int} (hn : fl (x + 1 / 2) = n) : (x = n → fl x = n ∧ -fl (-x) = n) ∧ (x < n → fl x = n - 1 ∧ -fl (-x) = n) ∧ ((n : Rat) < x → fl x = n ∧ -fl (-x) = n + 1) := by
 have a1 := aQ7 (x + 1 / 2)
 have a2 := aRF (x + 1 / 2)
 rw [hn] at a1 a2
 rw [Rat.intCast_add] at a2
 refine ⟨fun h => ⟨aI2 ?_ ?_, ?_⟩, fun h => ⟨aI2 ?_ ?_, ?_⟩, fun h => ⟨aI2 ?_ ?_, ?_⟩⟩
 ·grind
 ·rw [Rat.intCast_add]; grind
 ·have : fl (-x) = -n := aI2 (by rw [Rat.intCast_neg]; grind) (by rw [Rat.intCast_add, Rat.intCast_neg]; grind)
  omega
 ·rw [Rat.intCast_sub]; grind
 ·rw [Rat.intCast_add, Rat.intCast_sub]; grind
 ·have : fl (-x) = -n := aI2 (by rw [Rat.intCast_neg]; grind) (by rw [Rat.intCast_add, Rat.intCast_neg]; grind)
  omega
 ·grind
 ·rw [Rat.intCast_add]; grind
 ·have : fl (-x) = -n - 1 := aI2 (by rw [Rat.intCast_sub, Rat.intCast_neg]; grind) (by rw [Rat.intCast_add, Rat.intCast_sub, Rat.intCast_neg]; grind)
  omega
theorem ad3 {n : Int} {d : Nat} (hd : d ≠ 0) (h1 : Fit n) (h2 : Fit d) : adE (mkRat n d) := by
 obtain ⟨g, t, hg, g0, e0, e1, e2⟩ := aeK n hd
 refine ⟨ae4 h1 ?_, ae4 h2 ?_⟩
 ·rw [e1, ← acS e0 g0]; exact Nat.div_le_self _ _
 ·rw [e2]; simp only [Int.natAbs_natCast]; exact Nat.div_le_self _ _
theorem aK5 {n : Int} {d : Nat} (hd : d ≠ 0) (h1 : Fit n) (h2 : Fit d) : ofQ n d = (fx (mkRat n d), 0, ()) := by
 unfold ofQ
 rw [if_neg (by omega), Rat.divInt_ofNat, aEy (ad3 hd h1 h2)]
theorem aRn {n : Int} {d : Nat} (hn : aa9 n) (hd : d ≠ 0) (h2 : d ≤ 9223372036854775807) : alY (n, (d : Int), ()) = some (fx (mkRat n d), 0, ()) := by
 have hd2 : aa9 (d : Int) := ⟨by omega, by omega⟩
 unfold alY
 rw [if_pos ⟨hn, hd2⟩]
 simp only [aK5 hd (abH hn) (abH hd2)]
theorem ao6 (n : Int) {d : Nat} (hd : d ≠ 0) : mkRat n d * (d : Rat) = (n : Rat) := by
 rw [Rat.mkRat_eq_div]
 exact Rat.div_mul_cancel (by simpa using hd)
theorem aQ0 (q : Rat) : ao4 q 1000000000000 = fl (q * akU + 1 / 2) := by
 unfold ao4 akU
 rw [show mkRat 1 2 = (1 / 2 : Rat) by rw [Rat.mkRat_eq_div]; rfl]
theorem aEf (a : FxT) (y) (h : af2 (a, ()) = some y) : (ar6 a).toO = some y := by
 unfold af2 at h
 dsimp only at h
 unfold ar6
 cases ha : rdF a with
 | none =>
  simp only [ha] at h
  exact uC (0, 20, ()) (by unfold akN; dsimp only; rw [show rdF (a.1, a.2.1, ()) = none from ha]) (uT rfl h)
 | some q =>
  simp only [ha] at h
  have hq := (agP ha).1
  have hnear : akN ((a.1, a.2.1, ()), 1000000000000, ()) = some (if aa9 (ao4 q 1000000000000) then (ao4 q 1000000000000, 0, ()) else (0, 6, ())) := by
   unfold akN
   dsimp only
   rw [show rdF (a.1, a.2.1, ()) = some q from ha]
   simp only
   rw [if_neg (by omega)]
   rfl
  rw [aQ0] at hnear
  have hst := aGs (x := q * akU) rfl
  generalize hn : fl (q * akU + 1 / 2) = n at *
  unfold agB mkB at h
  by_cases hi : aa9 n
  ·rw [if_pos hi] at hnear
   refine uC _ hnear (uF rfl ?_)
   have hof := aRn (n := n) (d := 1000000000000) hi (by omega) (by omega)
   refine uC _ hof (uF rfl ?_)
   have hfr : adE (mkRat n 1000000000000) := ad3 (by omega) (abH hi) (abH ⟨by omega, by omega⟩)
   have hm := ao6 n (d := 1000000000000) (by omega)
   have hcmp : afX ((a.1, a.2.1, ()), (dec (mkRat n 1000000000000).num, aa2 (mkRat n 1000000000000).den, ()), ()) = some (aoK q (mkRat n 1000000000000), 0, ()) := by
    unfold afX
    simp only [show rdF (a.1, a.2.1, ()) = some q from ha, afJ hfr]
   refine uC _ hcmp (uF rfl ?_)
   refine uC _ (al4 n n) ?_
   have hx : akU = ((1000000000000 : Nat) : Rat) := rfl
   generalize mkRat n 1000000000000 = r at *
   rw [← hx] at hm
   have hone : (0 : Rat) < akU := by rw [hx]; decide
   have hlt : q < r ↔ q * akU < n := by rw [← hm]; exact (Rat.mul_lt_mul_right hone).symm
   have heq : q = r ↔ q * akU = n := by
    rw [← hm]
    constructor
    ·rintro rfl; rfl
    ·intro h
     rcases aCD q r with c | c | c
     ·have := (Rat.mul_lt_mul_right hone).2 c; grind
     ·exact c
     ·have := (Rat.mul_lt_mul_right hone).2 c; grind
   generalize q * akU = x at *
   by_cases hv : okB n n
   ·refine uF (by rw [decide_eq_true hv]; rfl) ?_
    obtain ⟨v1, v2, v3⟩ := hv
    have key : ∀ lo hi : Int, w64 (n + if 0 < aoK q r then 0 else aoK q r) = lo → w64 (n + if 0 > aoK q r then 0 else aoK q r) = hi → fl x = lo ∧ -fl (-x) = hi → (TT.call (aiC (w64 (n + if 0 < aoK q r then 0 else aoK q r), w64 (n + if 0 > aoK q r then 0 else aoK q r), ())) (Ty.dflt (Ty.pair (Ty.pair (Ty.int IntKind.i64) (Ty.pair (Ty.int IntKind.i64) Ty.unit)) (Ty.pair (Ty.int IntKind.i64) Ty.unit))) fun y4 => TT.ok ((y4.1.1, y4.1.2.1, ()), y4.2.1, ())).toO = some y := by
     intro lo hi' h1 h2 h3
     rw [h1, h2]
     refine uC (mkB 6 lo hi') rfl ?_
     rw [h3.1, h3.2] at h
     exact h
    refine key _ _ rfl rfl ?_
    unfold aoK
    by_cases c1 : q < r
    ·rw [if_pos c1]
     obtain ⟨g1, g2⟩ := hst.2.1 (hlt.1 c1)
     rw [if_neg (by omega), if_pos (by omega), aaA (by omega), aaA (by omega), g1, g2]
     omega
    ·rw [if_neg c1]
     by_cases c2 : q = r
     ·rw [if_pos c2]
      obtain ⟨g1, g2⟩ := hst.1 (heq.1 c2)
      rw [if_neg (by omega), aaA (by omega), g1, g2]
      omega
     ·rw [if_neg c2]
      have c3 : (n : Rat) < x := by
       rcases aCD x n with c | c | c
       ·exact absurd (hlt.2 c) c1
       ·exact absurd (heq.2 c) c2
       ·exact c
      obtain ⟨g1, g2⟩ := hst.2.2 c3
      rw [if_pos (by omega), if_neg (by omega), aaA (by omega), aaA (by omega), g1, g2]
      omega
   ·refine uT (by rw [decide_eq_false hv]; rfl) ?_
    rw [if_neg] at h
    ·exact h
    ·intro hok
     apply hv
     unfold okB at hok ⊢
     rcases aCD x n with c | c | c
     ·have := hst.2.1 c; omega
     ·have := hst.1 c; omega
     ·have := hst.2.2 c; omega
  ·rw [if_neg hi] at hnear
   refine uC _ hnear (uT rfl ?_)
   rw [if_neg] at h
   ·exact h
   ·intro hok
    apply hi
    unfold okB at hok
    unfold aa9
    rcases aCD (q * akU) n with c | c | c
    ·have := hst.2.1 c; omega
    ·have := hst.1 c; omega
    ·have := hst.2.2 c; omega
theorem aHF (lo hi : Int) : aiC (lo, hi, ()) = some (mkB 6 lo hi) := rfl
theorem aQ2 {α : Type} {R : Int × Unit → Option ((Int × Unit) ⊕ α)} {a : α} (ok0 ok1 : Prop) [Decidable ok0] [Decidable ok1] {e z : α}
  (h0 : R (0, ()) = if ok0 then some (.inl (1, ())) else some (.inr e)) (h1 : R (1, ()) = if ok1 then some (.inl (2, ())) else some (.inr e)) (h2 : ok0 → ok1 → R (2, ()) = some (.inr z))
  (hz : a = if ok0 ∧ ok1 then z else e) : ac1 R (0, ()) = some a := by
 subst hz
 by_cases c0 : ok0
 ·rw [if_pos c0] at h0
  rw [acO h0]
  by_cases c1 : ok1
  ·rw [if_pos c1] at h1
   rw [acO h1, acA (h2 c0 c1), if_pos ⟨c0, c1⟩]
  ·rw [if_neg c1] at h1
   rw [acA h1, if_neg (fun h => c1 h.2)]
 ·rw [if_neg c0] at h0
  rw [acA h0, if_neg (fun h => c0 h.1)]
theorem aM0 (a b : BdT) (y) (h : aGu (a, b, ()) = some y) : (aGq a b).toO = some y := by
 injection h with h
 unfold aGq
 refine uV (uV (uO (0, ()) rfl ?_))
 refine aQ2 (okB a.1 a.2.1) (okB b.1 b.2.1) (z := mkB 6 (a.1 + b.1) (a.2.1 + b.2.1)) ?_ ?_ ?_ h.symm
 ·by_cases c : okB a.1 a.2.1
  ·rw [if_pos c]
   unfold apY
   refine uT (by decide) (uN (by decide) (uC (decide (okB a.1 a.2.1), ()) rfl (uF (by rw [decide_eq_true c]; rfl) ?_)))
   repeat (first | refine uV ?_ | refine uB ?_ | refine uN sd ?_ | refine uT sd ?_ | refine uF sd ?_ | refine uN (by simp) ?_)
   rfl
  ·rw [if_neg c]
   unfold apY
   exact uT (by decide) (uN (by decide) (uC (decide (okB a.1 a.2.1), ()) rfl (uT (by rw [decide_eq_false c]; rfl) rfl)))
 ·by_cases c : okB b.1 b.2.1
  ·rw [if_pos c]
   unfold apY
   refine uT (by decide) (uN (by decide) (uC (decide (okB b.1 b.2.1), ()) rfl (uF (by rw [decide_eq_true c]; rfl) ?_)))
   repeat (first | refine uV ?_ | refine uB ?_ | refine uN sd ?_ | refine uT sd ?_ | refine uF sd ?_ | refine uN (by simp) ?_)
   rfl
  ·rw [if_neg c]
   unfold apY
   exact uT (by decide) (uN (by decide) (uC (decide (okB b.1 b.2.1), ()) rfl (uT (by rw [decide_eq_false c]; rfl) rfl)))
 ·intro c0 c1
  obtain ⟨u1, u2, u3⟩ := c0
  obtain ⟨w1, w2, w3⟩ := c1
  refine uF (by decide) (uV (uV ?_))
  rw [aaA (x := a.1 + b.1) (by omega), aaA (x := a.2.1 + b.2.1) (by omega)]
  exact uC _ (aHF _ _) rfl
theorem aJD (a b : BdT) (y) (h : aqH (a, b, ()) = some y) : (aB2 a b).toO = some y := by
 injection h with h
 unfold aB2
 refine uV (uV (uV (uV (uO (0, ()) rfl ?_))))
 refine aQ2 (okB a.1 a.2.1) (okB b.1 b.2.1) (z := ((min a.1 b.1, max a.2.1 b.2.1, ()), 0, ())) ?_ ?_ ?_ h.symm
 ·by_cases c : okB a.1 a.2.1
  ·rw [if_pos c]
   unfold alQ
   refine uT (by decide) (uN (by decide) (uC (decide (okB a.1 a.2.1), ()) rfl (uF (by rw [decide_eq_true c]; rfl) ?_)))
   repeat (first | refine uV ?_ | refine uB ?_ | refine uN sd ?_ | refine uT sd ?_ | refine uF sd ?_ | refine uN (by simp) ?_)
   rfl
  ·rw [if_neg c]
   unfold alQ
   exact uT (by decide) (uN (by decide) (uC (decide (okB a.1 a.2.1), ()) rfl (uT (by rw [decide_eq_false c]; rfl) rfl)))
 ·by_cases c : okB b.1 b.2.1
  ·rw [if_pos c]
   unfold alQ
   refine uT (by decide) (uN (by decide) (uC (decide (okB b.1 b.2.1), ()) rfl (uF (by rw [decide_eq_true c]; rfl) ?_)))
   repeat (first | refine uV ?_ | refine uB ?_ | refine uN sd ?_ | refine uT sd ?_ | refine uF sd ?_ | refine uN (by simp) ?_)
   rfl
  ·rw [if_neg c]
   unfold alQ
   exact uT (by decide) (uN (by decide) (uC (decide (okB b.1 b.2.1), ()) rfl (uT (by rw [decide_eq_false c]; rfl) rfl)))
 ·intro c0 c1
  obtain ⟨u1, u2, u3⟩ := c0
  obtain ⟨w1, w2, w3⟩ := c1
  refine uF (by decide) (uV (uV ?_))
  by_cases he : a.1 = b.1 ∧ a.2.1 = b.2.1
  ·refine uT ?_ ?_
   ·rw [he.1, he.2]; simp
   ·rw [aaK, he.1, he.2, Int.min_self, Int.max_self]
  ·refine uF ?_ ?_
   ·by_cases e1 : a.1 = b.1
    ·have e2 : a.2.1 ≠ b.2.1 := fun h => he ⟨e1, h⟩
     have b1 : (a.1 == b.1) = true := by rw [e1]; simp
     have b2 : (a.2.1 == b.2.1) = false := by rw [beq_eq_false_iff_ne]; exact e2
     rw [b1, b2]
    ·have b1 : (a.1 == b.1) = false := by rw [beq_eq_false_iff_ne]; exact e1
     rw [b1]
   refine uV ?_
   refine uC (if b.1 < a.1 then b.1 else a.1, ()) rfl ?_
   refine uC (if b.2.1 > a.2.1 then b.2.1 else a.2.1, ()) rfl ?_
   have m1 : (if b.1 < a.1 then b.1 else a.1) = min a.1 b.1 := by rw [Int.min_def]; split <;> split <;> omega
   have m2 : (if b.2.1 > a.2.1 then b.2.1 else a.2.1) = max a.2.1 b.2.1 := by rw [Int.max_def]; split <;> split <;> omega
   simp only [m1, m2]
   refine uF sd rfl
theorem aGo (b : BdT) (lo hi : Int) (y) (h : ajN (b, lo, hi, ()) = some y) : (aw8 b lo hi).toO = some y := by
 injection h with h
 unfold aw8
 refine uV (uV (uO (0, ()) rfl ?_))
 unfold aAh at h
 dsimp only at h
 by_cases c : okB b.1 b.2.1
 ·rw [if_pos c] at h
  have h0 : (ai7 b lo hi (0, ())).toO = some (.inl (1, ())) := by
   unfold ai7
   refine uT (by decide) (uN (by decide) (uC (decide (okB b.1 b.2.1), ()) rfl (uF (by rw [decide_eq_true c]; rfl) ?_)))
   repeat (first | refine uV ?_ | refine uB ?_ | refine uN sd ?_ | refine uT sd ?_ | refine uF sd ?_ | refine uN (by simp) ?_)
   rfl
  rw [acO h0]
  refine acA ?_
  unfold ai7
  refine uF (by decide) (uV (uV (uC _ (al4 lo hi) ?_)))
  by_cases c2 : okB lo hi
  ·rw [if_pos c2] at h
   refine uF (by rw [decide_eq_true c2]; rfl) ?_
   have m : ∀ x : Int, (if hi < if lo > x then lo else x then hi else if lo > x then lo else x) = min (max x lo) hi := by
    intro x
    rw [Int.min_def, Int.max_def]
    split <;> split <;> split <;> omega
   simp only [m]
   refine uC _ (aHF _ _) ?_
   unfold okB at c c2
   unfold mkB
   rw [if_pos (by unfold okB; omega), ← h]
   rfl
  ·rw [if_neg c2] at h
   exact uT (by rw [decide_eq_false c2]; rfl) (by rw [← h]; rfl)
 ·rw [if_neg c] at h
  refine acA ?_
  unfold ai7
  exact uT (by decide) (uN (by decide) (uC (decide (okB b.1 b.2.1), ()) rfl (uT (by rw [decide_eq_false c]; rfl) (by rw [← h]; rfl))))
theorem aOU (n : Nat) : aa2 (10 ^ n) = 49 :: List.replicate n 48 := by
 induction n with
 | zero => rw [Nat.pow_zero, abG (by omega)]; rfl
 | succ n ih =>
  have h1 : 1 ≤ 10 ^ n := Nat.pow_pos (by omega)
  rw [Nat.pow_succ, ae5 (by omega), Nat.mul_div_cancel _ (by omega), Nat.mul_mod_left, ih, List.replicate_succ']
  rfl
theorem aQ6 (n : Nat) : (List.replicate n ([48] : List UInt8)).flatten = List.replicate n 48 := by
 induction n with
 | zero => rfl
 | succ n ih => rw [List.replicate_succ, List.flatten_cons, ih, List.replicate_succ]; rfl
theorem axV {n : Nat} (h : n ≤ 1000) : ahO ((n : Int), ()) = some (aa2 (10 ^ n), ()) := aaI (enc := fun x : Nat => ((x : Int), ())) n h (fun b hb => Int.ofNat.inj (Prod.mk.inj hb).1)
theorem aA7 (n : Int) (y) (h : ahO (n, ()) = some y) : (anP n).toO = some y := by
 obtain ⟨k, hp, hx, rfl⟩ := aaD h
 obtain ⟨rfl, -⟩ := Prod.mk.inj hx
 unfold anP
 refine uC (List.replicate k 48, ()) ?_ ?_
 ·unfold aHv
  rw [if_pos ⟨by simp only; omega, by simp only; omega, by show 1 ≤ 1000; omega⟩]
  simp only [Int.toNat_natCast]
  rw [aQ6]
 ·refine uN ?_ ?_
  ·simp only [List.length_replicate]
   show 1 + k ≤ lim
   unfold lim; omega
  ·rw [aOU]; rfl
theorem ajS {n : Nat} (h : Fit (n : Int)) : rdW (aa2 n) = some (n : Int) := by rw [← ad5]; exact ak5 h
theorem aMu {p q : Nat × Nat} (h : (aa2 p.1, (p.2 : Int), ()) = (aa2 q.1, (q.2 : Int), ())) : p = q := by
 obtain ⟨h1, h2⟩ := Prod.mk.inj h
 obtain ⟨h2, -⟩ := Prod.mk.inj h2
 exact Prod.ext (ah4 h1) (Int.ofNat.inj h2)
theorem aHB {n k : Nat} (h1 : Fit (n : Int)) (h2 : 1 ≤ k) (h3 : k ≤ 12) : ap9 (aa2 n, (k : Int), ()) = some (aa2 (adL k n), decide (adL k n ^ k = n), 0, ()) := aaI (enc := fun x : Nat × Nat => (aa2 x.1, (x.2 : Int), ())) (n, k) ⟨h1, h2, h3⟩ (fun b hb => aMu hb)
theorem aIo (a : List UInt8) (k : Int) (y) (h : ap9 (a, k, ()) = some y) : (aA8 a k).toO = some y := by
 obtain ⟨⟨n, j⟩, hp, hx, rfl⟩ := aaD h
 obtain ⟨rfl, hx2⟩ := Prod.mk.inj hx; obtain ⟨rfl, -⟩ := Prod.mk.inj hx2; dsimp only
 obtain ⟨h1, h2, h3⟩ := hp
 simp only at h1 h2 h3
 obtain ⟨s1, s2⟩ := amI n h2
 have hle := auC (n := n) h2
 have f1 : Fit (adL j n : Int) := ae4 h1 (by simp only [Int.natAbs_natCast]; exact hle)
 have f2 : Fit ((adL j n ^ j : Nat) : Int) := ae4 h1 (by simp only [Int.natAbs_natCast]; exact s1)
 unfold aA8
 refine uC (aa2 (adL j n), 0, ()) ?_ (uF rfl ?_)
 ·unfold ap3
  dsimp only
  rw [ajS h1]
  dsimp only
  rw [if_neg (by omega), Int.toNat_natCast, Int.natAbs_natCast, aiF f1, ad5]
 refine uC (aa2 (adL j n ^ j), 0, ()) ?_ (uF rfl ?_)
 ·unfold alV
  dsimp only
  rw [ajS f1]
  dsimp only
  rw [if_neg (by omega), Int.toNat_natCast, ← Int.natCast_pow, aiF f2, ad5]
 ·rw [aaK]
  have : (aa2 (adL j n ^ j) == aa2 n) = decide (adL j n ^ j = n) := by
   by_cases c : adL j n ^ j = n
   ·rw [c, decide_eq_true rfl]; simp
   ·rw [decide_eq_false c, beq_eq_false_iff_ne]
    exact fun h => c (ah4 h)
  rw [this]
theorem af4 {n : Nat} {u : Bool} (h1 : Fit (n : Int)) : acJ (aa2 n, u, ()) = some (if n > 1000000000000000000 then (0, 6, ()) else ((n : Int) + (if u then 1 else 0), 0, ())) := by
 refine aaI (enc := fun x : Nat × Bool => (aa2 x.1, x.2, ())) (n, u) h1 (fun b hb => ?_)
 obtain ⟨e1, e2⟩ := Prod.mk.inj hb
 obtain ⟨e2, -⟩ := Prod.mk.inj e2
 exact Prod.ext (ah4 e1) e2
theorem aA9 (a : List UInt8) (u : Bool) (y) (h : acJ (a, u, ()) = some y) : (anQ a u).toO = some y := by
 obtain ⟨⟨n, v⟩, hp, hx, rfl⟩ := aaD h
 obtain ⟨rfl, hx2⟩ := Prod.mk.inj hx; obtain ⟨rfl, -⟩ := Prod.mk.inj hx2; dsimp only
 simp only at hp
 unfold anQ
 have hi : akL (aa2 n, ()) = some (if aa9 n then ((n : Int), 0, ()) else (0, 6, ())) := by rw [← ad5]; exact axR hp
 by_cases c : aa9 n
 ·rw [if_pos c] at hi
  unfold aa9 at c
  refine uC _ hi (uF rfl ?_)
  by_cases c2 : n > 1000000000000000000
  ·rw [if_pos c2]
   exact uT (decide_eq_true (by dsimp only; omega)) rfl
  ·rw [if_neg c2]
   refine uF (decide_eq_false (by dsimp only; omega)) ?_
   cases u
   ·exact uF rfl (by simp [aaK])
   ·refine uT rfl ?_
    rw [aaK, aaA (by dsimp only; omega)]; rfl
 ·rw [if_neg c] at hi
  unfold aa9 at c
  rw [if_pos (by omega)]
  exact uC _ hi (uT rfl rfl)
theorem aCY (e : Int × Int × Unit) (y) (h : asC (e, ()) = some y) : (aq7 e).toO = some y := by
 injection h with h
 subst h
 unfold aq7
 by_cases h1 : e.1 ≥ 1
 ·refine uT (decide_eq_true h1) ?_
  by_cases h2 : e.1 ≤ 36
  ·refine uT (decide_eq_true h2) ?_
   by_cases h3 : e.2.1 ≥ 1
   ·refine uT (decide_eq_true h3) ?_
    rw [aaK]
    congr 2
    exact decide_eq_decide.2 ⟨fun h => ⟨h1, h2, h3, h⟩, fun h => h.2.2.2⟩
   ·refine uF (decide_eq_false h3) ?_
    rw [aaK, decide_eq_false (fun h : okE e.1 e.2.1 => h3 h.2.2.1)]
  ·refine uF (decide_eq_false h2) ?_
   rw [aaK, decide_eq_false (fun h : okE e.1 e.2.1 => h2 h.2.1)]
 ·refine uF (decide_eq_false h1) ?_
  rw [aaK, decide_eq_false (fun h : okE e.1 e.2.1 => h1 h.1)]
theorem aQr (p q n : Nat) : (p ≤ q → n ^ p * 10 ^ (12 * q) / 10 ^ (12 * p) = n ^ p * 10 ^ (12 * (q - p)) ∧ n ^ p * 10 ^ (12 * q) = n ^ p * 10 ^ (12 * (q - p)) * 10 ^ (12 * p)) ∧ (q < p → n ^ p * 10 ^ (12 * q) / 10 ^ (12 * p) = n ^ p / 10 ^ (12 * (p - q)) ∧ (10 : Nat) ^ (12 * p) = 10 ^ (12 * (p - q)) * 10 ^ (12 * q)) := by
 constructor
 ·intro h
  have e : (10 : Nat) ^ (12 * q) = 10 ^ (12 * (q - p)) * 10 ^ (12 * p) := by rw [← Nat.pow_add]; congr 1; omega
  have h2 : n ^ p * 10 ^ (12 * q) = n ^ p * 10 ^ (12 * (q - p)) * 10 ^ (12 * p) := by rw [e, Nat.mul_assoc]
  exact ⟨by rw [h2, Nat.mul_div_cancel _ (Nat.pow_pos (by omega))], h2⟩
 ·intro h
  have e : (10 : Nat) ^ (12 * p) = 10 ^ (12 * (p - q)) * 10 ^ (12 * q) := by rw [← Nat.pow_add]; congr 1; omega
  refine ⟨?_, e⟩
  rw [e, ← Nat.div_div_eq_div_mul, Nat.div_div_eq_div_mul, Nat.mul_comm (10 ^ (12 * (p - q))), ← Nat.div_div_eq_div_mul, Nat.mul_div_cancel _ (Nat.pow_pos (by omega))]
theorem amM {n k : Nat} (h : n < 10 ^ k) (hk : k ≤ 600) : Fit (n : Int) := by
 show (aa2 n).length ≤ 600
 have h2 : (aa2 n).length ≤ k + 1 := acI (Nat.lt_of_lt_of_le h (Nat.pow_le_pow_right (by omega) (by omega)))
 rcases Nat.eq_zero_or_pos k with h0 | h0
 ·omega
 ·have := (abD h0).2 h
  omega
theorem aP4 {n K : Nat} (hK : K = 600) (h : ¬ Fit (n : Int)) : 10 ^ K ≤ n := by
 rcases Nat.lt_or_ge n (10 ^ K) with h2 | h2
 ·exact absurd (amM h2 (by omega)) h
 ·exact h2
theorem aQs {p q n : Nat} (hq : 1 ≤ q) (hq2 : q ≤ 12) (hp2 : p ≤ 36) (h : ¬ Fit ((n ^ p : Nat) : Int)) : aBH p q n > 1000000000000000000 := by
 obtain ⟨K, hK⟩ : ∃ K : Nat, K = 600 := ⟨_, rfl⟩
 have h1 := aP4 hK h
 unfold aBH
 obtain ⟨s1, s2⟩ := amI (n ^ p * 10 ^ (12 * q) / 10 ^ (12 * p)) hq
 generalize adL q (n ^ p * 10 ^ (12 * q) / 10 ^ (12 * p)) = v at *
 rcases Nat.lt_or_ge 1000000000000000000 v with h2 | h2
 ·exact h2
 ·exfalso
  rw [Nat.div_lt_iff_lt_mul (Nat.pow_pos (by omega))] at s2
  have h3 : (v + 1) ^ q ≤ (10 ^ 19) ^ q := Nat.pow_le_pow_left (by omega) q
  have h4 : (10 ^ 19 : Nat) ^ q * 10 ^ (12 * p) ≤ 10 ^ K * 10 ^ (12 * q) := by
   rw [← Nat.pow_mul, ← Nat.pow_add, ← Nat.pow_add]
   exact Nat.pow_le_pow_right (by omega) (by omega)
  have h5 : (v + 1) ^ q * 10 ^ (12 * p) ≤ (10 ^ 19) ^ q * 10 ^ (12 * p) := Nat.mul_le_mul_right _ h3
  have h6 : 10 ^ K * 10 ^ (12 * q) ≤ n ^ p * 10 ^ (12 * q) := Nat.mul_le_mul_right _ h1
  generalize (v + 1) ^ q * 10 ^ (12 * p) = a1 at *
  generalize (10 ^ 19 : Nat) ^ q * 10 ^ (12 * p) = a2 at *
  generalize 10 ^ K * 10 ^ (12 * q) = a3 at *
  omega
theorem aBK (n : Nat) : (aa2 n == #[48].toList) = decide (n = 0) := by
 by_cases c : n = 0
 ·subst c; rw [abG (by omega)]; rfl
 ·rw [decide_eq_false c, beq_eq_false_iff_ne]
  intro h
  have h0 : aa2 0 = #[48].toList := by rw [abG (by omega)]; rfl
  exact c (ah4 (h.trans h0.symm))
theorem aHA {p q n : Nat} {u : Bool} (h : okE p q) (hn : n ≤ 1000000000000000000) : ap8 ((((p : Int), (q : Int), ()), ()), (n : Int), u, ()) = some (ax6 p q n u) := by
 refine aaI (enc := fun x : (Nat × Nat) × Nat × Bool => ((((x.1.1 : Int), (x.1.2 : Int), ()), ()), (x.2.1 : Int), x.2.2, ())) ((p, q), n, u) ⟨h, hn⟩ (fun b hb => ?_)
 obtain ⟨⟨b1, b2⟩, b3, b4⟩ := b
 simp only [Prod.mk.injEq, Int.ofNat.injEq, Int.natCast_inj, and_true] at hb
 obtain ⟨⟨h1, h2⟩, h3, h4⟩ := hb
 rw [h1, h2, h3, h4]
theorem aIl (e : (Int × Int × Unit) × Unit) (n : Int) (u : Bool) (y) (h : ap8 (e, n, u, ()) = some y) : (aA3 e n u).toO = some y := by
 obtain ⟨⟨⟨p, q⟩, m, b⟩, hp, hx, rfl⟩ := aaD h
 obtain ⟨rfl, hx2⟩ := Prod.mk.inj hx
 obtain ⟨rfl, hx3⟩ := Prod.mk.inj hx2
 obtain ⟨rfl, -⟩ := Prod.mk.inj hx3
 obtain ⟨⟨p1, p2, q1, q2⟩, hm⟩ := hp
 dsimp only at p1 p2 q1 q2 hm ⊢
 have fm : Fit (m : Int) := abH ⟨by omega, by omega⟩
 unfold aA3
 dsimp only
 refine uC (aa2 m, ()) (by rw [aNf ⟨by omega, by omega⟩, ad5]) ?_
 have hpow : alV (aa2 m, (p : Int), ()) = some (wrW ((m ^ p : Nat) : Int)) := by
  unfold alV
  dsimp only
  rw [ajS fm]
  dsimp only
  rw [if_neg (by omega), Int.toNat_natCast, ← Int.natCast_pow]
 obtain ⟨r1, r2⟩ := aQr p q m
 by_cases hf : Fit ((m ^ p : Nat) : Int)
 ·rw [aiF hf, ad5] at hpow
  refine uC _ hpow (uF rfl ?_)
  by_cases hpq : p ≤ q
  ·obtain ⟨e1, e2⟩ := r1 hpq
   refine uT sd ?_
   have ew : w64 (12 * w64 ((q : Int) - p)) = ((12 * (q - p) : Nat) : Int) := by rw [aaA (x := (q : Int) - p) (by omega), aaA (by omega)]; omega
   refine uC (aa2 (10 ^ (12 * (q - p))), ()) (by rw [ew]; exact axV (by omega)) ?_
   obtain ⟨K, hK⟩ : ∃ K : Nat, K = 400 := ⟨_, rfl⟩
   have hlt : m ^ p * 10 ^ (12 * (q - p)) < 10 ^ K := by
    have a1 : m ^ p ≤ (10 ^ 18) ^ p := Nat.pow_le_pow_left (by omega) p
    have a2 : (10 ^ 18 : Nat) ^ p * 10 ^ (12 * (q - p)) < 10 ^ K := by
     rw [← Nat.pow_mul, ← Nat.pow_add]
     exact Nat.pow_lt_pow_right (by omega) (by omega)
    exact Nat.lt_of_le_of_lt (Nat.mul_le_mul_right _ a1) a2
   have hfm : Fit ((m ^ p * 10 ^ (12 * (q - p)) : Nat) : Int) := amM hlt (by omega)
   have hft : Fit ((10 ^ (12 * (q - p)) : Nat) : Int) := amM (k := K) (Nat.pow_lt_pow_right (by omega) (by omega)) (by omega)
   have hmul : asA (aa2 (m ^ p), aa2 (10 ^ (12 * (q - p))), ()) = some (aa2 (m ^ p * 10 ^ (12 * (q - p))), 0, ()) := by
    unfold asA
    dsimp only
    rw [ajS hf, ajS hft]
    dsimp only
    rw [← Int.natCast_mul, aiF hfm, ad5]
   refine uC _ hmul (uF rfl ?_)
   refine uC _ (aHB hfm (by omega) (by omega)) (uF rfl ?_)
   have hv : adL q (m ^ p * 10 ^ (12 * (q - p))) = aBH p q m := by unfold aBH; rw [e1]
   have hfv : Fit (aBH p q m : Int) := by rw [← hv]; exact ae4 hfm (by simp only [Int.natAbs_natCast]; exact auC (by omega))
   have hex : decide (adL q (m ^ p * 10 ^ (12 * (q - p))) ^ q = m ^ p * 10 ^ (12 * (q - p))) = decide (aBH p q m ^ q * 10 ^ (12 * p) = m ^ p * 10 ^ (12 * q)) := by
    rw [hv, e2]
    exact decide_eq_decide.2 ⟨fun h => by rw [h], fun h => Nat.eq_of_mul_eq_mul_right (Nat.pow_pos (by omega)) h⟩
   unfold ax6
   rw [hex, hv]
   dsimp only
   cases u
   ·refine uF rfl (uC _ (af4 hfv) ?_)
    simp only [Bool.false_eq_true, false_and, if_false]
    rfl
   ·refine uT rfl ?_
    by_cases c : aBH p q m ^ q * 10 ^ (12 * p) = m ^ p * 10 ^ (12 * q)
    ·refine uT (decide_eq_true c) (uC _ (show acJ (aa2 (aBH p q m), (!#[48].toList == #[48].toList), ()) = some _ from af4 (u := false) hfv) ?_)
     simp only [Bool.false_eq_true, if_false, c, ne_eq, not_true_eq_false, and_false]
     rfl
    ·refine uF (decide_eq_false c) (uC _ (af4 (u := !false) hfv) ?_)
     simp only [Bool.not_false, if_true, c, ne_eq, not_false_eq_true, and_self]
     rfl
  ·obtain ⟨e1, e2⟩ := r2 (by omega)
   refine uF sd ?_
   have ew : w64 (12 * w64 ((p : Int) - q)) = ((12 * (p - q) : Nat) : Int) := by rw [aaA (x := (p : Int) - q) (by omega), aaA (by omega)]; omega
   refine uC (aa2 (10 ^ (12 * (p - q))), ()) (by rw [ew]; exact axV (by omega)) ?_
   obtain ⟨K, hK⟩ : ∃ K : Nat, K = 600 := ⟨_, rfl⟩
   have hft : Fit ((10 ^ (12 * (p - q)) : Nat) : Int) := amM (k := K) (Nat.pow_lt_pow_right (by omega) (by omega)) (by omega)
   have hD : 0 < 10 ^ (12 * (p - q)) := Nat.pow_pos (by omega)
   have hdiv : asB (aa2 (m ^ p), aa2 (10 ^ (12 * (p - q))), ()) = some (aa2 (m ^ p / 10 ^ (12 * (p - q))), aa2 (m ^ p % 10 ^ (12 * (p - q))), 0, ()) := by
    unfold asB
    dsimp only
    rw [ajS hf, ajS hft]
    dsimp only
    rw [if_neg (by omega), ← Int.natCast_ediv, ← Int.natCast_emod, ad5, ad5]
   refine uC _ hdiv (uF rfl ?_)
   have hfm : Fit ((m ^ p / 10 ^ (12 * (p - q)) : Nat) : Int) := ae4 hf (by simp only [Int.natAbs_natCast]; exact Nat.div_le_self _ _)
   refine uC _ (aHB hfm (by omega) (by omega)) (uF rfl ?_)
   have hv : adL q (m ^ p / 10 ^ (12 * (p - q))) = aBH p q m := by unfold aBH; rw [e1]
   have hfv : Fit (aBH p q m : Int) := by rw [← hv]; exact ae4 hfm (by simp only [Int.natAbs_natCast]; exact auC (by omega))
   have hex : (aBH p q m ^ q = m ^ p / 10 ^ (12 * (p - q)) ∧ m ^ p % 10 ^ (12 * (p - q)) = 0) ↔ aBH p q m ^ q * 10 ^ (12 * p) = m ^ p * 10 ^ (12 * q) := by
    rw [e2, ← Nat.mul_assoc]
    have hdm := Nat.mod_add_div (m ^ p) (10 ^ (12 * (p - q)))
    constructor
    ·rintro ⟨h1, h2⟩
     rw [h1]
     rw [h2, Nat.zero_add, Nat.mul_comm] at hdm
     rw [hdm]
    ·intro h
     have h3 := Nat.eq_of_mul_eq_mul_right (Nat.pow_pos (by omega)) h
     constructor
     ·rw [← h3, Nat.mul_div_cancel _ hD]
     ·rw [← h3, Nat.mul_mod_left]
   unfold ax6
   rw [hv]
   dsimp only
   cases u
   ·refine uF rfl (uC _ (af4 hfv) ?_)
    simp only [Bool.false_eq_true, false_and, if_false]
    rfl
   ·refine uT rfl ?_
    by_cases c1 : aBH p q m ^ q = m ^ p / 10 ^ (12 * (p - q))
    ·refine uT (decide_eq_true c1) ?_
     rw [aBK]
     refine uC _ (af4 hfv) ?_
     by_cases c2 : m ^ p % 10 ^ (12 * (p - q)) = 0
     ·have c := hex.1 ⟨c1, c2⟩
      simp only [decide_eq_true c2, Bool.not_true, Bool.false_eq_true, if_false, c, ne_eq, not_true_eq_false, and_false]
      rfl
     ·have c : ¬ _ := fun h => c2 (hex.2 h).2
      simp only [decide_eq_false c2, Bool.not_false, if_true, c, ne_eq, not_false_eq_true, and_self]
      rfl
    ·refine uF (decide_eq_false c1) (uC _ (af4 (u := !false) hfv) ?_)
     have c : ¬ _ := fun h => c1 (hex.2 h).1
     simp only [Bool.not_false, if_true, c, ne_eq, not_false_eq_true, and_self]
     rfl
 ·rw [aqP hf] at hpow
  refine uC _ hpow (uT rfl ?_)
  have := aQs (q := q) (n := m) (by omega) (by omega) (by omega) hf
  unfold ax6
  rw [if_pos this]
  rfl
theorem aAa (p q n : Nat) (u : Bool) : (ax6 p q n u).2.1 = 0 ∨ (ax6 p q n u).2.1 = 6 := by
 unfold ax6
 split
 ·right; rfl
 ·left; rfl
theorem aFe (b : BdT) (p q : Int) (y) (h : axL (b, p, q, ()) = some y) : (avG b p q).toO = some y := by
 injection h with h
 unfold aJW at h
 dsimp only at h
 unfold avG
 refine uC (if okB b.1 b.2.1 then 0 else 30, ()) rfl ?_
 by_cases c : okB b.1 b.2.1
 ·rw [if_pos c] at h ⊢
  refine uF rfl ?_
  refine uC (decide (okE p q), ()) rfl ?_
  by_cases c2 : okE p q
  ·refine uF (by rw [decide_eq_true c2]; rfl) ?_
   by_cases c3 : b.1 < 0
   ·rw [if_neg (fun h => by have := h.2; omega)] at h
    exact uT (decide_eq_true c3) (by rw [← h]; rfl)
   ·rw [if_pos ⟨c2, by omega⟩] at h
    obtain ⟨k1, k2, k3⟩ := c
    refine uF (decide_eq_false c3) (uV (uV ?_))
    obtain ⟨P, rfl⟩ := Int.eq_ofNat_of_zero_le (show 0 ≤ p by have := c2.1; omega)
    obtain ⟨Q, rfl⟩ := Int.eq_ofNat_of_zero_le (show 0 ≤ q by have := c2.2.2.1; omega)
    obtain ⟨lo, hlo⟩ := Int.eq_ofNat_of_zero_le (show 0 ≤ b.1 by omega)
    obtain ⟨hi, hhi⟩ := Int.eq_ofNat_of_zero_le (show 0 ≤ b.2.1 by omega)
    rw [hlo, hhi] at h ⊢
    simp only [Int.toNat_natCast] at h
    refine uC _ (aHA c2 (by omega)) ?_
    by_cases d1 : (ax6 P Q lo false).2.1 ≠ 0
    ·rw [if_pos d1] at h
     refine uT (by simpa using d1) ?_
     have : (ax6 P Q lo false).2.1 = 6 := by rcases aAa P Q lo false with e | e <;> omega
     rw [this, ← h]; rfl
    ·rw [if_neg d1] at h
     refine uF (by simpa using d1) ?_
     refine uC _ (aHA c2 (by omega)) ?_
     by_cases d2 : (ax6 P Q hi true).2.1 ≠ 0
     ·rw [if_pos d2] at h
      refine uT (by simpa using d2) ?_
      have : (ax6 P Q hi true).2.1 = 6 := by rcases aAa P Q hi true with e | e <;> omega
      rw [this, ← h]; rfl
     ·rw [if_neg d2] at h
      refine uF (by simpa using d2) ?_
      unfold mkB at h
      refine uC (mkB 30 (ax6 P Q lo false).1 (ax6 P Q hi true).1) rfl ?_
      unfold mkB
      by_cases d3 : okB (ax6 P Q lo false).1 (ax6 P Q hi true).1
      ·rw [if_pos d3] at h ⊢
       exact uF rfl (by rw [← h]; rfl)
      ·rw [if_neg d3] at h ⊢
       exact uT rfl (by rw [← h]; rfl)
  ·rw [if_neg (fun h => c2 h.1)] at h
   exact uT (by rw [decide_eq_false c2]; rfl) (by rw [← h]; rfl)
 ·rw [if_neg c] at h ⊢
  exact uT rfl (by rw [← h]; rfl)
set_option maxRecDepth 100000
open Go Go.Vg Go.Proofs
noncomputable section
def aJp : LTab := []
def ar2 (n : Int) (low : Int) (high : Int) : TT (Bool × Unit) :=
 .ite (decide (low ≤ n))
 (.ok ((decide (n ≤ high), ())))
 (.ok ((false, ())))
def aOZ : LTab := []
def aHr (n : Int) (d : Int) : TT ((List UInt8 × List UInt8 × Unit) × Unit) :=
 .call (alY (n, d, ())) afI fun y =>
 .ok (((y.1.1, y.1.2.1, ()), ()))
def aGf : LTab := []
def awW (n : Int) : TT ((List UInt8 × List UInt8 × Unit) × Unit) :=
 .call (abY (n, 1, ())) aeY fun y =>
 .ok (((y.1.1, y.1.2.1, ()), ()))
def aBX : LTab := []
def akD (x : List UInt8 × List UInt8 × Unit) : TT ((List UInt8 × List UInt8 × Unit) × Unit) :=
 .call (aaF (0, ())) aeY fun y =>
 .call (aaF (1, ())) aeY fun y1 =>
 .tt <| .tt <| .tt <| .tt <| .call (afX ((x.1, x.2.1, ()), (y.1.1, y.1.2.1, ()), ())) aCf fun y2 =>
 .ite (decide (y2.1 < 0))
 (.ok (((y.1.1, y.1.2.1, ()), ())))
 (.tt <| .tt <| .call (afX ((x.1, x.2.1, ()), (y1.1.1, y1.1.2.1, ()), ())) aCf fun y3 =>
 .ite (decide (y3.1 > 0))
 (.ok (((y1.1.1, y1.1.2.1, ()), ())))
 (.ok (((x.1, x.2.1, ()), ()))))
def ayQ : LTab := [(76, 3, 1024, { tag := 0, ι := (Bool) × Unit, vs := .dat (.s 2) (Ty.bool) <| .nil, ks := [0], kh := [], fresh := 0 }), (76, 58, 4096, { tag := 1, ι := (Int) × Unit, vs := .dat (.s 15) (Ty.int IntKind.i64) <| .nil, ks := [14, 13], kh := [], fresh := 0 })]
def alO (akS : List Int) (j : Bool × Unit) (i : (Int) × Unit) : TT (((Int) × Unit) ⊕ (Bool × Unit)) :=
 .ite (decide (i.1 < len akS))
 (.need (inb i.1 (len akS)) <| .call (acV (gi akS i.1 0, 0, 65535, ())) Dd1 fun y =>
 .ite (!y.1)
 (.ok (.inr ((false, ()))))
 (.tt <| .lt (w64 (i.1 + 1) : Int) fun z => .triv (Qq z ∧ Qq (len akS) ∧ Qq akS ∧ True) tv <| .tr <| .ok (.inl ((z, ())))))
 (.ok (.inr ((true, ()))))
def awY (akS : List Int) (j : (Bool) × Unit) : TT (Bool × Unit) :=
 .loop 1 (.tt <| .triv (Qq (0 : Int) ∧ Qq (len akS) ∧ Qq akS ∧ True) tv <| .tr <| .ok ((0, ()))) (alO akS j)
def aiO (akS : List Int) : TT (Bool × Unit) :=
 .join 0 (ι := (Bool) × Unit) (.ite (decide (len akS < 2))
 (.ok (.inr ((false, ()))))
 (.ite (decide (len akS > 17))
 (.ok (.inr ((false, ()))))
 (.tt <| .triv (Qq false ∧ Qq akS ∧ True) tv <| .tr <| .ok (.inl ((false, ())))))) (awY akS)
def aJj : LTab := [(129, 26, 13312, { tag := 0, ι := (Int) × Unit, vs := .dat (.s 17) (Ty.int IntKind.i64) <| .nil, ks := [16, 1], kh := [0], fresh := 0 }), (129, 7, 14336, { tag := 1, ι := Unit, vs := .nil, ks := [1], kh := [0], fresh := 0 }), (129, 124, 22528, { tag := 2, ι := (Int) × (Int) × Unit, vs := .dat (.s 6) (Ty.int IntKind.i64) <| .dat (.s 5) (Ty.int IntKind.i64) <| .nil, ks := [], kh := [0], fresh := 0 })]
def awJ (p : (Int × Int × Int × Int × Int × Int × Unit) × Int × Bool × Unit) (i : Int × Unit) (j : Unit) (i1 : (Int) × (Int) × Unit) : TT (((Int) × (Int) × Unit) ⊕ (((Int) × Unit) ⊕ (Bool × Unit))) :=
 .ite (i1.1 != 0)
 (.need (i1.1 ≠ 0) <| .tt <| .lt (Int.tmod i1.2.1 i1.1 : Int) fun z3 => .triv (Qq i1.1 ∧ Qq z3 ∧ True) tv <| .triv ((Qq (122 : TypeId) ∧ Qq p.1.1 ∧ Qq p.1.2.1 ∧ Qq p.1.2.2.1 ∧ Qq p.1.2.2.2.1 ∧ Qq p.1.2.2.2.2.1 ∧ Qq p.1.2.2.2.2.2.1 ∧ Qq p.2.1 ∧ Qq p.2.2.1 ∧ True) ∧ Qq true ∧ True) tv <| .ok (.inl ((z3, i1.1, ()))))
 (.ok (.inr (.inr ((i1.2.1 == 1, ())))))
def aF8 (p : (Int × Int × Int × Int × Int × Int × Unit) × Int × Bool × Unit) (i : Int × Unit) (j : Unit) : TT (((Int) × Unit) ⊕ (Bool × Unit)) :=
 .loop 2 (.tt <| .lt (p.1.2.2.2.2.1 : Int) fun z1 => .lt (p.1.2.2.2.1 : Int) fun z2 => .triv (Qq z2 ∧ Qq z1 ∧ True) tv <| .triv ((Qq (122 : TypeId) ∧ Qq p.1.1 ∧ Qq p.1.2.1 ∧ Qq p.1.2.2.1 ∧ Qq z2 ∧ Qq z1 ∧ Qq p.1.2.2.2.2.2.1 ∧ Qq p.2.1 ∧ Qq p.2.2.1 ∧ True) ∧ Qq true ∧ True) tv <| .ok ((z1, z2, ()))) (awJ p i j)
def afO (p : (Int × Int × Int × Int × Int × Int × Unit) × Int × Bool × Unit) (i : (Int) × Unit) : TT (((Int) × Unit) ⊕ (Bool × Unit)) :=
 .ite (decide (i.1 < 3))
 (.need (inb i.1 (↑3 : Int)) <| .call (acV (gi [p.1.2.1, p.1.2.2.1, p.1.2.2.2.2.2.1] i.1 0, -100000000, 100000000, ())) Dd1 fun y =>
 .ite (!y.1)
 (.ok (.inr ((false, ()))))
 (.tt <| .lt (w64 (i.1 + 1) : Int) fun z => .triv (Qq z ∧ Qq ([p.1.2.1, p.1.2.2.1, p.1.2.2.2.2.2.1] : List Int) ∧ (Qq 0 ∧ Qq 0 ∧ Qq true) ∧ True) tv <| .triv ((Qq (122 : TypeId) ∧ Qq p.1.1 ∧ Qq p.1.2.1 ∧ Qq p.1.2.2.1 ∧ Qq p.1.2.2.2.1 ∧ Qq p.1.2.2.2.2.1 ∧ Qq p.1.2.2.2.2.2.1 ∧ Qq p.2.1 ∧ Qq p.2.2.1 ∧ True) ∧ Qq true ∧ True) tv <| .ok (.inl ((z, ())))))
 (.join 1 (ι := Unit) (.call (acV (p.1.1, w64 (p.2.1 + 1), 1000000, ())) Dd1 fun y1 =>
 .ite (!y1.1)
 (.ok (.inr (.inr ((false, ())))))
 (.call (acV (p.1.2.2.2.1, 1, 36, ())) Dd1 fun y2 =>
 .ite (!y2.1)
 (.ok (.inr (.inr ((false, ())))))
 (.call (acV (p.1.2.2.2.2.1, 1, 12, ())) Dd1 fun y3 =>
 .ite (!y3.1)
 (.ok (.inr (.inr ((false, ())))))
 (.tt <| .triv ((Qq 0 ∧ Qq 0 ∧ Qq true) ∧ True) tv <| .triv ((Qq (122 : TypeId) ∧ Qq p.1.1 ∧ Qq p.1.2.1 ∧ Qq p.1.2.2.1 ∧ Qq p.1.2.2.2.1 ∧ Qq p.1.2.2.2.2.1 ∧ Qq p.1.2.2.2.2.2.1 ∧ Qq p.2.1 ∧ Qq p.2.2.1 ∧ True) ∧ Qq true ∧ True) tv <| .ok (.inl (())))))) (aF8 p i))
def arW (p : (Int × Int × Int × Int × Int × Int × Unit) × Int × Bool × Unit) : TT (Bool × Unit) :=
 .loop 0 (.tt <| .triv (Qq (0 : Int) ∧ Qq ([p.1.2.1, p.1.2.2.1, p.1.2.2.2.2.2.1] : List Int) ∧ (Qq 0 ∧ Qq 0 ∧ Qq true) ∧ True) tv <| .triv ((Qq (122 : TypeId) ∧ Qq p.1.1 ∧ Qq p.1.2.1 ∧ Qq p.1.2.2.1 ∧ Qq p.1.2.2.2.1 ∧ Qq p.1.2.2.2.2.1 ∧ Qq p.1.2.2.2.2.2.1 ∧ Qq p.2.1 ∧ Qq p.2.2.1 ∧ True) ∧ Qq true ∧ True) tv <| .ok ((0, ()))) (afO p)
def ar3 : LTab := [(77, 6, 2048, { tag := 0, ι := (Bool) × Unit, vs := .dat (.s 2) (Ty.bool) <| .nil, ks := [1], kh := [0], fresh := 0 }), (128, 14, 14336, { tag := 1, ι := (Int) × (Int) × Unit, vs := .dat (.s 9) (Ty.int IntKind.i64) <| .dat (.s 3) (Ty.int IntKind.i64) <| .nil, ks := [8, 7, 0], kh := [8, 4, 2, 0], fresh := 0 })]
def ah5 (c : Int × List Int × List (Int × Int × Int × Int × Int × Int × Unit) × Unit) (j : Bool × Unit) (i : (Int) × (Int) × Unit) : TT (((Int) × (Int) × Unit) ⊕ (Bool × Unit)) :=
 .ite (decide (i.1 < len c.2.2.1))
 (.need (inb i.1 (len c.2.2.1)) <| .call (afY ((((gi c.2.2.1 i.1 (0, 0, 0, 0, 0, 0, ())).1, (gi c.2.2.1 i.1 (0, 0, 0, 0, 0, 0, ())).2.1, (gi c.2.2.1 i.1 (0, 0, 0, 0, 0, 0, ())).2.2.1, (gi c.2.2.1 i.1 (0, 0, 0, 0, 0, 0, ())).2.2.2.1, (gi c.2.2.1 i.1 (0, 0, 0, 0, 0, 0, ())).2.2.2.2.1, (gi c.2.2.1 i.1 (0, 0, 0, 0, 0, 0, ())).2.2.2.2.2.1, ()), i.2.1, i.1 == 0, ()), ())) Dd1 fun y =>
 .ite (!y.1)
 (.ok (.inr ((false, ()))))
 (.tt <| .lt (w64 (i.1 + 1) : Int) fun z => .lt ((gi c.2.2.1 i.1 (0, 0, 0, 0, 0, 0, ())).1 : Int) fun z1 => .triv (Qq z1 ∧ Qq z ∧ Qq (len c.2.2.1) ∧ Qq c.2.2.1 ∧ (Qq 8 ∧ Qq true) ∧ True) tv <| .triv ((Qq (LoopState.ready : LoopState) ∧ Qq (none : Option Code) ∧ Qq 34 ∧ Qq (#[17] : Array Tmp) ∧ Qq (akT (acL Tryz.f77) [1, 0, 1, 1, 1, 0, 1, 0, 0]) ∧ Qq (akT (acL Tryz.f77) [1, 0, 1, 1, 1, 0, 1, 0, 1]) ∧ (Qq (128 : FuncId) ∧ True ∧ (Qq 4 ∧ Qq 0 ∧ Qq true) ∧ True) ∧ Qq ((c.1, c.2.1, c.2.2.1, ()) : Int × List Int × List (Int × Int × Int × Int × Int × Int × Unit) × Unit) ∧ (Qq 2 ∧ Qq 0 ∧ Qq true) ∧ Qq j.1 ∧ (Qq 0 ∧ Qq 0 ∧ Qq true) ∧ True) ∧ Qq true ∧ (Qq (42 : TypeId) ∧ Qq c.1 ∧ Qq c.2.1 ∧ Qq c.2.2.1 ∧ True) ∧ Qq true ∧ (Qq (4 : TypeId) ∧ Qq true ∧ True) ∧ Qq true ∧ (Qq (42 : TypeId) ∧ Qq c.1 ∧ Qq c.2.1 ∧ Qq c.2.2.1 ∧ True) ∧ Qq true ∧ True) tv <| .ok (.inl ((z, z1, ())))))
 (.need (inb (w64 (len c.2.2.1 - 1)) (len c.2.2.1)) <| .ok (.inr (((gi c.2.2.1 (w64 (len c.2.2.1 - 1)) (0, 0, 0, 0, 0, 0, ())).1 == 1000000, ()))))
def apV (c : Int × List Int × List (Int × Int × Int × Int × Int × Int × Unit) × Unit) (j : (Bool) × Unit) : TT (Bool × Unit) :=
 .tt <| .tt <| .tt <| .tt <| .loop 1 (.tt <| .triv (Qq (0 : Int) ∧ Qq (0 : Int) ∧ Qq (len c.2.2.1) ∧ Qq c.2.2.1 ∧ (Qq 8 ∧ Qq true) ∧ True) tv <| .triv ((Qq (LoopState.ready : LoopState) ∧ Qq (none : Option Code) ∧ Qq 34 ∧ Qq (#[17] : Array Tmp) ∧ Qq (akT (acL Tryz.f77) [1, 0, 1, 1, 1, 0, 1, 0, 0]) ∧ Qq (akT (acL Tryz.f77) [1, 0, 1, 1, 1, 0, 1, 0, 1]) ∧ (Qq (128 : FuncId) ∧ True ∧ (Qq 4 ∧ Qq 0 ∧ Qq true) ∧ True) ∧ Qq ((c.1, c.2.1, c.2.2.1, ()) : Int × List Int × List (Int × Int × Int × Int × Int × Int × Unit) × Unit) ∧ (Qq 2 ∧ Qq 0 ∧ Qq true) ∧ Qq j.1 ∧ (Qq 0 ∧ Qq 0 ∧ Qq true) ∧ True) ∧ Qq true ∧ (Qq (42 : TypeId) ∧ Qq c.1 ∧ Qq c.2.1 ∧ Qq c.2.2.1 ∧ True) ∧ Qq true ∧ (Qq (4 : TypeId) ∧ Qq true ∧ True) ∧ Qq true ∧ (Qq (42 : TypeId) ∧ Qq c.1 ∧ Qq c.2.1 ∧ Qq c.2.2.1 ∧ True) ∧ Qq true ∧ True) tv <| .ok ((0, 0, ()))) (ah5 c j)
def afP (c : Int × List Int × List (Int × Int × Int × Int × Int × Int × Unit) × Unit) : TT (Bool × Unit) :=
 .join 0 (ι := (Bool) × Unit) (.ite (decide (len c.2.2.1 < 1))
 (.ok (.inr ((false, ()))))
 (.ite (decide (len c.2.2.1 > 4))
 (.ok (.inr ((false, ()))))
 (.tt <| .triv (Qq false ∧ (Qq 0 ∧ Qq 0 ∧ Qq true) ∧ True) tv <| .triv ((Qq (42 : TypeId) ∧ Qq c.1 ∧ Qq c.2.1 ∧ Qq c.2.2.1 ∧ True) ∧ Qq true ∧ True) tv <| .ok (.inl ((false, ())))))) (apV c)
def aMN : LTab := []
def aw2 (c : Int × List Int × List (Int × Int × Int × Int × Int × Int × Unit) × Unit) : TT (Int × Unit) :=
 .ite (c.1 == 1)
 (.ite (len c.2.1 == 0)
 (.ite (!len c.2.2.1 == 0)
 (.ok ((90, ())))
 (.ok ((0, ()))))
 (.ok ((90, ()))))
 (.ite (c.1 == 2)
 (.call (aiP (c.2.1, ())) Dd1 fun y =>
 .ite (y.1)
 (.ite (!len c.2.2.1 == 0)
 (.ok ((90, ())))
 (.ok ((0, ()))))
 (.ok ((90, ()))))
 (.ite (c.1 == 3)
 (.ite (len c.2.1 == 0)
 (.call (af1 ((c.1, c.2.1, c.2.2.1, ()), ())) Dd1 fun y1 =>
 .ite (!y1.1)
 (.ok ((90, ())))
 (.ok ((0, ()))))
 (.ok ((90, ()))))
 (.ok ((90, ())))))
def aMM : LTab := [(128, 14, 16384, { tag := 0, ι := (Int) × (Int) × Unit, vs := .dat (.s 9) (Ty.int IntKind.i64) <| .dat (.s 3) (Ty.int IntKind.i64) <| .nil, ks := [8, 7, 0], kh := [10, 6, 1, 0], fresh := 0 })]
def aAl (c : Int × List Int × List (Int × Int × Int × Int × Int × Int × Unit) × Unit) (y : Int × Unit) (i : (Int) × (Int) × Unit) : TT (((Int) × (Int) × Unit) ⊕ (Bool × Unit)) :=
 .ite (decide (i.1 < len c.2.2.1))
 (.need (inb i.1 (len c.2.2.1)) <| .ite ((gi c.2.2.1 i.1 (0, 0, 0, 0, 0, 0, ())).2.2.2.2.1 != 1)
 (.ok (.inr ((false, ()))))
 (.tt <| .lt (w64 (i.1 + 1) : Int) fun z => .lt ((gi c.2.2.1 i.1 (0, 0, 0, 0, 0, 0, ())).1 : Int) fun z1 => .triv (Qq z1 ∧ Qq z ∧ Qq (len c.2.2.1) ∧ Qq c.2.2.1 ∧ (Qq 10 ∧ Qq true) ∧ True) tv <| .triv ((Qq (LoopState.ready : LoopState) ∧ Qq (none : Option Code) ∧ Qq 14 ∧ Qq (#[9] : Array Tmp) ∧ Qq (akT (acL Tryz.f24) [1, 1, 0, 1, 0, 0]) ∧ Qq (akT (acL Tryz.f24) [1, 1, 0, 1, 0, 1]) ∧ (Qq (128 : FuncId) ∧ True ∧ (Qq 6 ∧ Qq 0 ∧ Qq true) ∧ True) ∧ Qq ((c.1, c.2.1, c.2.2.1, ()) : Int × List Int × List (Int × Int × Int × Int × Int × Int × Unit) × Unit) ∧ Qq (y.1 != 0) ∧ Qq y.1 ∧ Qq ((c.1, c.2.1, c.2.2.1, ()) : Int × List Int × List (Int × Int × Int × Int × Int × Int × Unit) × Unit) ∧ (Qq 1 ∧ Qq 0 ∧ Qq true) ∧ (Qq 0 ∧ Qq 0 ∧ Qq true) ∧ Qq c ∧ True) ∧ Qq true ∧ (Qq (42 : TypeId) ∧ Qq c.1 ∧ Qq c.2.1 ∧ Qq c.2.2.1 ∧ True) ∧ Qq true ∧ (Qq (4 : TypeId) ∧ Qq false ∧ True) ∧ Qq true ∧ (Qq (42 : TypeId) ∧ Qq c.1 ∧ Qq c.2.1 ∧ Qq c.2.2.1 ∧ True) ∧ Qq true ∧ True) tv <| .ok (.inl ((z, z1, ())))))
 (.ok (.inr ((true, ()))))
def aw1 (c : Int × List Int × List (Int × Int × Int × Int × Int × Int × Unit) × Unit) : TT (Bool × Unit) :=
 .call (afG ((c.1, c.2.1, c.2.2.1, ()), ())) Dd6 fun y =>
 .ite (y.1 != 0)
 (.ok ((false, ())))
 (.tt <| .tt <| .tt <| .tt <| .loop 0 (.tt <| .triv (Qq (0 : Int) ∧ Qq (0 : Int) ∧ Qq (len c.2.2.1) ∧ Qq c.2.2.1 ∧ (Qq 10 ∧ Qq true) ∧ True) tv <| .triv ((Qq (LoopState.ready : LoopState) ∧ Qq (none : Option Code) ∧ Qq 14 ∧ Qq (#[9] : Array Tmp) ∧ Qq (akT (acL Tryz.f24) [1, 1, 0, 1, 0, 0]) ∧ Qq (akT (acL Tryz.f24) [1, 1, 0, 1, 0, 1]) ∧ (Qq (128 : FuncId) ∧ True ∧ (Qq 6 ∧ Qq 0 ∧ Qq true) ∧ True) ∧ Qq ((c.1, c.2.1, c.2.2.1, ()) : Int × List Int × List (Int × Int × Int × Int × Int × Int × Unit) × Unit) ∧ Qq (y.1 != 0) ∧ Qq y.1 ∧ Qq ((c.1, c.2.1, c.2.2.1, ()) : Int × List Int × List (Int × Int × Int × Int × Int × Int × Unit) × Unit) ∧ (Qq 1 ∧ Qq 0 ∧ Qq true) ∧ (Qq 0 ∧ Qq 0 ∧ Qq true) ∧ Qq c ∧ True) ∧ Qq true ∧ (Qq (42 : TypeId) ∧ Qq c.1 ∧ Qq c.2.1 ∧ Qq c.2.2.1 ∧ True) ∧ Qq true ∧ (Qq (4 : TypeId) ∧ Qq false ∧ True) ∧ Qq true ∧ (Qq (42 : TypeId) ∧ Qq c.1 ∧ Qq c.2.1 ∧ Qq c.2.2.1 ∧ True) ∧ Qq true ∧ True) tv <| .ok ((0, 0, ()))) (aAl c y))
def aML : LTab := [(25, 122, 11264, { tag := 0, ι := (Int) × (Bool) × (Bool) × Unit, vs := .dat (.s 7) (Ty.int IntKind.i64) <| .dat (.s 6) (Ty.bool) <| .dat (.s 5) (Ty.bool) <| .nil, ks := [3, 2, 1], kh := [0], fresh := 0 })]
def aAk (c : Int × List Int × List (Int × Int × Int × Int × Int × Int × Unit) × Unit) (y : Int × Unit) (i : (Int) × (Bool) × (Bool) × Unit) : TT (((Int) × (Bool) × (Bool) × Unit) ⊕ (Int × Int × Unit)) :=
 .ite (decide (i.1 < len c.2.1))
 (.ite (i.2.2.1)
 (.ite (i.2.1)
 (.tt <| .lt (w64 (i.1 + 1) : Int) fun z => .triv (Qq true ∧ Qq true ∧ Qq z ∧ Qq (0 : Int) ∧ Qq (0 : Int) ∧ (Qq 0 ∧ Qq 0 ∧ Qq true) ∧ True) tv <| .triv ((Qq (42 : TypeId) ∧ Qq c.1 ∧ Qq c.2.1 ∧ Qq c.2.2.1 ∧ True) ∧ Qq true ∧ True) tv <| .ok (.inl ((z, true, true, ()))))
 (.need (inb i.1 (len c.2.1)) <| .need (inb (w64 (i.1 - 1)) (len c.2.1)) <| .tt <| .lt (w64 (i.1 + 1) : Int) fun z1 => .lt (decide (gi c.2.1 i.1 0 < gi c.2.1 (w64 (i.1 - 1)) 0) : Bool) fun z2 => .triv (Qq true ∧ Qq z2 ∧ Qq z1 ∧ Qq (0 : Int) ∧ Qq (0 : Int) ∧ (Qq 0 ∧ Qq 0 ∧ Qq true) ∧ True) tv <| .triv ((Qq (42 : TypeId) ∧ Qq c.1 ∧ Qq c.2.1 ∧ Qq c.2.2.1 ∧ True) ∧ Qq true ∧ True) tv <| .ok (.inl ((z1, z2, true, ())))))
 (.need (inb i.1 (len c.2.1)) <| .need (inb (w64 (i.1 - 1)) (len c.2.1)) <| .ite (i.2.1)
 (.tt <| .lt (w64 (i.1 + 1) : Int) fun z3 => .lt (decide (gi c.2.1 i.1 0 > gi c.2.1 (w64 (i.1 - 1)) 0) : Bool) fun z4 => .triv (Qq z4 ∧ Qq true ∧ Qq z3 ∧ Qq (0 : Int) ∧ Qq (0 : Int) ∧ (Qq 0 ∧ Qq 0 ∧ Qq true) ∧ True) tv <| .triv ((Qq (42 : TypeId) ∧ Qq c.1 ∧ Qq c.2.1 ∧ Qq c.2.2.1 ∧ True) ∧ Qq true ∧ True) tv <| .ok (.inl ((z3, true, z4, ()))))
 (.need (inb i.1 (len c.2.1)) <| .need (inb (w64 (i.1 - 1)) (len c.2.1)) <| .tt <| .lt (w64 (i.1 + 1) : Int) fun z5 => .lt (decide (gi c.2.1 i.1 0 < gi c.2.1 (w64 (i.1 - 1)) 0) : Bool) fun z6 => .lt (decide (gi c.2.1 i.1 0 > gi c.2.1 (w64 (i.1 - 1)) 0) : Bool) fun z7 => .triv (Qq z7 ∧ Qq z6 ∧ Qq z5 ∧ Qq (0 : Int) ∧ Qq (0 : Int) ∧ (Qq 0 ∧ Qq 0 ∧ Qq true) ∧ True) tv <| .triv ((Qq (42 : TypeId) ∧ Qq c.1 ∧ Qq c.2.1 ∧ Qq c.2.2.1 ∧ True) ∧ Qq true ∧ True) tv <| .ok (.inl ((z5, z6, z7, ()))))))
 (.ite (c.1 == 3)
 (.need (asT Int 0 ≤ 0 ∧ 0 < len c.2.2.1) <| .ite (decide ((gi c.2.2.1 0 (0, 0, 0, 0, 0, 0, ())).2.1 < 0))
 (.ite (!decide (len c.2.2.1 > 1))
 (.ok (.inr ((-1, 0, ()))))
 (.ok (.inr ((0, 0, ())))))
 (.ite (!decide (len c.2.2.1 > 1))
 (.ok (.inr ((1, 0, ()))))
 (.ite (!decide (len c.2.2.1 > 1))
 (.ok (.inr ((-1, 0, ()))))
 (.ok (.inr ((0, 0, ())))))))
 (.ite (!i.2.1)
 (.ok (.inr ((1, 0, ()))))
 (.ite (!i.2.2.1)
 (.ok (.inr ((-1, 0, ()))))
 (.ok (.inr ((0, 0, ())))))))
def aw0 (c : Int × List Int × List (Int × Int × Int × Int × Int × Int × Unit) × Unit) : TT (Int × Int × Unit) :=
 .call (afG ((c.1, c.2.1, c.2.2.1, ()), ())) Dd6 fun y =>
 .ite (y.1 != 0)
 (.ok ((0, y.1, ())))
 (.loop 0 (.tt <| .triv (Qq false ∧ Qq false ∧ Qq (1 : Int) ∧ Qq (0 : Int) ∧ Qq (0 : Int) ∧ (Qq 0 ∧ Qq 0 ∧ Qq true) ∧ True) tv <| .triv ((Qq (42 : TypeId) ∧ Qq c.1 ∧ Qq c.2.1 ∧ Qq c.2.2.1 ∧ True) ∧ Qq true ∧ True) tv <| .ok ((1, false, false, ()))) (aAk c y))
end
theorem aD6 (n a b : Int) (y) (h : acV (n, a, b, ()) = some y) : (ar2 n a b).toO = some y := by
 injection h with h
 subst h
 unfold ar2
 by_cases c : a ≤ n
 ·refine uT (decide_eq_true c) ?_
  rw [aaK]
  congr 2
  exact decide_eq_decide.2 ⟨fun h => ⟨c, h⟩, fun h => h.2⟩
 ·refine uF (decide_eq_false c) ?_
  rw [aaK, decide_eq_false (fun h : inR n a b => c h.1)]
theorem ab0 (n a b : Int) : acV (n, a, b, ()) = some (decide (inR n a b), ()) := rfl
theorem aJq (n d : Int) (y) (h : abY (n, d, ()) = some y) : (aHr n d).toO = some y := by
 unfold abY at h
 split at h
 ·rename_i hp
  exact uC (ofQ n d) (by unfold alY; rw [if_pos hp]) h
 ·cases h
theorem afH {n : Int} {d : Nat} (hn : aa9 n) (hd : d ≠ 0) (h2 : d ≤ 9223372036854775807) : abY (n, (d : Int), ()) = some (fx (mkRat n d), ()) := by
 have hd2 : aa9 (d : Int) := ⟨by omega, by omega⟩
 unfold abY
 rw [if_pos ⟨hn, hd2⟩]
 simp only [aK5 hd (abH hn) (abH hd2)]
theorem aBV (n : Int) (y) (h : aaF (n, ()) = some y) : (awW n).toO = some y := by
 unfold aaF at h
 split at h
 ·rename_i hp
  exact uC _ (afH (d := 1) hp (by omega) (by omega)) h
 ·cases h
theorem ab4 {n : Int} (h : aa9 n) : aaF (n, ()) = some (fx (mkRat n 1), ()) := by unfold aaF; rw [if_pos h]
theorem aeA (n : Int) : mkRat n 1 = (n : Rat) := by rw [Rat.mkRat_eq_div, show ((1 : Nat) : Rat) = 1 from rfl]; grind
theorem adW {n : Int} (h : aa9 n) : adE (mkRat n 1) := ad3 (by omega) (abH h) (abH ⟨by omega, by omega⟩)
theorem axZ {p q : Rat} (hp : adE p) (hq : adE q) : afX (fx p, fx q, ()) = some (aoK p q, 0, ()) := by
 unfold afX
 simp only [afJ hp, afJ hq]
theorem aGW (p q : Rat) : aoK p q < 0 ↔ p < q := by
 unfold aoK
 split
 ·simp_all
 ·split <;> simp_all
theorem aBa (p q : Rat) : aoK p q > 0 ↔ q < p := by
 unfold aoK
 split
 ·rename_i h; constructor
  ·intro h2; omega
  ·intro h2; exact absurd h2 (by grind)
 ·split
  ·rename_i h; subst h; simp
  ·rename_i h1 h2
   constructor
   ·intro _; rcases aCD p q with c | c | c
    ·exact absurd c h1
    ·exact absurd c h2
    ·exact c
   ·intro _; omega
theorem agX {q : Rat} (h : adE q) : acW (fx q, ()) = some (fx (ab7 q), ()) := aaI (enc := fun x : Rat => (fx x, ())) q h (fun b hb => ai1 (Prod.mk.inj hb).1)
theorem awX (x : FxT) (y) (h : acW (x, ()) = some y) : (akD x).toO = some y := by
 obtain ⟨q, hp, hx, rfl⟩ := aaD h
 obtain ⟨rfl, -⟩ := Prod.mk.inj hx
 have i0 : aa9 0 := ⟨by omega, by omega⟩
 have i1 : aa9 1 := ⟨by omega, by omega⟩
 unfold akD
 refine uC _ (ab4 i0) (uC _ (ab4 i1) (uV (uV (uV (uV ?_)))))
 refine uC _ (axZ hp (adW i0)) ?_
 have e0 : mkRat 0 1 = (0 : Rat) := by rw [aeA]; rfl
 have e1 : mkRat 1 1 = (1 : Rat) := by rw [aeA]; rfl
 unfold ab7
 by_cases c : q < 0
 ·rw [if_pos c]
  refine uT (decide_eq_true ((aGW _ _).2 (by rw [e0]; exact c))) ?_
  rw [e0]; rfl
 ·rw [if_neg c]
  refine uF (decide_eq_false (fun h => c (by rw [← e0]; exact (aGW _ _).1 h))) (uV (uV ?_))
  refine uC _ (axZ hp (adW i1)) ?_
  by_cases c2 : q > 1
  ·rw [if_pos c2]
   refine uT (decide_eq_true ((aBa _ _).2 (by rw [e1]; exact c2))) ?_
   rw [e1]; rfl
  ·rw [if_neg c2]
   exact uF (decide_eq_false (fun h => c2 (by rw [← e1]; exact (aBa _ _).1 h))) rfl
theorem atY (l : List Int) (y) (h : aiP (l, ()) = some y) : (aiO l).toO = some y := by
 injection h with h
 subst h
 unfold aiO
 dsimp only
 by_cases h1 : l.length < 2
 ·rw [decide_eq_false (fun h : ad9 l => by have := h.1; omega)]
  exact uR _ (uT sd rfl)
 by_cases h2 : l.length > 17
 ·rw [decide_eq_false (fun h : ad9 l => by have := h.2.1; omega)]
  exact uR _ (uF sd (uT sd rfl))
 refine uL (false, ()) (uF sd (uF sd rfl)) ?_
 refine uO (0, ()) rfl ?_
 refine aaN (fun i : Int × Unit => ∃ k : Nat, k ≤ l.length ∧ i = ((k : Int), ()) ∧ ∀ v ∈ l.take k, inR v 0 65535) (fun i => ((l.length : Int) - i.1).toNat) (fun _ => (decide (ad9 l), ())) ?_ _ ⟨0, by omega, rfl, by simp⟩
 rintro i ⟨k, h3, rfl, h4⟩
 simp only [alO, aaM]
 rcases Nat.lt_or_ge k l.length with hk | hk
 ·have e : l.getD k 0 = l[k] := by simp [hk]
  rw [e]
  by_cases c : inR l[k] 0 65535
  ·left
   refine ⟨(((k + 1 : Nat) : Int), ()), ?_, ⟨k + 1, by omega, rfl, ?_⟩, by simp only; omega, (by first | exact True.intro | rfl)⟩
   ·refine uT sd (uN sd (uC _ (ab0 _ _ _) (uF (by rw [decide_eq_true c]; rfl) ?_)))
    repeat (first | refine uV ?_ | refine uB ?_ | refine uN sd ?_ | refine uT sd ?_ | refine uF sd ?_ | refine uN (by simp) ?_)
    simp (disch := omega) only [aaK, aaA, aaO, aa0, abN, aaM, Nat.zero_add, Int.toNat_natCast, aaC, List.take_length]
    rfl
   ·intro v hv
    rw [List.take_succ_eq_append_getElem hk] at hv
    rcases List.mem_append.1 hv with hv | hv
    ·exact h4 v hv
    ·rw [List.mem_singleton.1 hv]; exact c
  ·right
   rw [decide_eq_false (fun h : ad9 l => c (h.2.2 _ (List.getElem_mem hk)))]
   exact uT sd (uN sd (uC _ (ab0 _ _ _) (uT (by rw [decide_eq_false c]; rfl) rfl)))
 ·right
  rw [List.take_of_length_le hk] at h4
  rw [decide_eq_true (show ad9 l from ⟨by omega, by omega, h4⟩)]
  exact uF sd rfl
theorem aOF {a b : Int} (ha : 0 ≤ a) (hb : 0 < b) : Nat.gcd b.natAbs (Int.tmod a b).natAbs = Nat.gcd a.natAbs b.natAbs := by
 obtain ⟨m, rfl⟩ := Int.eq_ofNat_of_zero_le ha
 obtain ⟨n, rfl⟩ := Int.eq_ofNat_of_zero_le (Int.le_of_lt hb)
 rw [Int.tmod_eq_emod_of_nonneg ha]
 have : ((m : Int) % (n : Int)) = ((m % n : Nat) : Int) := by simp
 rw [this, Int.natAbs_natCast, Int.natAbs_natCast, Int.natAbs_natCast, Nat.gcd_comm n, Nat.gcd_comm m n, Nat.gcd_rec n m]
theorem aJT {p : PcT} (h : inR p.2.1 0 1000000) : afY (p, ()) = some (decide (aiU p.2.1 p.1), ()) := by unfold afY; rw [if_pos h]
theorem aDY (p : PcT) (y) (h : afY (p, ()) = some y) : (arW p).toO = some y := by
 unfold afY at h
 split at h
 case isFalse => cases h
 case isTrue hfrom =>
 injection h with h
 subst h
 obtain ⟨hf0, hf1⟩ := hfrom
 dsimp only at hf0 hf1 ⊢
 obtain ⟨⟨till, mul, add, nu, de, off, u⟩, fr, first, u'⟩ := p
 dsimp only at hf0 hf1 ⊢
 unfold arW
 refine uO (0, ()) rfl ?_
 have bad : ∀ b : Bool, b = false → (decide (aiU fr (till, mul, add, nu, de, off, u)), ()) = (false, ()) ∨ aiU fr (till, mul, add, nu, de, off, u) := fun b hb => by
  by_cases c : aiU fr (till, mul, add, nu, de, off, u)
  ·exact Or.inr c
  ·left; rw [decide_eq_false c]
 have step : ∀ (k : Nat) (x : Int), k < 3 → gi [mul, add, off] (k : Int) 0 = x → (inR x (-100000000) 100000000 → (afO ((till, mul, add, nu, de, off, u), fr, first, u') ((k : Int), ())).toO = some (.inl (((k + 1 : Nat) : Int), ()))) ∧ (¬ inR x (-100000000) 100000000 → (afO ((till, mul, add, nu, de, off, u), fr, first, u') ((k : Int), ())).toO = some (.inr (false, ()))) := by
  intro k x hk hx
  constructor
  ·intro c
   unfold afO
   dsimp only
   refine uT sd (uN ⟨by omega, by omega⟩ ?_)
   rw [hx]
   refine uC _ (ab0 _ _ _) (uF (by rw [decide_eq_true c]; rfl) ?_)
   repeat (first | refine uV ?_ | refine uB ?_ | refine uN sd ?_ | refine uT sd ?_ | refine uF sd ?_ | refine uN (by simp) ?_)
   simp (disch := omega) only [aaK, aaA, aaO, aa0, abN, aaM, Nat.zero_add, Int.toNat_natCast, aaC, List.take_length]
   rfl
  ·intro c
   unfold afO
   dsimp only
   refine uT sd (uN ⟨by omega, by omega⟩ ?_)
   rw [hx]
   exact uC _ (ab0 _ _ _) (uT (by rw [decide_eq_false c]; rfl) rfl)
 by_cases c1 : inR mul (-100000000) 100000000
 case neg =>
  rw [decide_eq_false (fun h : aiU _ _ => c1 h.1.1)]
  exact acA ((step 0 mul (by omega) rfl).2 c1)
 rw [acO ((step 0 mul (by omega) rfl).1 c1)]
 by_cases c2 : inR add (-100000000) 100000000
 case neg =>
  rw [decide_eq_false (fun h : aiU _ _ => c2 h.1.2.1)]
  exact acA ((step 1 add (by omega) rfl).2 c2)
 rw [acO ((step 1 add (by omega) rfl).1 c2)]
 by_cases c3 : inR off (-100000000) 100000000
 case neg =>
  rw [decide_eq_false (fun h : aiU _ _ => c3 h.1.2.2.1)]
  exact acA ((step 2 off (by omega) rfl).2 c3)
 rw [acO ((step 2 off (by omega) rfl).1 c3)]
 refine acA ?_
 unfold afO
 refine uF rfl ?_
 dsimp only
 have hw : w64 (fr + 1) = fr + 1 := aaA (by omega)
 by_cases c4 : inR till (fr + 1) 1000000
 case neg =>
  rw [decide_eq_false (fun h : aiU _ _ => c4 h.2)]
  refine uR _ (uC _ (ab0 _ _ _) (uT (by rw [hw, decide_eq_false c4]; rfl) rfl))
 by_cases c5 : inR nu 1 36
 case neg =>
  rw [decide_eq_false (fun h : aiU _ _ => c5 h.1.2.2.2.1)]
  refine uR _ (uC _ (ab0 _ _ _) (uF (by rw [hw, decide_eq_true c4]; rfl) (uC _ (ab0 _ _ _) (uT (by rw [decide_eq_false c5]; rfl) rfl))))
 by_cases c6 : inR de 1 12
 case neg =>
  rw [decide_eq_false (fun h : aiU _ _ => c6 h.1.2.2.2.2.1)]
  refine uR _ (uC _ (ab0 _ _ _) (uF (by rw [hw, decide_eq_true c4]; rfl) (uC _ (ab0 _ _ _) (uF (by rw [decide_eq_true c5]; rfl) (uC _ (ab0 _ _ _) (uT (by rw [decide_eq_false c6]; rfl) rfl))))))
 refine uL () (uC _ (ab0 _ _ _) (uF (by rw [hw, decide_eq_true c4]; rfl) (uC _ (ab0 _ _ _) (uF (by rw [decide_eq_true c5]; rfl) (uC _ (ab0 _ _ _) (uF (by rw [decide_eq_true c6]; rfl) rfl)))))) ?_
 refine uO (de, nu, ()) rfl ?_
 have hd : decide (aiU fr (till, mul, add, nu, de, off, u)) = decide (Nat.gcd nu.natAbs de.natAbs = 1) := decide_eq_decide.2 ⟨fun h => h.1.2.2.2.2.2, fun h => ⟨⟨c1, c2, c3, c5, c6, h⟩, c4⟩⟩
 rw [hd]
 refine aaN (fun i : Int × Int × Unit => 0 ≤ i.1 ∧ 0 ≤ i.2.1 ∧ Nat.gcd i.2.1.natAbs i.1.natAbs = Nat.gcd nu.natAbs de.natAbs) (fun i => i.1.toNat) (fun _ => (.inr (decide (Nat.gcd nu.natAbs de.natAbs = 1), ()) : (Int × Unit) ⊕ (Bool × Unit))) ?_ _ ⟨by show (0 : Int) ≤ de; have := c6.1; omega, by show (0 : Int) ≤ nu; have := c5.1; omega, rfl⟩
 rintro ⟨b, a, u2⟩ ⟨g1, g2, g3⟩
 dsimp only at g1 g2 g3
 unfold awJ
 by_cases hb : b = 0
 ·right
  subst hb
  refine uF rfl ?_
  have g4 : a.natAbs = Nat.gcd nu.natAbs de.natAbs := by simpa using g3
  show some (Sum.inr (Sum.inr (a == 1, ()))) = _
  by_cases c : a = 1
  ·rw [decide_eq_true (show Nat.gcd nu.natAbs de.natAbs = 1 by omega), c]; rfl
  ·rw [decide_eq_false (show ¬ Nat.gcd nu.natAbs de.natAbs = 1 by omega), beq_eq_false_iff_ne.2 c]
 ·left
  have hlt : Int.tmod a b < b := by rw [Int.tmod_eq_emod_of_nonneg g2]; exact Int.emod_lt_of_pos _ (by omega)
  have hge : 0 ≤ Int.tmod a b := by rw [Int.tmod_eq_emod_of_nonneg g2]; exact Int.emod_nonneg _ hb
  refine ⟨(Int.tmod a b, b, ()), ?_, ⟨hge, by dsimp only; omega, ?_⟩, by dsimp only; omega, (by first | exact True.intro | rfl)⟩
  ·refine uT (by simpa using hb) (uN hb ?_)
   repeat (first | refine uV ?_ | refine uB ?_ | refine uN sd ?_ | refine uT sd ?_ | refine uF sd ?_ | refine uN (by simp) ?_)
   rfl
  ·dsimp only
   rw [← g3]; exact aOF g2 (by omega)
abbrev zs : aeX := (0, 0, 0, 0, 0, 0, ())
theorem aH0 {last : Int} : ag3 last [] ↔ last = 1000000 := Iff.rfl
theorem aET {last : Int} {s : aeX} {r : List aeX} : ag3 last (s :: r) ↔ aiU last s ∧ ag3 s.1 r := Iff.rfl
theorem aoC (c : CvT) (y) (h : af1 (c, ()) = some y) : (afP c).toO = some y := by
 injection h with h
 subst h
 obtain ⟨kind, tab, l, u0⟩ := c
 dsimp only
 unfold afP
 dsimp only
 by_cases h1 : l.length < 1
 ·rw [decide_eq_false (fun h : ad0 l => by have := h.1; omega)]
  exact uR _ (uT sd rfl)
 by_cases h2 : l.length > 4
 ·rw [decide_eq_false (fun h : ad0 l => by have := h.2.1; omega)]
  exact uR _ (uF sd (uT sd rfl))
 refine uL (false, ()) (uF sd (uF sd rfl)) ?_
 refine uO (0, 0, ()) rfl ?_
 have hl : decide (ad0 l) = decide (ag3 0 l) := decide_eq_decide.2 ⟨fun h => h.2.2, fun h => ⟨by omega, by omega, h⟩⟩
 rw [hl]
 refine aaN (fun i : Int × Int × Unit => ∃ k : Nat, k ≤ l.length ∧ i.1 = (k : Int) ∧ inR i.2.1 0 1000000 ∧ (ag3 0 l ↔ ag3 i.2.1 (l.drop k)) ∧ (k ≠ 0 → i.2.1 = (l.getD (k - 1) zs).1)) (fun i => ((l.length : Int) - i.1).toNat) (fun _ => (decide (ag3 0 l), ())) ?_ _ ⟨0, by omega, rfl, ⟨by simp, by simp⟩, by simp, by simp⟩
 rintro ⟨i, last, u⟩ ⟨k, h3, h4, h5, h6, h7⟩
 dsimp only at h4 h5 h6 h7
 subst h4
 simp only [ah5, aaM]
 rcases Nat.lt_or_ge k l.length with hk | hk
 ·have e : l.getD k zs = l[k] := by simp [hk]
  have hv : afY ((((l.getD k zs).1, (l.getD k zs).2.1, (l.getD k zs).2.2.1, (l.getD k zs).2.2.2.1, (l.getD k zs).2.2.2.2.1, (l.getD k zs).2.2.2.2.2.1, ()), last, (k : Int) == 0, ()), ()) = some (decide (aiU last l[k]), ()) := by
   rw [aJT h5, e]
  rw [List.drop_eq_getElem_cons hk, aET] at h6
  by_cases c : aiU last l[k]
  ·left
   refine ⟨(((k + 1 : Nat) : Int), l[k].1, ()), ?_, ⟨k + 1, by omega, rfl, ⟨?_, c.2.2⟩, ⟨fun h => (h6.1 h).2, fun h => h6.2 ⟨c, h⟩⟩, fun _ => by rw [Nat.add_sub_cancel, e]⟩, by dsimp only; omega, (by first | exact True.intro | rfl)⟩
   ·refine uT sd (uN sd (uC _ hv (uF (by rw [decide_eq_true c]; rfl) ?_)))
    repeat (first | refine uV ?_ | refine uB ?_ | refine uN sd ?_ | refine uT sd ?_ | refine uF sd ?_ | refine uN (by simp) ?_)
    rw [aaA (x := (k : Int) + 1) (by omega)]
    show some (Sum.inl (((k + 1 : Nat) : Int), (l.getD k zs).1, ())) = _
    rw [e]
   ·have := h5.1; have := c.2.1; dsimp only; omega
  ·right
   rw [decide_eq_false (fun h => c (h6.1 h).1)]
   exact uT sd (uN sd (uC _ hv (uT (by rw [decide_eq_false c]; rfl) rfl)))
 ·right
  have hkl : k = l.length := by omega
  subst hkl
  rw [List.drop_length, aH0] at h6
  have hw : w64 (len l - 1) = ((l.length - 1 : Nat) : Int) := by rw [aaC, aaA (x := (l.length : Int) - 1) (by omega)]; omega
  simp only [hw, aaM]
  refine uF sd (uN sd ?_)
  rw [h7 (by omega)] at h6
  show some (Sum.inr ((l.getD (l.length - 1) zs).1 == 1000000, ())) = _
  by_cases c : (l.getD (l.length - 1) zs).1 = 1000000
  ·rw [decide_eq_true (h6.2 c), beq_iff_eq.2 c]
  ·rw [decide_eq_false (fun h => c (h6.1 h)), beq_eq_false_iff_ne.2 c]
theorem aFu {α : Type} (l : List α) : (len l == 0) = decide (l = []) := by
 cases l with
 | nil => rfl
 | cons a l => rw [decide_eq_false (by simp), beq_eq_false_iff_ne]; simp [len]; omega
theorem aGi (c : CvT) (y) (h : afG (c, ()) = some y) : (aw2 c).toO = some y := by
 injection h with h
 subst h
 obtain ⟨kind, tab, l, u⟩ := c
 unfold aw2
 dsimp only
 simp only [aFu]
 by_cases k1 : kind = 1
 ·subst k1
  refine uT rfl ?_
  by_cases a1 : tab = []
  ·refine uT (decide_eq_true a1) ?_
   by_cases a2 : l = []
   ·rw [if_pos (show acD (1, tab, l, u) from Or.inl ⟨rfl, a1, a2⟩)]
    exact uF (by rw [decide_eq_true a2]; rfl) rfl
   ·rw [if_neg (fun h => by rcases h with h | h | h; exact a2 h.2.2; exact absurd h.1 (by dsimp only; decide); exact absurd h.1 (by dsimp only; decide))]
    exact uT (by rw [decide_eq_false a2]; rfl) rfl
  ·rw [if_neg (fun h => by rcases h with h | h | h; exact a1 h.2.1; exact absurd h.1 (by dsimp only; decide); exact absurd h.1 (by dsimp only; decide))]
   exact uF (decide_eq_false a1) rfl
 refine uF (beq_eq_false_iff_ne.2 k1) ?_
 by_cases k2 : kind = 2
 ·subst k2
  refine uT rfl (uC (decide (ad9 tab), ()) rfl ?_)
  by_cases a1 : ad9 tab
  ·refine uT (decide_eq_true a1) ?_
   by_cases a2 : l = []
   ·rw [if_pos (show acD (2, tab, l, u) from Or.inr (Or.inl ⟨rfl, a1, a2⟩))]
    exact uF (by rw [decide_eq_true a2]; rfl) rfl
   ·rw [if_neg (fun h => by rcases h with h | h | h; exact absurd h.1 (by dsimp only; decide); exact a2 h.2.2; exact absurd h.1 (by dsimp only; decide))]
    exact uT (by rw [decide_eq_false a2]; rfl) rfl
  ·rw [if_neg (fun h => by rcases h with h | h | h; exact absurd h.1 (by dsimp only; decide); exact a1 h.2.1; exact absurd h.1 (by dsimp only; decide))]
   exact uF (decide_eq_false a1) rfl
 refine uF (beq_eq_false_iff_ne.2 k2) ?_
 by_cases k3 : kind = 3
 ·subst k3
  refine uT rfl ?_
  by_cases a1 : tab = []
  ·refine uT (decide_eq_true a1) (uC (decide (ad0 l), ()) rfl ?_)
   by_cases a2 : ad0 l
   ·rw [if_pos (show acD (3, tab, l, u) from Or.inr (Or.inr ⟨rfl, a1, a2⟩))]
    exact uF (by rw [decide_eq_true a2]; rfl) rfl
   ·rw [if_neg (fun h => by rcases h with h | h | h; exact absurd h.1 (by dsimp only; decide); exact absurd h.1 (by dsimp only; decide); exact a2 h.2.2)]
    exact uT (by rw [decide_eq_false a2]; rfl) rfl
  ·rw [if_neg (fun h => by rcases h with h | h | h; exact absurd h.1 (by dsimp only; decide); exact absurd h.1 (by dsimp only; decide); exact a1 h.2.1)]
   exact uF (decide_eq_false a1) rfl
 ·rw [if_neg (fun h => by rcases h with h | h | h; exact k1 h.1; exact k2 h.1; exact k3 h.1)]
  exact uF (beq_eq_false_iff_ne.2 k3) rfl
theorem aqO (c : CvT) : afG (c, ()) = some (if acD c then 0 else 90, ()) := rfl
theorem aGh (c : CvT) (y) (h : alZ (c, ()) = some y) : (aw1 c).toO = some y := by
 injection h with h
 subst h
 obtain ⟨kind, tab, l, u0⟩ := c
 unfold aw1
 refine uC _ (aqO _) ?_
 dsimp only
 by_cases hr : acD (kind, tab, l, ())
 case neg =>
  rw [decide_eq_false (fun h : atC _ => hr h.1), if_neg hr]
  exact uT rfl rfl
 rw [if_pos hr]
 have hlen : l.length ≤ 4 := by
  rcases hr with h | h | h
  ·rw [show l = [] from h.2.2]; simp
  ·rw [show l = [] from h.2.2]; simp
  ·exact h.2.2.2.1
 have hd : decide (atC (kind, tab, l, u0)) = decide (∀ s ∈ l, s.2.2.2.2.1 = 1) := decide_eq_decide.2 ⟨fun h => h.2, fun h => ⟨hr, h⟩⟩
 rw [hd]
 refine uF rfl (uV (uV (uV (uV ?_))))
 refine uO (0, 0, ()) rfl ?_
 refine aaN (fun i : Int × Int × Unit => ∃ k : Nat, k ≤ l.length ∧ i.1 = (k : Int) ∧ ∀ s ∈ l.take k, s.2.2.2.2.1 = 1) (fun i => ((l.length : Int) - i.1).toNat) (fun _ => (decide (∀ s ∈ l, s.2.2.2.2.1 = 1), ())) ?_ _ ⟨0, by omega, rfl, by simp⟩
 rintro ⟨i, w, u⟩ ⟨k, h1, h2, h3⟩
 dsimp only at h2
 subst h2
 unfold aAl
 simp only [aaM]
 rcases Nat.lt_or_ge k l.length with hk | hk
 ·have e : l.getD k zs = l[k] := by simp [hk]
  by_cases c : l[k].2.2.2.2.1 = 1
  ·left
   refine ⟨(((k + 1 : Nat) : Int), l[k].1, ()), ?_, ⟨k + 1, by omega, rfl, ?_⟩, by dsimp only; omega, (by first | exact True.intro | rfl)⟩
   ·refine uT sd (uN sd (uF ?_ ?_))
    ·show ((l.getD k zs).2.2.2.2.1 != 1) = false
     rw [e, c]; rfl
    ·repeat (first | refine uV ?_ | refine uB ?_ | refine uN sd ?_ | refine uT sd ?_ | refine uF sd ?_ | refine uN (by simp) ?_)
     rw [aaA (x := (k : Int) + 1) (by omega)]
     show some (Sum.inl (((k + 1 : Nat) : Int), (l.getD k zs).1, ())) = _
     rw [e]
   ·intro s hs
    rw [List.take_succ_eq_append_getElem hk] at hs
    rcases List.mem_append.1 hs with hs | hs
    ·exact h3 s hs
    ·rw [List.mem_singleton.1 hs]; exact c
  ·right
   rw [decide_eq_false (fun h : ∀ s ∈ l, s.2.2.2.2.1 = 1 => c (h _ (List.getElem_mem hk)))]
   refine uT sd (uN sd (uT ?_ rfl))
   show ((l.getD k zs).2.2.2.2.1 != 1) = true
   rw [e]; simpa using c
 ·right
  rw [List.take_of_length_le hk] at h3
  rw [decide_eq_true h3]
  exact uF sd rfl
end Go.Vs
