/-
  Trees of what the functions compute, and their laws. Own work; no condition.
-/
import Derived.Test.YtakjojajnblpoaaGreatDoorClL2
import Derived.Test.YtakjojajnblpoaaGreatDoorProg
set_option linter.unusedVariables false
set_option linter.unusedSimpArgs false
set_option maxRecDepth 100000
namespace Go.Vs
open Go Go.Vg Go.Proofs
noncomputable section
def b_valid_L : LTab := []
def b_valid_t (lo : Int) (hi : Int) : TT (Bool × Unit) :=
 .ite (decide (-1000000000000000000 ≤ lo))
 (.ite (decide (lo ≤ hi))
 (.ok ((decide (hi ≤ 1000000000000000000), ())))
 (.ok ((false, ()))))
 (.ok ((false, ())))
def b_made_L : LTab := []
def b_made_t (lo : Int) (hi : Int) : TT ((Int × Int × Unit) × Int × Unit) :=
 .call (S_b_valid (lo, hi, ())) Dd1 fun y =>
 .ite (!y.1)
 (.ok (((0, 0, ()), 6, ())))
 (.ok (((lo, hi, ()), 0, ())))
def b_Check_L : LTab := []
def b_Check_t (b : Int × Int × Unit) : TT (Int × Unit) :=
 .call (S_b_valid (b.1, b.2.1, ())) Dd1 fun y =>
 .ite (!y.1)
 (.ok ((30, ())))
 (.ok ((0, ())))
def b_Of_L : LTab := []
def b_Of_t (lo : Int) (hi : Int) : TT ((Int × Int × Unit) × Int × Unit) :=
 .call (S_b_valid (lo, hi, ())) Dd1 fun y =>
 .ite (!y.1)
 (.ok (((0, 0, ()), 30, ())))
 (.ok (((lo, hi, ()), 0, ())))
def b_least_L : LTab := []
def b_least_t (l : List Int) : TT (Int × Unit) :=
 .call (S_slMin (l, ())) Dd6 fun y =>
 .ok ((y.1, ()))
def b_greatest_L : LTab := []
def b_greatest_t (l : List Int) : TT (Int × Unit) :=
 .call (S_slMax (l, ())) Dd6 fun y =>
 .ok ((y.1, ()))
def b_Around_L : LTab := []
def b_Around_t (a : List UInt8 × List UInt8 × Unit) : TT ((Int × Int × Unit) × Int × Unit) :=
 .call (S_f_Near ((a.1, a.2.1, ()), 1000000000000, ())) Dd15 fun y =>
 .ite (y.2.1 != 0)
 (.ok (((0, 0, ()), y.2.1, ())))
 (.call (S_f_Of (y.1, 1000000000000, ())) Dd14 fun y1 =>
 .ite (y1.2.1 != 0)
 (.ok (((0, 0, ()), y1.2.1, ())))
 (.call (S_f_Cmp ((a.1, a.2.1, ()), (y1.1.1, y1.1.2.1, ()), ())) Dd15 fun y2 =>
 .ite (y2.2.1 != 0)
 (.ok (((0, 0, ()), y2.2.1, ())))
 (.call (S_b_valid (y.1, y.1, ())) Dd1 fun y3 =>
 .ite (!y3.1)
 (.ok (((0, 0, ()), 6, ())))
 (.call (S_b_made (w64 (y.1 + if 0 < y2.1 then 0 else y2.1), w64 (y.1 + if 0 > y2.1 then 0 else y2.1), ())) Dd16 fun y4 =>
 .ok (((y4.1.1, y4.1.2.1, ()), y4.2.1, ()))))))
def b_Add_L : LTab := [(113, 26, 13312, { tag := 0, ι := (Int) × Unit, vs := .dat (.s 11) (Ty.int IntKind.i64) <| .nil, ks := [10, 9, 4, 0], kh := [8, 7, 2, 1, 0], fresh := 0 })]
def b_Add_R1 (a : Int × Int × Unit) (b : Int × Int × Unit) (i : (Int) × Unit) : TT (((Int) × Unit) ⊕ ((Int × Int × Unit) × Int × Unit)) :=
 .ite (decide (i.1 < (↑2 : Int)))
 (.need (inb i.1 (↑2 : Int)) <| .call (S_b_valid ((List.getD [(a.1, a.2.1, ()), (b.1, b.2.1, ())] (0 + Int.toNat i.1) (0, 0, ())).1, (List.getD [(a.1, a.2.1, ()), (b.1, b.2.1, ())] (0 + Int.toNat i.1) (0, 0, ())).2.1, ())) Dd1 fun y =>
 .ite (!y.1)
 (.ok (.inr (((0, 0, ()), 30, ()))))
 (.tt <| .lt (w64 (i.1 + 1) : Int) fun z => .triv (((z : Int) = z) ∧ (((↑2 : Int) : Int) = (↑2 : Int)) ∧ (((7) = (7)) ∧ (((0) = (0)) ∧ (((2) = (2)) ∧ ((true) = (true))))) ∧ (((8) = (8)) ∧ (((0) = (0)) ∧ ((true) = (true)))) ∧ (((201 : FuncId) = 201) ∧ (True ∧ ((((0) = (0)) ∧ (((0) = (0)) ∧ ((true) = (true)))) ∧ ((((1) = (1)) ∧ (((0) = (0)) ∧ ((true) = (true)))) ∧ True)))) ∧ True) ⟨rfl, rfl, ⟨rfl, ⟨rfl, ⟨rfl, rfl⟩⟩⟩, ⟨rfl, ⟨rfl, rfl⟩⟩, ⟨rfl, ⟨trivial, ⟨⟨rfl, ⟨rfl, rfl⟩⟩, ⟨⟨rfl, ⟨rfl, rfl⟩⟩, trivial⟩⟩⟩⟩, trivial⟩ <| .triv ((Qq (53 : TypeId) ∧ Qq (0 : Int) ∧ Qq (0 : Int) ∧ True) ∧ Qq true ∧ (Qq (53 : TypeId) ∧ Qq ([(a.1, a.2.1, ()), (b.1, b.2.1, ())] : List (Int × Int × Unit))) ∧ Qq true ∧ (Qq (53 : TypeId) ∧ Qq (0 : Int) ∧ Qq (0 : Int) ∧ True) ∧ Qq true ∧ (Qq (53 : TypeId) ∧ Qq b.1 ∧ Qq b.2.1 ∧ True) ∧ Qq true ∧ (Qq (53 : TypeId) ∧ Qq a.1 ∧ Qq a.2.1 ∧ True) ∧ Qq true ∧ True) tv <| .ok (.inl ((z, ())))))
 (.tt <| .tt <| .call (S_b_made (w64 (a.1 + b.1), w64 (a.2.1 + b.2.1), ())) Dd16 fun y1 =>
 .ok (.inr (((y1.1.1, y1.1.2.1, ()), y1.2.1, ()))))
def b_Add_t (a : Int × Int × Unit) (b : Int × Int × Unit) : TT ((Int × Int × Unit) × Int × Unit) :=
 .tt <| .tt <| .loop 0 (.tt <| .triv (((0 : Int) = 0) ∧ (((↑2 : Int) : Int) = (↑2 : Int)) ∧ (((7) = (7)) ∧ (((0) = (0)) ∧ (((2) = (2)) ∧ ((true) = (true))))) ∧ (((8) = (8)) ∧ (((0) = (0)) ∧ ((true) = (true)))) ∧ (((201 : FuncId) = 201) ∧ (True ∧ ((((0) = (0)) ∧ (((0) = (0)) ∧ ((true) = (true)))) ∧ ((((1) = (1)) ∧ (((0) = (0)) ∧ ((true) = (true)))) ∧ True)))) ∧ True) ⟨rfl, rfl, ⟨rfl, ⟨rfl, ⟨rfl, rfl⟩⟩⟩, ⟨rfl, ⟨rfl, rfl⟩⟩, ⟨rfl, ⟨trivial, ⟨⟨rfl, ⟨rfl, rfl⟩⟩, ⟨⟨rfl, ⟨rfl, rfl⟩⟩, trivial⟩⟩⟩⟩, trivial⟩ <| .triv ((Qq (53 : TypeId) ∧ Qq (0 : Int) ∧ Qq (0 : Int) ∧ True) ∧ Qq true ∧ (Qq (53 : TypeId) ∧ Qq ([(a.1, a.2.1, ()), (b.1, b.2.1, ())] : List (Int × Int × Unit))) ∧ Qq true ∧ (Qq (53 : TypeId) ∧ Qq (0 : Int) ∧ Qq (0 : Int) ∧ True) ∧ Qq true ∧ (Qq (53 : TypeId) ∧ Qq b.1 ∧ Qq b.2.1 ∧ True) ∧ Qq true ∧ (Qq (53 : TypeId) ∧ Qq a.1 ∧ Qq a.2.1 ∧ True) ∧ Qq true ∧ True) tv <| .ok ((0, ()))) (b_Add_R1 a b)
def b_Hull_L : LTab := [(113, 26, 20480, { tag := 0, ι := (Int) × Unit, vs := .dat (.s 11) (Ty.int IntKind.i64) <| .nil, ks := [10, 9, 4, 0], kh := [15, 14, 9, 8, 7, 6, 2, 1, 0], fresh := 0 })]
def b_Hull_R1 (a : Int × Int × Unit) (b : Int × Int × Unit) (i : (Int) × Unit) : TT (((Int) × Unit) ⊕ ((Int × Int × Unit) × Int × Unit)) :=
 .ite (decide (i.1 < (↑2 : Int)))
 (.need (inb i.1 (↑2 : Int)) <| .call (S_b_valid ((List.getD [(a.1, a.2.1, ()), (b.1, b.2.1, ())] (0 + Int.toNat i.1) (0, 0, ())).1, (List.getD [(a.1, a.2.1, ()), (b.1, b.2.1, ())] (0 + Int.toNat i.1) (0, 0, ())).2.1, ())) Dd1 fun y =>
 .ite (!y.1)
 (.ok (.inr (((0, 0, ()), 30, ()))))
 (.tt <| .lt (w64 (i.1 + 1) : Int) fun z => .triv (((z : Int) = z) ∧ (((↑2 : Int) : Int) = (↑2 : Int)) ∧ (((14) = (14)) ∧ (((0) = (0)) ∧ (((2) = (2)) ∧ ((true) = (true))))) ∧ (((15) = (15)) ∧ (((0) = (0)) ∧ ((true) = (true)))) ∧ (((230 : FuncId) = 230) ∧ (True ∧ ((((7) = (7)) ∧ (((0) = (0)) ∧ ((true) = (true)))) ∧ ((((8) = (8)) ∧ (((0) = (0)) ∧ ((true) = (true)))) ∧ ((((6) = (6)) ∧ (((0) = (0)) ∧ ((true) = (true)))) ∧ True))))) ∧ True) ⟨rfl, rfl, ⟨rfl, ⟨rfl, ⟨rfl, rfl⟩⟩⟩, ⟨rfl, ⟨rfl, rfl⟩⟩, ⟨rfl, ⟨trivial, ⟨⟨rfl, ⟨rfl, rfl⟩⟩, ⟨⟨rfl, ⟨rfl, rfl⟩⟩, ⟨⟨rfl, ⟨rfl, rfl⟩⟩, trivial⟩⟩⟩⟩⟩, trivial⟩ <| .triv ((Qq (53 : TypeId) ∧ Qq (0 : Int) ∧ Qq (0 : Int) ∧ True) ∧ Qq true ∧ (Qq (53 : TypeId) ∧ Qq ([(a.1, a.2.1, ()), (b.1, b.2.1, ())] : List (Int × Int × Unit))) ∧ Qq true ∧ (Qq (53 : TypeId) ∧ Qq (0 : Int) ∧ Qq (0 : Int) ∧ True) ∧ Qq true ∧ (Qq (53 : TypeId) ∧ Qq b.1 ∧ Qq b.2.1 ∧ True) ∧ Qq true ∧ (Qq (53 : TypeId) ∧ Qq a.1 ∧ Qq a.2.1 ∧ True) ∧ Qq true ∧ (Qq (3 : TypeId) ∧ Qq (2 : Int) ∧ True) ∧ Qq true ∧ (Qq (53 : TypeId) ∧ Qq (0 : Int) ∧ Qq (0 : Int) ∧ True) ∧ Qq true ∧ (Qq (53 : TypeId) ∧ Qq b.1 ∧ Qq b.2.1 ∧ True) ∧ Qq true ∧ (Qq (53 : TypeId) ∧ Qq a.1 ∧ Qq a.2.1 ∧ True) ∧ Qq true ∧ True) tv <| .ok (.inl ((z, ())))))
 (.tt <| .tt <| .ite (match a.1 == b.1 with
| true =>
 match a.2.1 == b.2.1 with
 | true => true
 | false => false
| false => false)
 (.ok (.inr (((a.1, a.2.1, ()), 0, ()))))
 (.triv (asT Int 0 ≤ 2 ∧ 2 < (↑4 : Int)) (by decide) <| .call (S_b_least (List.take 2 [a.1, b.1], ())) Dd6 fun y1 =>
 .call (S_b_greatest (List.take 2 [a.2.1, b.2.1], ())) Dd6 fun y2 =>
 .ite (decide (y1.1 > y2.1))
 (.ok (.inr (((0, 0, ()), 4, ()))))
 (.ok (.inr (((y1.1, y2.1, ()), 0, ()))))))
def b_Hull_t (a : Int × Int × Unit) (b : Int × Int × Unit) : TT ((Int × Int × Unit) × Int × Unit) :=
 .tt <| .tt <| .tt <| .tt <| .loop 0 (.tt <| .triv (((0 : Int) = 0) ∧ (((↑2 : Int) : Int) = (↑2 : Int)) ∧ (((14) = (14)) ∧ (((0) = (0)) ∧ (((2) = (2)) ∧ ((true) = (true))))) ∧ (((15) = (15)) ∧ (((0) = (0)) ∧ ((true) = (true)))) ∧ (((230 : FuncId) = 230) ∧ (True ∧ ((((7) = (7)) ∧ (((0) = (0)) ∧ ((true) = (true)))) ∧ ((((8) = (8)) ∧ (((0) = (0)) ∧ ((true) = (true)))) ∧ ((((6) = (6)) ∧ (((0) = (0)) ∧ ((true) = (true)))) ∧ True))))) ∧ True) ⟨rfl, rfl, ⟨rfl, ⟨rfl, ⟨rfl, rfl⟩⟩⟩, ⟨rfl, ⟨rfl, rfl⟩⟩, ⟨rfl, ⟨trivial, ⟨⟨rfl, ⟨rfl, rfl⟩⟩, ⟨⟨rfl, ⟨rfl, rfl⟩⟩, ⟨⟨rfl, ⟨rfl, rfl⟩⟩, trivial⟩⟩⟩⟩⟩, trivial⟩ <| .triv ((Qq (53 : TypeId) ∧ Qq (0 : Int) ∧ Qq (0 : Int) ∧ True) ∧ Qq true ∧ (Qq (53 : TypeId) ∧ Qq ([(a.1, a.2.1, ()), (b.1, b.2.1, ())] : List (Int × Int × Unit))) ∧ Qq true ∧ (Qq (53 : TypeId) ∧ Qq (0 : Int) ∧ Qq (0 : Int) ∧ True) ∧ Qq true ∧ (Qq (53 : TypeId) ∧ Qq b.1 ∧ Qq b.2.1 ∧ True) ∧ Qq true ∧ (Qq (53 : TypeId) ∧ Qq a.1 ∧ Qq a.2.1 ∧ True) ∧ Qq true ∧ (Qq (3 : TypeId) ∧ Qq (2 : Int) ∧ True) ∧ Qq true ∧ (Qq (53 : TypeId) ∧ Qq (0 : Int) ∧ Qq (0 : Int) ∧ True) ∧ Qq true ∧ (Qq (53 : TypeId) ∧ Qq b.1 ∧ Qq b.2.1 ∧ True) ∧ Qq true ∧ (Qq (53 : TypeId) ∧ Qq a.1 ∧ Qq a.2.1 ∧ True) ∧ Qq true ∧ True) tv <| .ok ((0, ()))) (b_Hull_R1 a b)
def b_Clamp_L : LTab := [(113, 26, 13312, { tag := 0, ι := (Int) × Unit, vs := .dat (.s 11) (Ty.int IntKind.i64) <| .nil, ks := [10, 9, 4, 0], kh := [8, 7, 3, 2, 1, 0], fresh := 0 })]
def b_Clamp_R1 (b : Int × Int × Unit) (lo : Int) (hi : Int) (i : (Int) × Unit) : TT (((Int) × Unit) ⊕ ((Int × Int × Unit) × Int × Unit)) :=
 .ite (decide (i.1 < (↑1 : Int)))
 (.need (inb i.1 (↑1 : Int)) <| .call (S_b_valid ((List.getD [(b.1, b.2.1, ())] (0 + Int.toNat i.1) (0, 0, ())).1, (List.getD [(b.1, b.2.1, ())] (0 + Int.toNat i.1) (0, 0, ())).2.1, ())) Dd1 fun y =>
 .ite (!y.1)
 (.ok (.inr (((0, 0, ()), 30, ()))))
 (.tt <| .lt (w64 (i.1 + 1) : Int) fun z => .triv (((z : Int) = z) ∧ (((↑1 : Int) : Int) = (↑1 : Int)) ∧ (((7) = (7)) ∧ (((0) = (0)) ∧ (((1) = (1)) ∧ ((true) = (true))))) ∧ (((8) = (8)) ∧ (((0) = (0)) ∧ ((true) = (true)))) ∧ (((114 : FuncId) = 114) ∧ (True ∧ ((((1) = (1)) ∧ (((0) = (0)) ∧ ((true) = (true)))) ∧ ((((2) = (2)) ∧ (((0) = (0)) ∧ ((true) = (true)))) ∧ ((((0) = (0)) ∧ (((0) = (0)) ∧ ((true) = (true)))) ∧ True))))) ∧ True) ⟨rfl, rfl, ⟨rfl, ⟨rfl, ⟨rfl, rfl⟩⟩⟩, ⟨rfl, ⟨rfl, rfl⟩⟩, ⟨rfl, ⟨trivial, ⟨⟨rfl, ⟨rfl, rfl⟩⟩, ⟨⟨rfl, ⟨rfl, rfl⟩⟩, ⟨⟨rfl, ⟨rfl, rfl⟩⟩, trivial⟩⟩⟩⟩⟩, trivial⟩ <| .triv ((Qq (53 : TypeId) ∧ Qq (0 : Int) ∧ Qq (0 : Int) ∧ True) ∧ Qq true ∧ (Qq (53 : TypeId) ∧ Qq ([(b.1, b.2.1, ())] : List (Int × Int × Unit))) ∧ Qq true ∧ (Qq (53 : TypeId) ∧ Qq (0 : Int) ∧ Qq (0 : Int) ∧ True) ∧ Qq true ∧ (Qq (3 : TypeId) ∧ Qq hi ∧ True) ∧ Qq true ∧ (Qq (3 : TypeId) ∧ Qq lo ∧ True) ∧ Qq true ∧ (Qq (53 : TypeId) ∧ Qq b.1 ∧ Qq b.2.1 ∧ True) ∧ Qq true ∧ True) tv <| .ok (.inl ((z, ())))))
 (.tt <| .tt <| .call (S_b_valid (lo, hi, ())) Dd1 fun y1 =>
 .ite (!y1.1)
 (.ok (.inr (((0, 0, ()), 2, ()))))
 (.call (S_b_made (if hi < if lo > b.1 then lo else b.1 then hi else if lo > b.1 then lo else b.1, if hi < if lo > b.2.1 then lo else b.2.1 then hi else if lo > b.2.1 then lo else b.2.1, ())) Dd16 fun y2 =>
 .ok (.inr (((y2.1.1, y2.1.2.1, ()), y2.2.1, ())))))
def b_Clamp_t (b : Int × Int × Unit) (lo : Int) (hi : Int) : TT ((Int × Int × Unit) × Int × Unit) :=
 .tt <| .tt <| .loop 0 (.tt <| .triv (((0 : Int) = 0) ∧ (((↑1 : Int) : Int) = (↑1 : Int)) ∧ (((7) = (7)) ∧ (((0) = (0)) ∧ (((1) = (1)) ∧ ((true) = (true))))) ∧ (((8) = (8)) ∧ (((0) = (0)) ∧ ((true) = (true)))) ∧ (((114 : FuncId) = 114) ∧ (True ∧ ((((1) = (1)) ∧ (((0) = (0)) ∧ ((true) = (true)))) ∧ ((((2) = (2)) ∧ (((0) = (0)) ∧ ((true) = (true)))) ∧ ((((0) = (0)) ∧ (((0) = (0)) ∧ ((true) = (true)))) ∧ True))))) ∧ True) ⟨rfl, rfl, ⟨rfl, ⟨rfl, ⟨rfl, rfl⟩⟩⟩, ⟨rfl, ⟨rfl, rfl⟩⟩, ⟨rfl, ⟨trivial, ⟨⟨rfl, ⟨rfl, rfl⟩⟩, ⟨⟨rfl, ⟨rfl, rfl⟩⟩, ⟨⟨rfl, ⟨rfl, rfl⟩⟩, trivial⟩⟩⟩⟩⟩, trivial⟩ <| .triv ((Qq (53 : TypeId) ∧ Qq (0 : Int) ∧ Qq (0 : Int) ∧ True) ∧ Qq true ∧ (Qq (53 : TypeId) ∧ Qq ([(b.1, b.2.1, ())] : List (Int × Int × Unit))) ∧ Qq true ∧ (Qq (53 : TypeId) ∧ Qq (0 : Int) ∧ Qq (0 : Int) ∧ True) ∧ Qq true ∧ (Qq (3 : TypeId) ∧ Qq hi ∧ True) ∧ Qq true ∧ (Qq (3 : TypeId) ∧ Qq lo ∧ True) ∧ Qq true ∧ (Qq (53 : TypeId) ∧ Qq b.1 ∧ Qq b.2.1 ∧ True) ∧ Qq true ∧ True) tv <| .ok ((0, ()))) (b_Clamp_R1 b lo hi)
def slMin_L : LTab := [(251, 3, 1024, { tag := 0, ι := Unit, vs := .nil, ks := [2, 0], kh := [], fresh := 0 }), (251, 122, 6144, { tag := 1, ι := (Int) × (Int) × Unit, vs := .dat (.s 4) (Ty.int IntKind.i64) <| .dat (.s 3) (Ty.int IntKind.i64) <| .nil, ks := [2, 0], kh := [], fresh := 0 })]
def slMin_R2 (x : List Int) (j : Unit) (i : (Int) × (Int) × Unit) : TT (((Int) × (Int) × Unit) ⊕ (Int × Unit)) :=
 .ite (decide (i.1 < len x))
 (.need (inb i.1 (len x)) <| .tt <| .lt (w64 (i.1 + 1) : Int) fun z1 => .lt (if gi x i.1 0 < i.2.1 then gi x i.1 0 else i.2.1 : Int) fun z2 => .triv (Qq z2 ∧ Qq z1 ∧ Qq (0 : Int) ∧ Qq x ∧ True) tv <| .tr <| .ok (.inl ((z1, z2, ()))))
 (.ok (.inr ((i.2.1, ()))))
def slMin_R1 (x : List Int) (j : Unit) : TT (Int × Unit) :=
 .need (asT Int 0 ≤ 0 ∧ 0 < len x) <| .loop 1 (.tt <| .lt (gi x 0 0 : Int) fun z => .triv (Qq z ∧ Qq (1 : Int) ∧ Qq (0 : Int) ∧ Qq x ∧ True) tv <| .tr <| .ok ((1, z, ()))) (slMin_R2 x j)
def slMin_t (x : List Int) : TT (Int × Unit) :=
 .join 0 (ι := Unit) (.ite (decide (len x < 1))
 (.bad)
 (.tt <| .triv (Qq (0 : Int) ∧ Qq x ∧ True) tv <| .tr <| .ok (.inl (())))) (slMin_R1 x)
def slMax_L : LTab := [(252, 3, 1024, { tag := 0, ι := Unit, vs := .nil, ks := [2, 0], kh := [], fresh := 0 }), (252, 122, 6144, { tag := 1, ι := (Int) × (Int) × Unit, vs := .dat (.s 4) (Ty.int IntKind.i64) <| .dat (.s 3) (Ty.int IntKind.i64) <| .nil, ks := [2, 0], kh := [], fresh := 0 })]
def slMax_R2 (x : List Int) (j : Unit) (i : (Int) × (Int) × Unit) : TT (((Int) × (Int) × Unit) ⊕ (Int × Unit)) :=
 .ite (decide (i.1 < len x))
 (.need (inb i.1 (len x)) <| .tt <| .lt (w64 (i.1 + 1) : Int) fun z1 => .lt (if gi x i.1 0 > i.2.1 then gi x i.1 0 else i.2.1 : Int) fun z2 => .triv (Qq z2 ∧ Qq z1 ∧ Qq (0 : Int) ∧ Qq x ∧ True) tv <| .tr <| .ok (.inl ((z1, z2, ()))))
 (.ok (.inr ((i.2.1, ()))))
def slMax_R1 (x : List Int) (j : Unit) : TT (Int × Unit) :=
 .need (asT Int 0 ≤ 0 ∧ 0 < len x) <| .loop 1 (.tt <| .lt (gi x 0 0 : Int) fun z => .triv (Qq z ∧ Qq (1 : Int) ∧ Qq (0 : Int) ∧ Qq x ∧ True) tv <| .tr <| .ok ((1, z, ()))) (slMax_R2 x j)
def slMax_t (x : List Int) : TT (Int × Unit) :=
 .join 0 (ι := Unit) (.ite (decide (len x < 1))
 (.bad)
 (.tt <| .triv (Qq (0 : Int) ∧ Qq x ∧ True) tv <| .tr <| .ok (.inl (())))) (slMax_R1 x)
def p_tenfold_L : LTab := []
def p_tenfold_t (n : Int) : TT (List UInt8 × Unit) :=
 .call (S_rept (#[48].toList, n, ())) Dd2 fun y =>
 .need (List.length #[49].toList + List.length y.1 ≤ lim) <| .ok ((#[49].toList ++ y.1, ()))
def p_root_L : LTab := []
def p_root_t (a : List UInt8) (k : Int) : TT (List UInt8 × Bool × Int × Unit) :=
 .call (S_w_Root (a, k, ())) Dd11 fun y =>
 .ite (y.2.1 != 0)
 (.ok ((#[].toList, false, y.2.1, ())))
 (.call (S_w_Pow (y.1, k, ())) Dd11 fun y1 =>
 .ite (y1.2.1 != 0)
 (.ok ((#[].toList, false, y1.2.1, ())))
 (.ok ((y.1, y1.1 == a, 0, ()))))
def p_integer_L : LTab := []
def p_integer_t (a : List UInt8) (up0 : Bool) : TT (Int × Int × Unit) :=
 .call (S_w_Int (a, ())) Dd15 fun y =>
 .ite (y.2.1 != 0)
 (.ok ((0, y.2.1, ())))
 (.ite (decide (y.1 > 1000000000000000000))
 (.ok ((0, 6, ())))
 (.ite (up0)
 (.ok ((w64 (y.1 + 1), 0, ())))
 (.ok ((y.1, 0, ())))))
def pe_valid_L : LTab := []
def pe_valid_t (e : Int × Int × Unit) : TT (Bool × Unit) :=
 .ite (decide (e.1 ≥ 1))
 (.ite (decide (e.1 ≤ 36))
 (.ite (decide (e.2.1 ≥ 1))
 (.ok ((decide (e.2.1 ≤ 12), ())))
 (.ok ((false, ()))))
 (.ok ((false, ()))))
 (.ok ((false, ())))
def pp_end_L : LTab := []
def pp_end_t (p : (Int × Int × Unit) × Unit) (n : Int) (up0 : Bool) : TT (Int × Int × Unit) :=
 .call (S_w_Of (n, ())) Dd2 fun y =>
 .call (S_w_Pow (y.1, p.1.1, ())) Dd11 fun y1 =>
 .ite (y1.2.1 != 0)
 (.ok ((0, y1.2.1, ())))
 (.ite (decide (p.1.1 ≤ p.1.2.1))
 (.call (S_p_tenfold (w64 (12 * w64 (p.1.2.1 - p.1.1)), ())) Dd2 fun y2 =>
 .call (S_w_Mul (y1.1, y2.1, ())) Dd11 fun y3 =>
 .ite (y3.2.1 != 0)
 (.ok ((0, y3.2.1, ())))
 (.call (S_p_root (y3.1, p.1.2.1, ())) Dd17 fun y4 =>
 .ite (y4.2.2.1 != 0)
 (.ok ((0, y4.2.2.1, ())))
 (.ite (up0)
 (.ite (y4.2.1)
 (.call (S_p_integer (y4.1, !#[48].toList == #[48].toList, ())) Dd15 fun y5 =>
 .ok ((y5.1, y5.2.1, ())))
 (.call (S_p_integer (y4.1, !false, ())) Dd15 fun y6 =>
 .ok ((y6.1, y6.2.1, ()))))
 (.call (S_p_integer (y4.1, false, ())) Dd15 fun y7 =>
 .ok ((y7.1, y7.2.1, ()))))))
 (.call (S_p_tenfold (w64 (12 * w64 (p.1.1 - p.1.2.1)), ())) Dd2 fun y8 =>
 .call (S_w_Div (y1.1, y8.1, ())) Dd18 fun y9 =>
 .ite (y9.2.2.1 != 0)
 (.ok ((0, y9.2.2.1, ())))
 (.call (S_p_root (y9.1, p.1.2.1, ())) Dd17 fun y10 =>
 .ite (y10.2.2.1 != 0)
 (.ok ((0, y10.2.2.1, ())))
 (.ite (up0)
 (.ite (y10.2.1)
 (.call (S_p_integer (y10.1, !y9.2.1 == #[48].toList, ())) Dd15 fun y11 =>
 .ok ((y11.1, y11.2.1, ())))
 (.call (S_p_integer (y10.1, !false, ())) Dd15 fun y12 =>
 .ok ((y12.1, y12.2.1, ()))))
 (.call (S_p_integer (y10.1, false, ())) Dd15 fun y13 =>
 .ok ((y13.1, y13.2.1, ())))))))
def p_Power_L : LTab := []
def p_Power_t (b : Int × Int × Unit) (p : Int) (q : Int) : TT ((Int × Int × Unit) × Int × Unit) :=
 .call (S_b_Check ((b.1, b.2.1, ()), ())) Dd6 fun y =>
 .ite (y.1 != 0)
 (.ok (((0, 0, ()), y.1, ())))
 (.call (S_pe_valid ((p, q, ()), ())) Dd1 fun y1 =>
 .ite (!y1.1)
 (.ok (((0, 0, ()), 2, ())))
 (.ite (decide (b.1 < 0))
 (.ok (((0, 0, ()), 2, ())))
 (.tt <| .tt <| .call (S_pp_end (((p, q, ()), ()), b.1, false, ())) Dd15 fun y2 =>
 .ite (y2.2.1 != 0)
 (.ok (((0, 0, ()), y2.2.1, ())))
 (.call (S_pp_end (((p, q, ()), ()), b.2.1, true, ())) Dd15 fun y3 =>
 .ite (y3.2.1 != 0)
 (.ok (((0, 0, ()), y3.2.1, ())))
 (.call (S_b_Of (y2.1, y3.1, ())) Dd16 fun y4 =>
 .ite (y4.2.1 != 0)
 (.ok (((0, 0, ()), 6, ())))
 (.ok (((y4.1.1, y4.1.2.1, ()), 0, ()))))))))
end
end Go.Vs
namespace Go.Vs
open Go Go.Vg
theorem b_valid_law (lo hi : Int) (y) (h : S_b_valid (lo, hi, ()) = some y) : (b_valid_t lo hi).toO = some y := by
 injection h with h
 subst h
 unfold b_valid_t
 by_cases h1 : -1000000000000000000 ≤ lo
 ·refine uT (decide_eq_true h1) ?_
  by_cases h2 : lo ≤ hi
  ·refine uT (decide_eq_true h2) ?_
   simp [toO_ok, okB, h1, h2]
  ·refine uF (decide_eq_false h2) ?_
   simp [toO_ok, okB, h2]
 ·refine uF (decide_eq_false h1) ?_
  simp [toO_ok, okB, h1]
theorem L_b_valid (lo hi : Int) : S_b_valid (lo, hi, ()) = some (decide (okB lo hi), ()) := rfl
theorem b_made_law (lo hi : Int) (y) (h : S_b_made (lo, hi, ()) = some y) : (b_made_t lo hi).toO = some y := by
 unfold S_b_made mkB at h
 dsimp only at h
 unfold b_made_t
 refine uC _ (L_b_valid lo hi) ?_
 by_cases h1 : okB lo hi
 ·rw [if_pos h1] at h
  exact uF (by rw [decide_eq_true h1]; rfl) h
 ·rw [if_neg h1] at h
  exact uT (by rw [decide_eq_false h1]; rfl) h
theorem b_Of_law (lo hi : Int) (y) (h : S_b_Of (lo, hi, ()) = some y) : (b_Of_t lo hi).toO = some y := by
 unfold S_b_Of mkB at h
 dsimp only at h
 unfold b_Of_t
 refine uC _ (L_b_valid lo hi) ?_
 by_cases h1 : okB lo hi
 ·rw [if_pos h1] at h
  exact uF (by rw [decide_eq_true h1]; rfl) h
 ·rw [if_neg h1] at h
  exact uT (by rw [decide_eq_false h1]; rfl) h
theorem b_Check_law (b : BdT) (y) (h : S_b_Check (b, ()) = some y) : (b_Check_t b).toO = some y := by
 unfold S_b_Check at h
 dsimp only at h
 unfold b_Check_t
 refine uC _ (L_b_valid b.1 b.2.1) ?_
 by_cases h1 : okB b.1 b.2.1
 ·rw [if_pos h1] at h
  exact uF (by rw [decide_eq_true h1]; rfl) h
 ·rw [if_neg h1] at h
  exact uT (by rw [decide_eq_false h1]; rfl) h
theorem slMin_law (x : List Int) (y) (h : S_slMin (x, ()) = some y) : (slMin_t x).toO = some y := by
 unfold S_slMin at h
 cases x with
 | nil => cases h
 | cons a l =>
  simp only at h
  split at h
  ·rename_i hl
   injection h with h
   subst h
   unfold slMin_t
   refine uL () (uF (by (try simp only [decide_eq_true_eq, decide_eq_false_iff_not, beq_iff_eq, bne_iff_ne, beq_eq_false_iff_ne, bne_eq_false_iff_eq, Bool.not_eq_true', Bool.not_eq_false']) <;> (try simp only [len_eq, inb, inc, ge_iff_le, gt_iff_lt, Int.toNat_natCast, asT, ne_eq]) <;> simp only [List.length_cons] <;> omega) rfl) ?_
   refine uN ⟨by simp [asT], by (try simp only [len_eq, inb, inc, ge_iff_le, gt_iff_lt, Int.toNat_natCast, asT, ne_eq]); simp only [List.length_cons]; omega⟩ ?_
   refine uO (1, a, ()) rfl ?_
   refine loopO_eq (fun i : Int × Int × Unit => ∃ k : Nat, k ≤ l.length ∧ i = (((k + 1 : Nat) : Int), (l.take k).foldl (fun m y => if y < m then y else m) a, ())) (fun i => ((l.length + 1 : Nat) - i.1).toNat) (fun _ => (l.foldl (fun m y => if y < m then y else m) a, ())) ?_ _ ⟨0, by omega, rfl⟩
   rintro i ⟨k, hk, rfl⟩
   simp only [slMin_R2, gi_nat]
   rcases Nat.lt_or_ge k l.length with h1 | h1
   ·left
    refine ⟨(((k + 1 + 1 : Nat) : Int), (l.take (k + 1)).foldl (fun m y => if y < m then y else m) a, ()), ?_, ⟨k + 1, by omega, rfl⟩, by simp only; omega, (by first | exact True.intro | rfl)⟩
    refine uT (by (try simp only [decide_eq_true_eq, decide_eq_false_iff_not, beq_iff_eq, bne_iff_ne, beq_eq_false_iff_ne, bne_eq_false_iff_eq, Bool.not_eq_true', Bool.not_eq_false']) <;> (try simp only [len_eq, inb, inc, ge_iff_le, gt_iff_lt, Int.toNat_natCast, asT, ne_eq]) <;> simp only [List.length_cons] <;> omega) (uN ⟨by omega, by (try simp only [len_eq, inb, inc, ge_iff_le, gt_iff_lt, Int.toNat_natCast, asT, ne_eq]); simp only [List.length_cons]; omega⟩ ?_)
    repeat (first | refine uV ?_ | refine uB ?_ | refine uN sd ?_ | refine uT sd ?_ | refine uF sd ?_ | refine uN (by simp) ?_)
    rw [List.take_succ_eq_append_getElem h1, List.foldl_append]
    have e : (a :: l).getD (k + 1) 0 = l[k] := by simp [h1]
    rw [e, w64_id (x := ((k + 1 : Nat) : Int) + 1) (by omega)]
    rfl
   ·right
    refine uF (by (try simp only [decide_eq_true_eq, decide_eq_false_iff_not, beq_iff_eq, bne_iff_ne, beq_eq_false_iff_ne, bne_eq_false_iff_eq, Bool.not_eq_true', Bool.not_eq_false']) <;> (try simp only [len_eq, inb, inc, ge_iff_le, gt_iff_lt, Int.toNat_natCast, asT, ne_eq]) <;> simp only [List.length_cons] <;> omega) ?_
    rw [List.take_of_length_le h1]; rfl
  ·cases h
theorem slMax_law (x : List Int) (y) (h : S_slMax (x, ()) = some y) : (slMax_t x).toO = some y := by
 unfold S_slMax at h
 cases x with
 | nil => cases h
 | cons a l =>
  simp only at h
  split at h
  ·rename_i hl
   injection h with h
   subst h
   unfold slMax_t
   refine uL () (uF (by (try simp only [decide_eq_true_eq, decide_eq_false_iff_not, beq_iff_eq, bne_iff_ne, beq_eq_false_iff_ne, bne_eq_false_iff_eq, Bool.not_eq_true', Bool.not_eq_false']) <;> (try simp only [len_eq, inb, inc, ge_iff_le, gt_iff_lt, Int.toNat_natCast, asT, ne_eq]) <;> simp only [List.length_cons] <;> omega) rfl) ?_
   refine uN ⟨by simp [asT], by (try simp only [len_eq, inb, inc, ge_iff_le, gt_iff_lt, Int.toNat_natCast, asT, ne_eq]); simp only [List.length_cons]; omega⟩ ?_
   refine uO (1, a, ()) rfl ?_
   refine loopO_eq (fun i : Int × Int × Unit => ∃ k : Nat, k ≤ l.length ∧ i = (((k + 1 : Nat) : Int), (l.take k).foldl (fun m y => if y > m then y else m) a, ())) (fun i => ((l.length + 1 : Nat) - i.1).toNat) (fun _ => (l.foldl (fun m y => if y > m then y else m) a, ())) ?_ _ ⟨0, by omega, rfl⟩
   rintro i ⟨k, hk, rfl⟩
   simp only [slMax_R2, gi_nat]
   rcases Nat.lt_or_ge k l.length with h1 | h1
   ·left
    refine ⟨(((k + 1 + 1 : Nat) : Int), (l.take (k + 1)).foldl (fun m y => if y > m then y else m) a, ()), ?_, ⟨k + 1, by omega, rfl⟩, by simp only; omega, (by first | exact True.intro | rfl)⟩
    refine uT (by (try simp only [decide_eq_true_eq, decide_eq_false_iff_not, beq_iff_eq, bne_iff_ne, beq_eq_false_iff_ne, bne_eq_false_iff_eq, Bool.not_eq_true', Bool.not_eq_false']) <;> (try simp only [len_eq, inb, inc, ge_iff_le, gt_iff_lt, Int.toNat_natCast, asT, ne_eq]) <;> simp only [List.length_cons] <;> omega) (uN ⟨by omega, by (try simp only [len_eq, inb, inc, ge_iff_le, gt_iff_lt, Int.toNat_natCast, asT, ne_eq]); simp only [List.length_cons]; omega⟩ ?_)
    repeat (first | refine uV ?_ | refine uB ?_ | refine uN sd ?_ | refine uT sd ?_ | refine uF sd ?_ | refine uN (by simp) ?_)
    rw [List.take_succ_eq_append_getElem h1, List.foldl_append]
    have e : (a :: l).getD (k + 1) 0 = l[k] := by simp [h1]
    rw [e, w64_id (x := ((k + 1 : Nat) : Int) + 1) (by omega)]
    rfl
   ·right
    refine uF (by (try simp only [decide_eq_true_eq, decide_eq_false_iff_not, beq_iff_eq, bne_iff_ne, beq_eq_false_iff_ne, bne_eq_false_iff_eq, Bool.not_eq_true', Bool.not_eq_false']) <;> (try simp only [len_eq, inb, inc, ge_iff_le, gt_iff_lt, Int.toNat_natCast, asT, ne_eq]) <;> simp only [List.length_cons] <;> omega) ?_
    rw [List.take_of_length_le h1]; rfl
  ·cases h
theorem b_least_law (l : List Int) (y) (h : S_b_least (l, ()) = some y) : (b_least_t l).toO = some y := uC _ h rfl
theorem b_greatest_law (l : List Int) (y) (h : S_b_greatest (l, ()) = some y) : (b_greatest_t l).toO = some y := uC _ h rfl
theorem fl_le_iff (q : Rat) (n : Int) : n ≤ fl q ↔ (n : Rat) ≤ q := by
 unfold fl
 rw [Rat.le_iff, Int.le_ediv_iff_mul_le (by have := q.den_pos; omega)]
 simp
theorem ratTri (a b : Rat) : a < b ∨ a = b ∨ b < a := by grind
theorem fl_eq {q : Rat} {n : Int} (h1 : (n : Rat) ≤ q) (h2 : q < ((n + 1 : Int) : Rat)) : fl q = n := by
 have e1 := (fl_le_iff q n).2 h1
 have e2 : ¬ (n + 1 ≤ fl q) := fun h => by
  have := (fl_le_iff q (n + 1)).1 h
  exact absurd h2 (Rat.not_lt.2 this)
 omega
theorem fl_le (q : Rat) : ((fl q : Int) : Rat) ≤ q := (fl_le_iff q _).1 (Int.le_refl _)
theorem lt_fl (q : Rat) : q < ((fl q + 1 : Int) : Rat) := by
 rcases Rat.not_le.1 (fun h => by have := (fl_le_iff q (fl q + 1)).2 h; omega) with h
 exact h
theorem around_step {x : Rat} {n : Int} (hn : fl (x + 1 / 2) = n) : (x = n → fl x = n ∧ -fl (-x) = n) ∧ (x < n → fl x = n - 1 ∧ -fl (-x) = n) ∧ ((n : Rat) < x → fl x = n ∧ -fl (-x) = n + 1) := by
 have a1 := fl_le (x + 1 / 2)
 have a2 := lt_fl (x + 1 / 2)
 rw [hn] at a1 a2
 rw [Rat.intCast_add] at a2
 refine ⟨fun h => ⟨fl_eq ?_ ?_, ?_⟩, fun h => ⟨fl_eq ?_ ?_, ?_⟩, fun h => ⟨fl_eq ?_ ?_, ?_⟩⟩
 ·grind
 ·rw [Rat.intCast_add]; grind
 ·have : fl (-x) = -n := fl_eq (by rw [Rat.intCast_neg]; grind) (by rw [Rat.intCast_add, Rat.intCast_neg]; grind)
  omega
 ·rw [Rat.intCast_sub]; grind
 ·rw [Rat.intCast_add, Rat.intCast_sub]; grind
 ·have : fl (-x) = -n := fl_eq (by rw [Rat.intCast_neg]; grind) (by rw [Rat.intCast_add, Rat.intCast_neg]; grind)
  omega
 ·grind
 ·rw [Rat.intCast_add]; grind
 ·have : fl (-x) = -n - 1 := fl_eq (by rw [Rat.intCast_sub, Rat.intCast_neg]; grind) (by rw [Rat.intCast_add, Rat.intCast_sub, Rat.intCast_neg]; grind)
  omega
theorem fitQ_mk {n : Int} {d : Nat} (hd : d ≠ 0) (h1 : Fit n) (h2 : Fit d) : FitQ (mkRat n d) := by
 obtain ⟨g, t, hg, g0, e0, e1, e2⟩ := mkRat_parts n hd
 refine ⟨fit_of_le h1 ?_, fit_of_le h2 ?_⟩
 ·rw [e1, ← abs_of_mul e0 g0]; exact Nat.div_le_self _ _
 ·rw [e2]; simp only [Int.natAbs_natCast]; exact Nat.div_le_self _ _
theorem ofQ_pos {n : Int} {d : Nat} (hd : d ≠ 0) (h1 : Fit n) (h2 : Fit d) : ofQ n d = (fx (mkRat n d), 0, ()) := by
 unfold ofQ
 rw [if_neg (by omega), Rat.divInt_ofNat, wrF_pos (fitQ_mk hd h1 h2)]
theorem L_f_Of {n : Int} {d : Nat} (hn : inI64 n) (hd : d ≠ 0) (h2 : d ≤ 9223372036854775807) : S_f_Of (n, (d : Int), ()) = some (fx (mkRat n d), 0, ()) := by
 have hd2 : inI64 (d : Int) := ⟨by omega, by omega⟩
 unfold S_f_Of
 rw [if_pos ⟨hn, hd2⟩]
 simp only [ofQ_pos hd (fit_small hn) (fit_small hd2)]
theorem mkRat_mul_den (n : Int) {d : Nat} (hd : d ≠ 0) : mkRat n d * (d : Rat) = (n : Rat) := by
 rw [Rat.mkRat_eq_div]
 exact Rat.div_mul_cancel (by simpa using hd)
theorem near12 (q : Rat) : nearQ q 1000000000000 = fl (q * one12 + 1 / 2) := by
 unfold nearQ one12
 rw [show mkRat 1 2 = (1 / 2 : Rat) by rw [Rat.mkRat_eq_div]; rfl]
theorem b_Around_law (a : FxT) (y) (h : S_b_Around (a, ()) = some y) : (b_Around_t a).toO = some y := by
 unfold S_b_Around at h
 dsimp only at h
 unfold b_Around_t
 cases ha : rdF a with
 | none =>
  simp only [ha] at h
  exact uC (0, 20, ()) (by unfold S_f_Near; dsimp only; rw [show rdF (a.1, a.2.1, ()) = none from ha]) (uT rfl h)
 | some q =>
  simp only [ha] at h
  have hq := (rdF_some ha).1
  have hnear : S_f_Near ((a.1, a.2.1, ()), 1000000000000, ()) = some (if inI64 (nearQ q 1000000000000) then (nearQ q 1000000000000, 0, ()) else (0, 6, ())) := by
   unfold S_f_Near
   dsimp only
   rw [show rdF (a.1, a.2.1, ()) = some q from ha]
   simp only
   rw [if_neg (by omega)]
   rfl
  rw [near12] at hnear
  have hst := around_step (x := q * one12) rfl
  generalize hn : fl (q * one12 + 1 / 2) = n at *
  unfold tight mkB at h
  by_cases hi : inI64 n
  ·rw [if_pos hi] at hnear
   refine uC _ hnear (uF rfl ?_)
   have hof := L_f_Of (n := n) (d := 1000000000000) hi (by omega) (by omega)
   refine uC _ hof (uF rfl ?_)
   have hfr : FitQ (mkRat n 1000000000000) := fitQ_mk (by omega) (fit_small hi) (fit_small ⟨by omega, by omega⟩)
   have hm := mkRat_mul_den n (d := 1000000000000) (by omega)
   have hcmp : S_f_Cmp ((a.1, a.2.1, ()), (dec (mkRat n 1000000000000).num, decN (mkRat n 1000000000000).den, ()), ()) = some (ordQ q (mkRat n 1000000000000), 0, ()) := by
    unfold S_f_Cmp
    simp only [show rdF (a.1, a.2.1, ()) = some q from ha, rdF_fx hfr]
   refine uC _ hcmp (uF rfl ?_)
   refine uC _ (L_b_valid n n) ?_
   have hx : one12 = ((1000000000000 : Nat) : Rat) := rfl
   generalize mkRat n 1000000000000 = r at *
   rw [← hx] at hm
   have hone : (0 : Rat) < one12 := by rw [hx]; decide
   have hlt : q < r ↔ q * one12 < n := by rw [← hm]; exact (Rat.mul_lt_mul_right hone).symm
   have heq : q = r ↔ q * one12 = n := by
    rw [← hm]
    constructor
    ·rintro rfl; rfl
    ·intro h
     rcases ratTri q r with c | c | c
     ·have := (Rat.mul_lt_mul_right hone).2 c; grind
     ·exact c
     ·have := (Rat.mul_lt_mul_right hone).2 c; grind
   generalize q * one12 = x at *
   by_cases hv : okB n n
   ·refine uF (by rw [decide_eq_true hv]; rfl) ?_
    obtain ⟨v1, v2, v3⟩ := hv
    have key : ∀ lo hi : Int, w64 (n + if 0 < ordQ q r then 0 else ordQ q r) = lo → w64 (n + if 0 > ordQ q r then 0 else ordQ q r) = hi → fl x = lo ∧ -fl (-x) = hi → (TT.call (S_b_made (w64 (n + if 0 < ordQ q r then 0 else ordQ q r), w64 (n + if 0 > ordQ q r then 0 else ordQ q r), ())) (Ty.dflt (Ty.pair (Ty.pair (Ty.int IntKind.i64) (Ty.pair (Ty.int IntKind.i64) Ty.unit)) (Ty.pair (Ty.int IntKind.i64) Ty.unit))) fun y4 => TT.ok ((y4.1.1, y4.1.2.1, ()), y4.2.1, ())).toO = some y := by
     intro lo hi' h1 h2 h3
     rw [h1, h2]
     refine uC (mkB 6 lo hi') rfl ?_
     rw [h3.1, h3.2] at h
     exact h
    refine key _ _ rfl rfl ?_
    unfold ordQ
    by_cases c1 : q < r
    ·rw [if_pos c1]
     obtain ⟨g1, g2⟩ := hst.2.1 (hlt.1 c1)
     rw [if_neg (by omega), if_pos (by omega), w64_id (by omega), w64_id (by omega), g1, g2]
     omega
    ·rw [if_neg c1]
     by_cases c2 : q = r
     ·rw [if_pos c2]
      obtain ⟨g1, g2⟩ := hst.1 (heq.1 c2)
      rw [if_neg (by omega), w64_id (by omega), g1, g2]
      omega
     ·rw [if_neg c2]
      have c3 : (n : Rat) < x := by
       rcases ratTri x n with c | c | c
       ·exact absurd (hlt.2 c) c1
       ·exact absurd (heq.2 c) c2
       ·exact c
      obtain ⟨g1, g2⟩ := hst.2.2 c3
      rw [if_pos (by omega), if_neg (by omega), w64_id (by omega), w64_id (by omega), g1, g2]
      omega
   ·refine uT (by rw [decide_eq_false hv]; rfl) ?_
    rw [if_neg] at h
    ·exact h
    ·intro hok
     apply hv
     unfold okB at hok ⊢
     rcases ratTri x n with c | c | c
     ·have := hst.2.1 c; omega
     ·have := hst.1 c; omega
     ·have := hst.2.2 c; omega
  ·rw [if_neg hi] at hnear
   refine uC _ hnear (uT rfl ?_)
   rw [if_neg] at h
   ·exact h
   ·intro hok
    apply hi
    unfold okB at hok
    unfold inI64
    rcases ratTri (q * one12) n with c | c | c
    ·have := hst.2.1 c; omega
    ·have := hst.1 c; omega
    ·have := hst.2.2 c; omega
end Go.Vs
namespace Go.Vs
open Go Go.Vg
theorem L_b_made (lo hi : Int) : S_b_made (lo, hi, ()) = some (mkB 6 lo hi) := rfl
theorem loop2 {α : Type} {R : Int × Unit → Option ((Int × Unit) ⊕ α)} {a : α} (ok0 ok1 : Prop) [Decidable ok0] [Decidable ok1] {e z : α}
  (h0 : R (0, ()) = if ok0 then some (.inl (1, ())) else some (.inr e)) (h1 : R (1, ()) = if ok1 then some (.inl (2, ())) else some (.inr e)) (h2 : ok0 → ok1 → R (2, ()) = some (.inr z))
  (hz : a = if ok0 ∧ ok1 then z else e) : loopO R (0, ()) = some a := by
 subst hz
 by_cases c0 : ok0
 ·rw [if_pos c0] at h0
  rw [loopO_next h0]
  by_cases c1 : ok1
  ·rw [if_pos c1] at h1
   rw [loopO_next h1, loopO_done (h2 c0 c1), if_pos ⟨c0, c1⟩]
  ·rw [if_neg c1] at h1
   rw [loopO_done h1, if_neg (fun h => c1 h.2)]
 ·rw [if_neg c0] at h0
  rw [loopO_done h0, if_neg (fun h => c0 h.1)]
theorem b_Add_law (a b : BdT) (y) (h : S_b_Add (a, b, ()) = some y) : (b_Add_t a b).toO = some y := by
 injection h with h
 unfold b_Add_t
 refine uV (uV (uO (0, ()) rfl ?_))
 refine loop2 (okB a.1 a.2.1) (okB b.1 b.2.1) (z := mkB 6 (a.1 + b.1) (a.2.1 + b.2.1)) ?_ ?_ ?_ h.symm
 ·by_cases c : okB a.1 a.2.1
  ·rw [if_pos c]
   unfold b_Add_R1
   refine uT (by decide) (uN (by decide) (uC (decide (okB a.1 a.2.1), ()) rfl (uF (by rw [decide_eq_true c]; rfl) ?_)))
   repeat (first | refine uV ?_ | refine uB ?_ | refine uN sd ?_ | refine uT sd ?_ | refine uF sd ?_ | refine uN (by simp) ?_)
   rfl
  ·rw [if_neg c]
   unfold b_Add_R1
   exact uT (by decide) (uN (by decide) (uC (decide (okB a.1 a.2.1), ()) rfl (uT (by rw [decide_eq_false c]; rfl) rfl)))
 ·by_cases c : okB b.1 b.2.1
  ·rw [if_pos c]
   unfold b_Add_R1
   refine uT (by decide) (uN (by decide) (uC (decide (okB b.1 b.2.1), ()) rfl (uF (by rw [decide_eq_true c]; rfl) ?_)))
   repeat (first | refine uV ?_ | refine uB ?_ | refine uN sd ?_ | refine uT sd ?_ | refine uF sd ?_ | refine uN (by simp) ?_)
   rfl
  ·rw [if_neg c]
   unfold b_Add_R1
   exact uT (by decide) (uN (by decide) (uC (decide (okB b.1 b.2.1), ()) rfl (uT (by rw [decide_eq_false c]; rfl) rfl)))
 ·intro c0 c1
  obtain ⟨u1, u2, u3⟩ := c0
  obtain ⟨w1, w2, w3⟩ := c1
  refine uF (by decide) (uV (uV ?_))
  rw [w64_id (x := a.1 + b.1) (by omega), w64_id (x := a.2.1 + b.2.1) (by omega)]
  exact uC _ (L_b_made _ _) rfl
theorem b_Hull_law (a b : BdT) (y) (h : S_b_Hull (a, b, ()) = some y) : (b_Hull_t a b).toO = some y := by
 injection h with h
 unfold b_Hull_t
 refine uV (uV (uV (uV (uO (0, ()) rfl ?_))))
 refine loop2 (okB a.1 a.2.1) (okB b.1 b.2.1) (z := ((min a.1 b.1, max a.2.1 b.2.1, ()), 0, ())) ?_ ?_ ?_ h.symm
 ·by_cases c : okB a.1 a.2.1
  ·rw [if_pos c]
   unfold b_Hull_R1
   refine uT (by decide) (uN (by decide) (uC (decide (okB a.1 a.2.1), ()) rfl (uF (by rw [decide_eq_true c]; rfl) ?_)))
   repeat (first | refine uV ?_ | refine uB ?_ | refine uN sd ?_ | refine uT sd ?_ | refine uF sd ?_ | refine uN (by simp) ?_)
   rfl
  ·rw [if_neg c]
   unfold b_Hull_R1
   exact uT (by decide) (uN (by decide) (uC (decide (okB a.1 a.2.1), ()) rfl (uT (by rw [decide_eq_false c]; rfl) rfl)))
 ·by_cases c : okB b.1 b.2.1
  ·rw [if_pos c]
   unfold b_Hull_R1
   refine uT (by decide) (uN (by decide) (uC (decide (okB b.1 b.2.1), ()) rfl (uF (by rw [decide_eq_true c]; rfl) ?_)))
   repeat (first | refine uV ?_ | refine uB ?_ | refine uN sd ?_ | refine uT sd ?_ | refine uF sd ?_ | refine uN (by simp) ?_)
   rfl
  ·rw [if_neg c]
   unfold b_Hull_R1
   exact uT (by decide) (uN (by decide) (uC (decide (okB b.1 b.2.1), ()) rfl (uT (by rw [decide_eq_false c]; rfl) rfl)))
 ·intro c0 c1
  obtain ⟨u1, u2, u3⟩ := c0
  obtain ⟨w1, w2, w3⟩ := c1
  refine uF (by decide) (uV (uV ?_))
  by_cases he : a.1 = b.1 ∧ a.2.1 = b.2.1
  ·refine uT ?_ ?_
   ·rw [he.1, he.2]; simp
   ·rw [toO_ok, he.1, he.2, Int.min_self, Int.max_self]
  ·refine uF ?_ ?_
   ·by_cases e1 : a.1 = b.1
    ·have e2 : a.2.1 ≠ b.2.1 := fun h => he ⟨e1, h⟩
     have b1 : (a.1 == b.1) = true := by rw [e1]; simp
     have b2 : (a.2.1 == b.2.1) = false := by rw [beq_eq_false_iff_ne]; exact e2
     rw [b1, b2]
    ·have b1 : (a.1 == b.1) = false := by rw [beq_eq_false_iff_ne]; exact e1
     rw [b1]
   refine uV ?_
   refine uC (if b.1 < a.1 then b.1 else a.1, ()) rfl ?_
   refine uC (if b.2.1 > a.2.1 then b.2.1 else a.2.1, ()) rfl ?_
   have m1 : (if b.1 < a.1 then b.1 else a.1) = min a.1 b.1 := by rw [Int.min_def]; split <;> split <;> omega
   have m2 : (if b.2.1 > a.2.1 then b.2.1 else a.2.1) = max a.2.1 b.2.1 := by rw [Int.max_def]; split <;> split <;> omega
   simp only [m1, m2]
   refine uF sd rfl
theorem b_Clamp_law (b : BdT) (lo hi : Int) (y) (h : S_b_Clamp (b, lo, hi, ()) = some y) : (b_Clamp_t b lo hi).toO = some y := by
 injection h with h
 unfold b_Clamp_t
 refine uV (uV (uO (0, ()) rfl ?_))
 unfold clampB at h
 dsimp only at h
 by_cases c : okB b.1 b.2.1
 ·rw [if_pos c] at h
  have h0 : (b_Clamp_R1 b lo hi (0, ())).toO = some (.inl (1, ())) := by
   unfold b_Clamp_R1
   refine uT (by decide) (uN (by decide) (uC (decide (okB b.1 b.2.1), ()) rfl (uF (by rw [decide_eq_true c]; rfl) ?_)))
   repeat (first | refine uV ?_ | refine uB ?_ | refine uN sd ?_ | refine uT sd ?_ | refine uF sd ?_ | refine uN (by simp) ?_)
   rfl
  rw [loopO_next h0]
  refine loopO_done ?_
  unfold b_Clamp_R1
  refine uF (by decide) (uV (uV (uC _ (L_b_valid lo hi) ?_)))
  by_cases c2 : okB lo hi
  ·rw [if_pos c2] at h
   refine uF (by rw [decide_eq_true c2]; rfl) ?_
   have m : ∀ x : Int, (if hi < if lo > x then lo else x then hi else if lo > x then lo else x) = min (max x lo) hi := by
    intro x
    rw [Int.min_def, Int.max_def]
    split <;> split <;> split <;> omega
   simp only [m]
   refine uC _ (L_b_made _ _) ?_
   unfold okB at c c2
   unfold mkB
   rw [if_pos (by unfold okB; omega), ← h]
   rfl
  ·rw [if_neg c2] at h
   exact uT (by rw [decide_eq_false c2]; rfl) (by rw [← h]; rfl)
 ·rw [if_neg c] at h
  refine loopO_done ?_
  unfold b_Clamp_R1
  exact uT (by decide) (uN (by decide) (uC (decide (okB b.1 b.2.1), ()) rfl (uT (by rw [decide_eq_false c]; rfl) (by rw [← h]; rfl))))
theorem decN_ten (n : Nat) : decN (10 ^ n) = 49 :: List.replicate n 48 := by
 induction n with
 | zero => rw [Nat.pow_zero, decN_one (by omega)]; rfl
 | succ n ih =>
  have h1 : 1 ≤ 10 ^ n := Nat.pow_pos (by omega)
  rw [Nat.pow_succ, decN_step (by omega), Nat.mul_div_cancel _ (by omega), Nat.mul_mod_left, ih, List.replicate_succ']
  rfl
theorem flat48 (n : Nat) : (List.replicate n ([48] : List UInt8)).flatten = List.replicate n 48 := by
 induction n with
 | zero => rfl
 | succ n ih => rw [List.replicate_succ, List.flatten_cons, ih, List.replicate_succ]; rfl
theorem L_p_tenfold {n : Nat} (h : n ≤ 1000) : S_p_tenfold ((n : Int), ()) = some (decN (10 ^ n), ()) := spec_at (enc := fun x : Nat => ((x : Int), ())) n h (fun b hb => Int.ofNat.inj (Prod.mk.inj hb).1)
theorem p_tenfold_law (n : Int) (y) (h : S_p_tenfold (n, ()) = some y) : (p_tenfold_t n).toO = some y := by
 obtain ⟨k, hp, hx, rfl⟩ := spec_some h
 obtain ⟨rfl, -⟩ := Prod.mk.inj hx
 unfold p_tenfold_t
 refine uC (List.replicate k 48, ()) ?_ ?_
 ·unfold S_rept
  rw [if_pos ⟨by simp only; omega, by simp only; omega, by show 1 ≤ 1000; omega⟩]
  simp only [Int.toNat_natCast]
  rw [flat48]
 ·refine uN ?_ ?_
  ·simp only [List.length_replicate]
   show 1 + k ≤ lim
   unfold lim; omega
  ·rw [decN_ten]; rfl
theorem rdW_decN {n : Nat} (h : Fit (n : Int)) : rdW (decN n) = some (n : Int) := by rw [← dec_nat]; exact rdW_dec h
theorem decnk_inj {p q : Nat × Nat} (h : (decN p.1, (p.2 : Int), ()) = (decN q.1, (q.2 : Int), ())) : p = q := by
 obtain ⟨h1, h2⟩ := Prod.mk.inj h
 obtain ⟨h2, -⟩ := Prod.mk.inj h2
 exact Prod.ext (decN_inj h1) (Int.ofNat.inj h2)
theorem L_p_root {n k : Nat} (h1 : Fit (n : Int)) (h2 : 1 ≤ k) (h3 : k ≤ 12) : S_p_root (decN n, (k : Int), ()) = some (decN (iroot k n), decide (iroot k n ^ k = n), 0, ()) := spec_at (enc := fun x : Nat × Nat => (decN x.1, (x.2 : Int), ())) (n, k) ⟨h1, h2, h3⟩ (fun b hb => decnk_inj hb)
theorem p_root_law (a : List UInt8) (k : Int) (y) (h : S_p_root (a, k, ()) = some y) : (p_root_t a k).toO = some y := by
 obtain ⟨⟨n, j⟩, hp, hx, rfl⟩ := spec_some h
 obtain ⟨rfl, hx2⟩ := Prod.mk.inj hx; obtain ⟨rfl, -⟩ := Prod.mk.inj hx2; dsimp only
 obtain ⟨h1, h2, h3⟩ := hp
 simp only at h1 h2 h3
 obtain ⟨s1, s2⟩ := iroot_spec n h2
 have hle := iroot_le (n := n) h2
 have f1 : Fit (iroot j n : Int) := fit_of_le h1 (by simp only [Int.natAbs_natCast]; exact hle)
 have f2 : Fit ((iroot j n ^ j : Nat) : Int) := fit_of_le h1 (by simp only [Int.natAbs_natCast]; exact s1)
 unfold p_root_t
 refine uC (decN (iroot j n), 0, ()) ?_ (uF rfl ?_)
 ·unfold S_w_Root
  dsimp only
  rw [rdW_decN h1]
  dsimp only
  rw [if_neg (by omega), Int.toNat_natCast, Int.natAbs_natCast, wrW_pos f1, dec_nat]
 refine uC (decN (iroot j n ^ j), 0, ()) ?_ (uF rfl ?_)
 ·unfold S_w_Pow
  dsimp only
  rw [rdW_decN f1]
  dsimp only
  rw [if_neg (by omega), Int.toNat_natCast, ← Int.natCast_pow, wrW_pos f2, dec_nat]
 ·rw [toO_ok]
  have : (decN (iroot j n ^ j) == decN n) = decide (iroot j n ^ j = n) := by
   by_cases c : iroot j n ^ j = n
   ·rw [c, decide_eq_true rfl]; simp
   ·rw [decide_eq_false c, beq_eq_false_iff_ne]
    exact fun h => c (decN_inj h)
  rw [this]
theorem L_p_integer {n : Nat} {u : Bool} (h1 : Fit (n : Int)) : S_p_integer (decN n, u, ()) = some (if n > 1000000000000000000 then (0, 6, ()) else ((n : Int) + (if u then 1 else 0), 0, ())) := by
 refine spec_at (enc := fun x : Nat × Bool => (decN x.1, x.2, ())) (n, u) h1 (fun b hb => ?_)
 obtain ⟨e1, e2⟩ := Prod.mk.inj hb
 obtain ⟨e2, -⟩ := Prod.mk.inj e2
 exact Prod.ext (decN_inj e1) e2
theorem p_integer_law (a : List UInt8) (u : Bool) (y) (h : S_p_integer (a, u, ()) = some y) : (p_integer_t a u).toO = some y := by
 obtain ⟨⟨n, v⟩, hp, hx, rfl⟩ := spec_some h
 obtain ⟨rfl, hx2⟩ := Prod.mk.inj hx; obtain ⟨rfl, -⟩ := Prod.mk.inj hx2; dsimp only
 simp only at hp
 unfold p_integer_t
 have hi : S_w_Int (decN n, ()) = some (if inI64 n then ((n : Int), 0, ()) else (0, 6, ())) := by rw [← dec_nat]; exact L_w_Int_dec hp
 by_cases c : inI64 n
 ·rw [if_pos c] at hi
  unfold inI64 at c
  refine uC _ hi (uF rfl ?_)
  by_cases c2 : n > 1000000000000000000
  ·rw [if_pos c2]
   exact uT (decide_eq_true (by dsimp only; omega)) rfl
  ·rw [if_neg c2]
   refine uF (decide_eq_false (by dsimp only; omega)) ?_
   cases u
   ·exact uF rfl (by simp [toO_ok])
   ·refine uT rfl ?_
    rw [toO_ok, w64_id (by dsimp only; omega)]; rfl
 ·rw [if_neg c] at hi
  unfold inI64 at c
  rw [if_pos (by omega)]
  exact uC _ hi (uT rfl rfl)
theorem pe_valid_law (e : Int × Int × Unit) (y) (h : S_pe_valid (e, ()) = some y) : (pe_valid_t e).toO = some y := by
 injection h with h
 subst h
 unfold pe_valid_t
 by_cases h1 : e.1 ≥ 1
 ·refine uT (decide_eq_true h1) ?_
  by_cases h2 : e.1 ≤ 36
  ·refine uT (decide_eq_true h2) ?_
   by_cases h3 : e.2.1 ≥ 1
   ·refine uT (decide_eq_true h3) ?_
    rw [toO_ok]
    congr 2
    exact decide_eq_decide.2 ⟨fun h => ⟨h1, h2, h3, h⟩, fun h => h.2.2.2⟩
   ·refine uF (decide_eq_false h3) ?_
    rw [toO_ok, decide_eq_false (fun h : okE e.1 e.2.1 => h3 h.2.2.1)]
  ·refine uF (decide_eq_false h2) ?_
   rw [toO_ok, decide_eq_false (fun h : okE e.1 e.2.1 => h2 h.2.1)]
 ·refine uF (decide_eq_false h1) ?_
  rw [toO_ok, decide_eq_false (fun h : okE e.1 e.2.1 => h1 h.1)]
end Go.Vs
namespace Go.Vs
open Go Go.Vg
theorem end_rad (p q n : Nat) : (p ≤ q → n ^ p * 10 ^ (12 * q) / 10 ^ (12 * p) = n ^ p * 10 ^ (12 * (q - p)) ∧ n ^ p * 10 ^ (12 * q) = n ^ p * 10 ^ (12 * (q - p)) * 10 ^ (12 * p)) ∧ (q < p → n ^ p * 10 ^ (12 * q) / 10 ^ (12 * p) = n ^ p / 10 ^ (12 * (p - q)) ∧ (10 : Nat) ^ (12 * p) = 10 ^ (12 * (p - q)) * 10 ^ (12 * q)) := by
 constructor
 ·intro h
  have e : (10 : Nat) ^ (12 * q) = 10 ^ (12 * (q - p)) * 10 ^ (12 * p) := by rw [← Nat.pow_add]; congr 1; omega
  have h2 : n ^ p * 10 ^ (12 * q) = n ^ p * 10 ^ (12 * (q - p)) * 10 ^ (12 * p) := by rw [e, Nat.mul_assoc]
  exact ⟨by rw [h2, Nat.mul_div_cancel _ (Nat.pow_pos (by omega))], h2⟩
 ·intro h
  have e : (10 : Nat) ^ (12 * p) = 10 ^ (12 * (p - q)) * 10 ^ (12 * q) := by rw [← Nat.pow_add]; congr 1; omega
  refine ⟨?_, e⟩
  rw [e, ← Nat.div_div_eq_div_mul, Nat.div_div_eq_div_mul, Nat.mul_comm (10 ^ (12 * (p - q))), ← Nat.div_div_eq_div_mul, Nat.mul_div_cancel _ (Nat.pow_pos (by omega))]
theorem fit_pow_lt {n k : Nat} (h : n < 10 ^ k) (hk : k ≤ 600) : Fit (n : Int) := by
 show (decN n).length ≤ 600
 have h2 : (decN n).length ≤ k + 1 := decN_length_le (Nat.lt_of_lt_of_le h (Nat.pow_le_pow_right (by omega) (by omega)))
 rcases Nat.eq_zero_or_pos k with h0 | h0
 ·omega
 ·have := (decN_length_iff h0).2 h
  omega
theorem not_fit {n K : Nat} (hK : K = 600) (h : ¬ Fit (n : Int)) : 10 ^ K ≤ n := by
 rcases Nat.lt_or_ge n (10 ^ K) with h2 | h2
 ·exact absurd (fit_pow_lt h2 (by omega)) h
 ·exact h2
theorem end_big {p q n : Nat} (hq : 1 ≤ q) (hq2 : q ≤ 12) (hp2 : p ≤ 36) (h : ¬ Fit ((n ^ p : Nat) : Int)) : endV p q n > 1000000000000000000 := by
 obtain ⟨K, hK⟩ : ∃ K : Nat, K = 600 := ⟨_, rfl⟩
 have h1 := not_fit hK h
 unfold endV
 obtain ⟨s1, s2⟩ := iroot_spec (n ^ p * 10 ^ (12 * q) / 10 ^ (12 * p)) hq
 generalize iroot q (n ^ p * 10 ^ (12 * q) / 10 ^ (12 * p)) = v at *
 rcases Nat.lt_or_ge 1000000000000000000 v with h2 | h2
 ·exact h2
 ·exfalso
  rw [Nat.div_lt_iff_lt_mul (Nat.pow_pos (by omega))] at s2
  have h3 : (v + 1) ^ q ≤ (10 ^ 19) ^ q := Nat.pow_le_pow_left (by omega) q
  have h4 : (10 ^ 19 : Nat) ^ q * 10 ^ (12 * p) ≤ 10 ^ K * 10 ^ (12 * q) := by
   rw [← Nat.pow_mul, ← Nat.pow_add, ← Nat.pow_add]
   exact Nat.pow_le_pow_right (by omega) (by omega)
  have h5 : (v + 1) ^ q * 10 ^ (12 * p) ≤ (10 ^ 19) ^ q * 10 ^ (12 * p) := Nat.mul_le_mul_right _ h3
  have h6 : 10 ^ K * 10 ^ (12 * q) ≤ n ^ p * 10 ^ (12 * q) := Nat.mul_le_mul_right _ h1
  generalize (v + 1) ^ q * 10 ^ (12 * p) = a1 at *
  generalize (10 ^ 19 : Nat) ^ q * 10 ^ (12 * p) = a2 at *
  generalize 10 ^ K * 10 ^ (12 * q) = a3 at *
  omega
theorem decN_zero_iff (n : Nat) : (decN n == #[48].toList) = decide (n = 0) := by
 by_cases c : n = 0
 ·subst c; rw [decN_one (by omega)]; rfl
 ·rw [decide_eq_false c, beq_eq_false_iff_ne]
  intro h
  have h0 : decN 0 = #[48].toList := by rw [decN_one (by omega)]; rfl
  exact c (decN_inj (h.trans h0.symm))
theorem L_pp_end {p q n : Nat} {u : Bool} (h : okE p q) (hn : n ≤ 1000000000000000000) : S_pp_end ((((p : Int), (q : Int), ()), ()), (n : Int), u, ()) = some (endP p q n u) := by
 refine spec_at (enc := fun x : (Nat × Nat) × Nat × Bool => ((((x.1.1 : Int), (x.1.2 : Int), ()), ()), (x.2.1 : Int), x.2.2, ())) ((p, q), n, u) ⟨h, hn⟩ (fun b hb => ?_)
 obtain ⟨⟨b1, b2⟩, b3, b4⟩ := b
 simp only [Prod.mk.injEq, Int.ofNat.injEq, Int.natCast_inj, and_true] at hb
 obtain ⟨⟨h1, h2⟩, h3, h4⟩ := hb
 rw [h1, h2, h3, h4]
theorem pp_end_law (e : (Int × Int × Unit) × Unit) (n : Int) (u : Bool) (y) (h : S_pp_end (e, n, u, ()) = some y) : (pp_end_t e n u).toO = some y := by
 obtain ⟨⟨⟨p, q⟩, m, b⟩, hp, hx, rfl⟩ := spec_some h
 obtain ⟨rfl, hx2⟩ := Prod.mk.inj hx
 obtain ⟨rfl, hx3⟩ := Prod.mk.inj hx2
 obtain ⟨rfl, -⟩ := Prod.mk.inj hx3
 obtain ⟨⟨p1, p2, q1, q2⟩, hm⟩ := hp
 dsimp only at p1 p2 q1 q2 hm ⊢
 have fm : Fit (m : Int) := fit_small ⟨by omega, by omega⟩
 unfold pp_end_t
 dsimp only
 refine uC (decN m, ()) (by rw [L_w_Of ⟨by omega, by omega⟩, dec_nat]) ?_
 have hpow : S_w_Pow (decN m, (p : Int), ()) = some (wrW ((m ^ p : Nat) : Int)) := by
  unfold S_w_Pow
  dsimp only
  rw [rdW_decN fm]
  dsimp only
  rw [if_neg (by omega), Int.toNat_natCast, ← Int.natCast_pow]
 obtain ⟨r1, r2⟩ := end_rad p q m
 by_cases hf : Fit ((m ^ p : Nat) : Int)
 ·rw [wrW_pos hf, dec_nat] at hpow
  refine uC _ hpow (uF rfl ?_)
  by_cases hpq : p ≤ q
  ·obtain ⟨e1, e2⟩ := r1 hpq
   refine uT sd ?_
   have ew : w64 (12 * w64 ((q : Int) - p)) = ((12 * (q - p) : Nat) : Int) := by rw [w64_id (x := (q : Int) - p) (by omega), w64_id (by omega)]; omega
   refine uC (decN (10 ^ (12 * (q - p))), ()) (by rw [ew]; exact L_p_tenfold (by omega)) ?_
   obtain ⟨K, hK⟩ : ∃ K : Nat, K = 400 := ⟨_, rfl⟩
   have hlt : m ^ p * 10 ^ (12 * (q - p)) < 10 ^ K := by
    have a1 : m ^ p ≤ (10 ^ 18) ^ p := Nat.pow_le_pow_left (by omega) p
    have a2 : (10 ^ 18 : Nat) ^ p * 10 ^ (12 * (q - p)) < 10 ^ K := by
     rw [← Nat.pow_mul, ← Nat.pow_add]
     exact Nat.pow_lt_pow_right (by omega) (by omega)
    exact Nat.lt_of_le_of_lt (Nat.mul_le_mul_right _ a1) a2
   have hfm : Fit ((m ^ p * 10 ^ (12 * (q - p)) : Nat) : Int) := fit_pow_lt hlt (by omega)
   have hft : Fit ((10 ^ (12 * (q - p)) : Nat) : Int) := fit_pow_lt (k := K) (Nat.pow_lt_pow_right (by omega) (by omega)) (by omega)
   have hmul : S_w_Mul (decN (m ^ p), decN (10 ^ (12 * (q - p))), ()) = some (decN (m ^ p * 10 ^ (12 * (q - p))), 0, ()) := by
    unfold S_w_Mul
    dsimp only
    rw [rdW_decN hf, rdW_decN hft]
    dsimp only
    rw [← Int.natCast_mul, wrW_pos hfm, dec_nat]
   refine uC _ hmul (uF rfl ?_)
   refine uC _ (L_p_root hfm (by omega) (by omega)) (uF rfl ?_)
   have hv : iroot q (m ^ p * 10 ^ (12 * (q - p))) = endV p q m := by unfold endV; rw [e1]
   have hfv : Fit (endV p q m : Int) := by rw [← hv]; exact fit_of_le hfm (by simp only [Int.natAbs_natCast]; exact iroot_le (by omega))
   have hex : decide (iroot q (m ^ p * 10 ^ (12 * (q - p))) ^ q = m ^ p * 10 ^ (12 * (q - p))) = decide (endV p q m ^ q * 10 ^ (12 * p) = m ^ p * 10 ^ (12 * q)) := by
    rw [hv, e2]
    exact decide_eq_decide.2 ⟨fun h => by rw [h], fun h => Nat.eq_of_mul_eq_mul_right (Nat.pow_pos (by omega)) h⟩
   unfold endP
   rw [hex, hv]
   dsimp only
   cases u
   ·refine uF rfl (uC _ (L_p_integer hfv) ?_)
    simp only [Bool.false_eq_true, false_and, if_false]
    rfl
   ·refine uT rfl ?_
    by_cases c : endV p q m ^ q * 10 ^ (12 * p) = m ^ p * 10 ^ (12 * q)
    ·refine uT (decide_eq_true c) (uC _ (show S_p_integer (decN (endV p q m), (!#[48].toList == #[48].toList), ()) = some _ from L_p_integer (u := false) hfv) ?_)
     simp only [Bool.false_eq_true, if_false, c, ne_eq, not_true_eq_false, and_false]
     rfl
    ·refine uF (decide_eq_false c) (uC _ (L_p_integer (u := !false) hfv) ?_)
     simp only [Bool.not_false, if_true, c, ne_eq, not_false_eq_true, and_self]
     rfl
  ·obtain ⟨e1, e2⟩ := r2 (by omega)
   refine uF sd ?_
   have ew : w64 (12 * w64 ((p : Int) - q)) = ((12 * (p - q) : Nat) : Int) := by rw [w64_id (x := (p : Int) - q) (by omega), w64_id (by omega)]; omega
   refine uC (decN (10 ^ (12 * (p - q))), ()) (by rw [ew]; exact L_p_tenfold (by omega)) ?_
   obtain ⟨K, hK⟩ : ∃ K : Nat, K = 600 := ⟨_, rfl⟩
   have hft : Fit ((10 ^ (12 * (p - q)) : Nat) : Int) := fit_pow_lt (k := K) (Nat.pow_lt_pow_right (by omega) (by omega)) (by omega)
   have hD : 0 < 10 ^ (12 * (p - q)) := Nat.pow_pos (by omega)
   have hdiv : S_w_Div (decN (m ^ p), decN (10 ^ (12 * (p - q))), ()) = some (decN (m ^ p / 10 ^ (12 * (p - q))), decN (m ^ p % 10 ^ (12 * (p - q))), 0, ()) := by
    unfold S_w_Div
    dsimp only
    rw [rdW_decN hf, rdW_decN hft]
    dsimp only
    rw [if_neg (by omega), ← Int.natCast_ediv, ← Int.natCast_emod, dec_nat, dec_nat]
   refine uC _ hdiv (uF rfl ?_)
   have hfm : Fit ((m ^ p / 10 ^ (12 * (p - q)) : Nat) : Int) := fit_of_le hf (by simp only [Int.natAbs_natCast]; exact Nat.div_le_self _ _)
   refine uC _ (L_p_root hfm (by omega) (by omega)) (uF rfl ?_)
   have hv : iroot q (m ^ p / 10 ^ (12 * (p - q))) = endV p q m := by unfold endV; rw [e1]
   have hfv : Fit (endV p q m : Int) := by rw [← hv]; exact fit_of_le hfm (by simp only [Int.natAbs_natCast]; exact iroot_le (by omega))
   have hex : (endV p q m ^ q = m ^ p / 10 ^ (12 * (p - q)) ∧ m ^ p % 10 ^ (12 * (p - q)) = 0) ↔ endV p q m ^ q * 10 ^ (12 * p) = m ^ p * 10 ^ (12 * q) := by
    rw [e2, ← Nat.mul_assoc]
    have hdm := Nat.mod_add_div (m ^ p) (10 ^ (12 * (p - q)))
    constructor
    ·rintro ⟨h1, h2⟩
     rw [h1]
     rw [h2, Nat.zero_add, Nat.mul_comm] at hdm
     rw [hdm]
    ·intro h
     have h3 := Nat.eq_of_mul_eq_mul_right (Nat.pow_pos (by omega)) h
     constructor
     ·rw [← h3, Nat.mul_div_cancel _ hD]
     ·rw [← h3, Nat.mul_mod_left]
   unfold endP
   rw [hv]
   dsimp only
   cases u
   ·refine uF rfl (uC _ (L_p_integer hfv) ?_)
    simp only [Bool.false_eq_true, false_and, if_false]
    rfl
   ·refine uT rfl ?_
    by_cases c1 : endV p q m ^ q = m ^ p / 10 ^ (12 * (p - q))
    ·refine uT (decide_eq_true c1) ?_
     rw [decN_zero_iff]
     refine uC _ (L_p_integer hfv) ?_
     by_cases c2 : m ^ p % 10 ^ (12 * (p - q)) = 0
     ·have c := hex.1 ⟨c1, c2⟩
      simp only [decide_eq_true c2, Bool.not_true, Bool.false_eq_true, if_false, c, ne_eq, not_true_eq_false, and_false]
      rfl
     ·have c : ¬ _ := fun h => c2 (hex.2 h).2
      simp only [decide_eq_false c2, Bool.not_false, if_true, c, ne_eq, not_false_eq_true, and_self]
      rfl
    ·refine uF (decide_eq_false c1) (uC _ (L_p_integer (u := !false) hfv) ?_)
     have c : ¬ _ := fun h => c1 (hex.2 h).1
     simp only [Bool.not_false, if_true, c, ne_eq, not_false_eq_true, and_self]
     rfl
 ·rw [wrW_neg hf] at hpow
  refine uC _ hpow (uT rfl ?_)
  have := end_big (q := q) (n := m) (by omega) (by omega) (by omega) hf
  unfold endP
  rw [if_pos this]
  rfl
theorem endP_cases (p q n : Nat) (u : Bool) : (endP p q n u).2.1 = 0 ∨ (endP p q n u).2.1 = 6 := by
 unfold endP
 split
 ·right; rfl
 ·left; rfl
theorem p_Power_law (b : BdT) (p q : Int) (y) (h : S_p_Power (b, p, q, ()) = some y) : (p_Power_t b p q).toO = some y := by
 injection h with h
 unfold powB at h
 dsimp only at h
 unfold p_Power_t
 refine uC (if okB b.1 b.2.1 then 0 else 30, ()) rfl ?_
 by_cases c : okB b.1 b.2.1
 ·rw [if_pos c] at h ⊢
  refine uF rfl ?_
  refine uC (decide (okE p q), ()) rfl ?_
  by_cases c2 : okE p q
  ·refine uF (by rw [decide_eq_true c2]; rfl) ?_
   by_cases c3 : b.1 < 0
   ·rw [if_neg (fun h => by have := h.2; omega)] at h
    exact uT (decide_eq_true c3) (by rw [← h]; rfl)
   ·rw [if_pos ⟨c2, by omega⟩] at h
    obtain ⟨k1, k2, k3⟩ := c
    refine uF (decide_eq_false c3) (uV (uV ?_))
    obtain ⟨P, rfl⟩ := Int.eq_ofNat_of_zero_le (show 0 ≤ p by have := c2.1; omega)
    obtain ⟨Q, rfl⟩ := Int.eq_ofNat_of_zero_le (show 0 ≤ q by have := c2.2.2.1; omega)
    obtain ⟨lo, hlo⟩ := Int.eq_ofNat_of_zero_le (show 0 ≤ b.1 by omega)
    obtain ⟨hi, hhi⟩ := Int.eq_ofNat_of_zero_le (show 0 ≤ b.2.1 by omega)
    rw [hlo, hhi] at h ⊢
    simp only [Int.toNat_natCast] at h
    refine uC _ (L_pp_end c2 (by omega)) ?_
    by_cases d1 : (endP P Q lo false).2.1 ≠ 0
    ·rw [if_pos d1] at h
     refine uT (by simpa using d1) ?_
     have : (endP P Q lo false).2.1 = 6 := by rcases endP_cases P Q lo false with e | e <;> omega
     rw [this, ← h]; rfl
    ·rw [if_neg d1] at h
     refine uF (by simpa using d1) ?_
     refine uC _ (L_pp_end c2 (by omega)) ?_
     by_cases d2 : (endP P Q hi true).2.1 ≠ 0
     ·rw [if_pos d2] at h
      refine uT (by simpa using d2) ?_
      have : (endP P Q hi true).2.1 = 6 := by rcases endP_cases P Q hi true with e | e <;> omega
      rw [this, ← h]; rfl
     ·rw [if_neg d2] at h
      refine uF (by simpa using d2) ?_
      unfold mkB at h
      refine uC (mkB 30 (endP P Q lo false).1 (endP P Q hi true).1) rfl ?_
      unfold mkB
      by_cases d3 : okB (endP P Q lo false).1 (endP P Q hi true).1
      ·rw [if_pos d3] at h ⊢
       exact uF rfl (by rw [← h]; rfl)
      ·rw [if_neg d3] at h ⊢
       exact uT rfl (by rw [← h]; rfl)
  ·rw [if_neg (fun h => c2 h.1)] at h
   exact uT (by rw [decide_eq_false c2]; rfl) (by rw [← h]; rfl)
 ·rw [if_neg c] at h ⊢
  exact uT rfl (by rw [← h]; rfl)
end Go.Vs
set_option maxRecDepth 100000
namespace Go.Vs
open Go Go.Vg Go.Proofs
noncomputable section
def c_within_L : LTab := []
def c_within_t (n : Int) (low : Int) (high : Int) : TT (Bool × Unit) :=
 .ite (decide (low ≤ n))
 (.ok ((decide (n ≤ high), ())))
 (.ok ((false, ())))
def c_over_L : LTab := []
def c_over_t (n : Int) (d : Int) : TT ((List UInt8 × List UInt8 × Unit) × Unit) :=
 .call (S_f_Of (n, d, ())) Dd14 fun y =>
 .ok (((y.1.1, y.1.2.1, ()), ()))
def c_integer_L : LTab := []
def c_integer_t (n : Int) : TT ((List UInt8 × List UInt8 × Unit) × Unit) :=
 .call (S_c_over (n, 1, ())) Dd19 fun y =>
 .ok (((y.1.1, y.1.2.1, ()), ()))
def c_clampFrac_L : LTab := []
def c_clampFrac_t (x : List UInt8 × List UInt8 × Unit) : TT ((List UInt8 × List UInt8 × Unit) × Unit) :=
 .call (S_c_integer (0, ())) Dd19 fun y =>
 .call (S_c_integer (1, ())) Dd19 fun y1 =>
 .tt <| .tt <| .tt <| .tt <| .call (S_f_Cmp ((x.1, x.2.1, ()), (y.1.1, y.1.2.1, ()), ())) Dd15 fun y2 =>
 .ite (decide (y2.1 < 0))
 (.ok (((y.1.1, y.1.2.1, ()), ())))
 (.tt <| .tt <| .call (S_f_Cmp ((x.1, x.2.1, ()), (y1.1.1, y1.1.2.1, ()), ())) Dd15 fun y3 =>
 .ite (decide (y3.1 > 0))
 (.ok (((y1.1.1, y1.1.2.1, ()), ())))
 (.ok (((x.1, x.2.1, ()), ()))))
def c_checkTable_L : LTab := [(76, 3, 1024, { tag := 0, ι := (Bool) × Unit, vs := .dat (.s 2) (Ty.bool) <| .nil, ks := [0], kh := [], fresh := 0 }), (76, 58, 4096, { tag := 1, ι := (Int) × Unit, vs := .dat (.s 15) (Ty.int IntKind.i64) <| .nil, ks := [14, 13], kh := [], fresh := 0 })]
def c_checkTable_R2 (table : List Int) (j : Bool × Unit) (i : (Int) × Unit) : TT (((Int) × Unit) ⊕ (Bool × Unit)) :=
 .ite (decide (i.1 < len table))
 (.need (inb i.1 (len table)) <| .call (S_c_within (gi table i.1 0, 0, 65535, ())) Dd1 fun y =>
 .ite (!y.1)
 (.ok (.inr ((false, ()))))
 (.tt <| .lt (w64 (i.1 + 1) : Int) fun z => .triv (Qq z ∧ Qq (len table) ∧ Qq table ∧ True) tv <| .tr <| .ok (.inl ((z, ())))))
 (.ok (.inr ((true, ()))))
def c_checkTable_R1 (table : List Int) (j : (Bool) × Unit) : TT (Bool × Unit) :=
 .loop 1 (.tt <| .triv (Qq (0 : Int) ∧ Qq (len table) ∧ Qq table ∧ True) tv <| .tr <| .ok ((0, ()))) (c_checkTable_R2 table j)
def c_checkTable_t (table : List Int) : TT (Bool × Unit) :=
 .join 0 (ι := (Bool) × Unit) (.ite (decide (len table < 2))
 (.ok (.inr ((false, ()))))
 (.ite (decide (len table > 17))
 (.ok (.inr ((false, ()))))
 (.tt <| .triv (Qq false ∧ Qq table ∧ True) tv <| .tr <| .ok (.inl ((false, ())))))) (c_checkTable_R1 table)
def cp_valid_L : LTab := [(129, 26, 13312, { tag := 0, ι := (Int) × Unit, vs := .dat (.s 17) (Ty.int IntKind.i64) <| .nil, ks := [16, 1], kh := [0], fresh := 0 }), (129, 7, 14336, { tag := 1, ι := Unit, vs := .nil, ks := [1], kh := [0], fresh := 0 }), (129, 124, 22528, { tag := 2, ι := (Int) × (Int) × Unit, vs := .dat (.s 6) (Ty.int IntKind.i64) <| .dat (.s 5) (Ty.int IntKind.i64) <| .nil, ks := [], kh := [0], fresh := 0 })]
def cp_valid_R3 (p : (Int × Int × Int × Int × Int × Int × Unit) × Int × Bool × Unit) (i : Int × Unit) (j : Unit) (i1 : (Int) × (Int) × Unit) : TT (((Int) × (Int) × Unit) ⊕ (((Int) × Unit) ⊕ (Bool × Unit))) :=
 .ite (i1.1 != 0)
 (.need (i1.1 ≠ 0) <| .tt <| .lt (Int.tmod i1.2.1 i1.1 : Int) fun z3 => .triv (Qq i1.1 ∧ Qq z3 ∧ True) tv <| .triv ((Qq (122 : TypeId) ∧ Qq p.1.1 ∧ Qq p.1.2.1 ∧ Qq p.1.2.2.1 ∧ Qq p.1.2.2.2.1 ∧ Qq p.1.2.2.2.2.1 ∧ Qq p.1.2.2.2.2.2.1 ∧ Qq p.2.1 ∧ Qq p.2.2.1 ∧ True) ∧ Qq true ∧ True) tv <| .ok (.inl ((z3, i1.1, ()))))
 (.ok (.inr (.inr ((i1.2.1 == 1, ())))))
def cp_valid_R2 (p : (Int × Int × Int × Int × Int × Int × Unit) × Int × Bool × Unit) (i : Int × Unit) (j : Unit) : TT (((Int) × Unit) ⊕ (Bool × Unit)) :=
 .loop 2 (.tt <| .lt (p.1.2.2.2.2.1 : Int) fun z1 => .lt (p.1.2.2.2.1 : Int) fun z2 => .triv (Qq z2 ∧ Qq z1 ∧ True) tv <| .triv ((Qq (122 : TypeId) ∧ Qq p.1.1 ∧ Qq p.1.2.1 ∧ Qq p.1.2.2.1 ∧ Qq z2 ∧ Qq z1 ∧ Qq p.1.2.2.2.2.2.1 ∧ Qq p.2.1 ∧ Qq p.2.2.1 ∧ True) ∧ Qq true ∧ True) tv <| .ok ((z1, z2, ()))) (cp_valid_R3 p i j)
def cp_valid_R1 (p : (Int × Int × Int × Int × Int × Int × Unit) × Int × Bool × Unit) (i : (Int) × Unit) : TT (((Int) × Unit) ⊕ (Bool × Unit)) :=
 .ite (decide (i.1 < 3))
 (.need (inb i.1 (↑3 : Int)) <| .call (S_c_within (gi [p.1.2.1, p.1.2.2.1, p.1.2.2.2.2.2.1] i.1 0, -100000000, 100000000, ())) Dd1 fun y =>
 .ite (!y.1)
 (.ok (.inr ((false, ()))))
 (.tt <| .lt (w64 (i.1 + 1) : Int) fun z => .triv (Qq z ∧ Qq ([p.1.2.1, p.1.2.2.1, p.1.2.2.2.2.2.1] : List Int) ∧ (Qq 0 ∧ Qq 0 ∧ Qq true) ∧ True) tv <| .triv ((Qq (122 : TypeId) ∧ Qq p.1.1 ∧ Qq p.1.2.1 ∧ Qq p.1.2.2.1 ∧ Qq p.1.2.2.2.1 ∧ Qq p.1.2.2.2.2.1 ∧ Qq p.1.2.2.2.2.2.1 ∧ Qq p.2.1 ∧ Qq p.2.2.1 ∧ True) ∧ Qq true ∧ True) tv <| .ok (.inl ((z, ())))))
 (.join 1 (ι := Unit) (.call (S_c_within (p.1.1, w64 (p.2.1 + 1), 1000000, ())) Dd1 fun y1 =>
 .ite (!y1.1)
 (.ok (.inr (.inr ((false, ())))))
 (.call (S_c_within (p.1.2.2.2.1, 1, 36, ())) Dd1 fun y2 =>
 .ite (!y2.1)
 (.ok (.inr (.inr ((false, ())))))
 (.call (S_c_within (p.1.2.2.2.2.1, 1, 12, ())) Dd1 fun y3 =>
 .ite (!y3.1)
 (.ok (.inr (.inr ((false, ())))))
 (.tt <| .triv ((Qq 0 ∧ Qq 0 ∧ Qq true) ∧ True) tv <| .triv ((Qq (122 : TypeId) ∧ Qq p.1.1 ∧ Qq p.1.2.1 ∧ Qq p.1.2.2.1 ∧ Qq p.1.2.2.2.1 ∧ Qq p.1.2.2.2.2.1 ∧ Qq p.1.2.2.2.2.2.1 ∧ Qq p.2.1 ∧ Qq p.2.2.1 ∧ True) ∧ Qq true ∧ True) tv <| .ok (.inl (())))))) (cp_valid_R2 p i))
def cp_valid_t (p : (Int × Int × Int × Int × Int × Int × Unit) × Int × Bool × Unit) : TT (Bool × Unit) :=
 .loop 0 (.tt <| .triv (Qq (0 : Int) ∧ Qq ([p.1.2.1, p.1.2.2.1, p.1.2.2.2.2.2.1] : List Int) ∧ (Qq 0 ∧ Qq 0 ∧ Qq true) ∧ True) tv <| .triv ((Qq (122 : TypeId) ∧ Qq p.1.1 ∧ Qq p.1.2.1 ∧ Qq p.1.2.2.1 ∧ Qq p.1.2.2.2.1 ∧ Qq p.1.2.2.2.2.1 ∧ Qq p.1.2.2.2.2.2.1 ∧ Qq p.2.1 ∧ Qq p.2.2.1 ∧ True) ∧ Qq true ∧ True) tv <| .ok ((0, ()))) (cp_valid_R1 p)
def c_checkSegments_L : LTab := [(77, 6, 2048, { tag := 0, ι := (Bool) × Unit, vs := .dat (.s 2) (Ty.bool) <| .nil, ks := [1], kh := [0], fresh := 0 }), (128, 14, 14336, { tag := 1, ι := (Int) × (Int) × Unit, vs := .dat (.s 9) (Ty.int IntKind.i64) <| .dat (.s 3) (Ty.int IntKind.i64) <| .nil, ks := [8, 7, 0], kh := [8, 4, 2, 0], fresh := 0 })]
def c_checkSegments_R2 (c : Int × List Int × List (Int × Int × Int × Int × Int × Int × Unit) × Unit) (j : Bool × Unit) (i : (Int) × (Int) × Unit) : TT (((Int) × (Int) × Unit) ⊕ (Bool × Unit)) :=
 .ite (decide (i.1 < len c.2.2.1))
 (.need (inb i.1 (len c.2.2.1)) <| .call (S_cp_valid ((((gi c.2.2.1 i.1 (0, 0, 0, 0, 0, 0, ())).1, (gi c.2.2.1 i.1 (0, 0, 0, 0, 0, 0, ())).2.1, (gi c.2.2.1 i.1 (0, 0, 0, 0, 0, 0, ())).2.2.1, (gi c.2.2.1 i.1 (0, 0, 0, 0, 0, 0, ())).2.2.2.1, (gi c.2.2.1 i.1 (0, 0, 0, 0, 0, 0, ())).2.2.2.2.1, (gi c.2.2.1 i.1 (0, 0, 0, 0, 0, 0, ())).2.2.2.2.2.1, ()), i.2.1, i.1 == 0, ()), ())) Dd1 fun y =>
 .ite (!y.1)
 (.ok (.inr ((false, ()))))
 (.tt <| .lt (w64 (i.1 + 1) : Int) fun z => .lt ((gi c.2.2.1 i.1 (0, 0, 0, 0, 0, 0, ())).1 : Int) fun z1 => .triv (Qq z1 ∧ Qq z ∧ Qq (len c.2.2.1) ∧ Qq c.2.2.1 ∧ (Qq 8 ∧ Qq true) ∧ True) tv <| .triv ((Qq (LoopState.ready : LoopState) ∧ Qq (none : Option Code) ∧ Qq 34 ∧ Qq (#[17] : Array Tmp) ∧ Qq (subC (codeOf Tryz.f77) [1, 0, 1, 1, 1, 0, 1, 0, 0]) ∧ Qq (subC (codeOf Tryz.f77) [1, 0, 1, 1, 1, 0, 1, 0, 1]) ∧ (Qq (128 : FuncId) ∧ True ∧ (Qq 4 ∧ Qq 0 ∧ Qq true) ∧ True) ∧ Qq ((c.1, c.2.1, c.2.2.1, ()) : Int × List Int × List (Int × Int × Int × Int × Int × Int × Unit) × Unit) ∧ (Qq 2 ∧ Qq 0 ∧ Qq true) ∧ Qq j.1 ∧ (Qq 0 ∧ Qq 0 ∧ Qq true) ∧ True) ∧ Qq true ∧ (Qq (42 : TypeId) ∧ Qq c.1 ∧ Qq c.2.1 ∧ Qq c.2.2.1 ∧ True) ∧ Qq true ∧ (Qq (4 : TypeId) ∧ Qq true ∧ True) ∧ Qq true ∧ (Qq (42 : TypeId) ∧ Qq c.1 ∧ Qq c.2.1 ∧ Qq c.2.2.1 ∧ True) ∧ Qq true ∧ True) tv <| .ok (.inl ((z, z1, ())))))
 (.need (inb (w64 (len c.2.2.1 - 1)) (len c.2.2.1)) <| .ok (.inr (((gi c.2.2.1 (w64 (len c.2.2.1 - 1)) (0, 0, 0, 0, 0, 0, ())).1 == 1000000, ()))))
def c_checkSegments_R1 (c : Int × List Int × List (Int × Int × Int × Int × Int × Int × Unit) × Unit) (j : (Bool) × Unit) : TT (Bool × Unit) :=
 .tt <| .tt <| .tt <| .tt <| .loop 1 (.tt <| .triv (Qq (0 : Int) ∧ Qq (0 : Int) ∧ Qq (len c.2.2.1) ∧ Qq c.2.2.1 ∧ (Qq 8 ∧ Qq true) ∧ True) tv <| .triv ((Qq (LoopState.ready : LoopState) ∧ Qq (none : Option Code) ∧ Qq 34 ∧ Qq (#[17] : Array Tmp) ∧ Qq (subC (codeOf Tryz.f77) [1, 0, 1, 1, 1, 0, 1, 0, 0]) ∧ Qq (subC (codeOf Tryz.f77) [1, 0, 1, 1, 1, 0, 1, 0, 1]) ∧ (Qq (128 : FuncId) ∧ True ∧ (Qq 4 ∧ Qq 0 ∧ Qq true) ∧ True) ∧ Qq ((c.1, c.2.1, c.2.2.1, ()) : Int × List Int × List (Int × Int × Int × Int × Int × Int × Unit) × Unit) ∧ (Qq 2 ∧ Qq 0 ∧ Qq true) ∧ Qq j.1 ∧ (Qq 0 ∧ Qq 0 ∧ Qq true) ∧ True) ∧ Qq true ∧ (Qq (42 : TypeId) ∧ Qq c.1 ∧ Qq c.2.1 ∧ Qq c.2.2.1 ∧ True) ∧ Qq true ∧ (Qq (4 : TypeId) ∧ Qq true ∧ True) ∧ Qq true ∧ (Qq (42 : TypeId) ∧ Qq c.1 ∧ Qq c.2.1 ∧ Qq c.2.2.1 ∧ True) ∧ Qq true ∧ True) tv <| .ok ((0, 0, ()))) (c_checkSegments_R2 c j)
def c_checkSegments_t (c : Int × List Int × List (Int × Int × Int × Int × Int × Int × Unit) × Unit) : TT (Bool × Unit) :=
 .join 0 (ι := (Bool) × Unit) (.ite (decide (len c.2.2.1 < 1))
 (.ok (.inr ((false, ()))))
 (.ite (decide (len c.2.2.1 > 4))
 (.ok (.inr ((false, ()))))
 (.tt <| .triv (Qq false ∧ (Qq 0 ∧ Qq 0 ∧ Qq true) ∧ True) tv <| .triv ((Qq (42 : TypeId) ∧ Qq c.1 ∧ Qq c.2.1 ∧ Qq c.2.2.1 ∧ True) ∧ Qq true ∧ True) tv <| .ok (.inl ((false, ())))))) (c_checkSegments_R1 c)
def c_Check_L : LTab := []
def c_Check_t (c : Int × List Int × List (Int × Int × Int × Int × Int × Int × Unit) × Unit) : TT (Int × Unit) :=
 .ite (c.1 == 1)
 (.ite (len c.2.1 == 0)
 (.ite (!len c.2.2.1 == 0)
 (.ok ((90, ())))
 (.ok ((0, ()))))
 (.ok ((90, ()))))
 (.ite (c.1 == 2)
 (.call (S_c_checkTable (c.2.1, ())) Dd1 fun y =>
 .ite (y.1)
 (.ite (!len c.2.2.1 == 0)
 (.ok ((90, ())))
 (.ok ((0, ()))))
 (.ok ((90, ()))))
 (.ite (c.1 == 3)
 (.ite (len c.2.1 == 0)
 (.call (S_c_checkSegments ((c.1, c.2.1, c.2.2.1, ()), ())) Dd1 fun y1 =>
 .ite (!y1.1)
 (.ok ((90, ())))
 (.ok ((0, ()))))
 (.ok ((90, ()))))
 (.ok ((90, ())))))
def c_Trend_L : LTab := [(25, 122, 11264, { tag := 0, ι := (Int) × (Bool) × (Bool) × Unit, vs := .dat (.s 7) (Ty.int IntKind.i64) <| .dat (.s 6) (Ty.bool) <| .dat (.s 5) (Ty.bool) <| .nil, ks := [3, 2, 1], kh := [0], fresh := 0 })]
def c_Trend_R1 (c : Int × List Int × List (Int × Int × Int × Int × Int × Int × Unit) × Unit) (y : Int × Unit) (i : (Int) × (Bool) × (Bool) × Unit) : TT (((Int) × (Bool) × (Bool) × Unit) ⊕ (Int × Int × Unit)) :=
 .ite (decide (i.1 < len c.2.1))
 (.ite (i.2.2.1)
 (.ite (i.2.1)
 (.tt <| .lt (w64 (i.1 + 1) : Int) fun z => .triv (Qq true ∧ Qq true ∧ Qq z ∧ Qq (0 : Int) ∧ Qq (0 : Int) ∧ (Qq 0 ∧ Qq 0 ∧ Qq true) ∧ True) tv <| .triv ((Qq (42 : TypeId) ∧ Qq c.1 ∧ Qq c.2.1 ∧ Qq c.2.2.1 ∧ True) ∧ Qq true ∧ True) tv <| .ok (.inl ((z, true, true, ()))))
 (.need (inb i.1 (len c.2.1)) <| .need (inb (w64 (i.1 - 1)) (len c.2.1)) <| .tt <| .lt (w64 (i.1 + 1) : Int) fun z1 => .lt (decide (gi c.2.1 i.1 0 < gi c.2.1 (w64 (i.1 - 1)) 0) : Bool) fun z2 => .triv (Qq true ∧ Qq z2 ∧ Qq z1 ∧ Qq (0 : Int) ∧ Qq (0 : Int) ∧ (Qq 0 ∧ Qq 0 ∧ Qq true) ∧ True) tv <| .triv ((Qq (42 : TypeId) ∧ Qq c.1 ∧ Qq c.2.1 ∧ Qq c.2.2.1 ∧ True) ∧ Qq true ∧ True) tv <| .ok (.inl ((z1, z2, true, ())))))
 (.need (inb i.1 (len c.2.1)) <| .need (inb (w64 (i.1 - 1)) (len c.2.1)) <| .ite (i.2.1)
 (.tt <| .lt (w64 (i.1 + 1) : Int) fun z3 => .lt (decide (gi c.2.1 i.1 0 > gi c.2.1 (w64 (i.1 - 1)) 0) : Bool) fun z4 => .triv (Qq z4 ∧ Qq true ∧ Qq z3 ∧ Qq (0 : Int) ∧ Qq (0 : Int) ∧ (Qq 0 ∧ Qq 0 ∧ Qq true) ∧ True) tv <| .triv ((Qq (42 : TypeId) ∧ Qq c.1 ∧ Qq c.2.1 ∧ Qq c.2.2.1 ∧ True) ∧ Qq true ∧ True) tv <| .ok (.inl ((z3, true, z4, ()))))
 (.need (inb i.1 (len c.2.1)) <| .need (inb (w64 (i.1 - 1)) (len c.2.1)) <| .tt <| .lt (w64 (i.1 + 1) : Int) fun z5 => .lt (decide (gi c.2.1 i.1 0 < gi c.2.1 (w64 (i.1 - 1)) 0) : Bool) fun z6 => .lt (decide (gi c.2.1 i.1 0 > gi c.2.1 (w64 (i.1 - 1)) 0) : Bool) fun z7 => .triv (Qq z7 ∧ Qq z6 ∧ Qq z5 ∧ Qq (0 : Int) ∧ Qq (0 : Int) ∧ (Qq 0 ∧ Qq 0 ∧ Qq true) ∧ True) tv <| .triv ((Qq (42 : TypeId) ∧ Qq c.1 ∧ Qq c.2.1 ∧ Qq c.2.2.1 ∧ True) ∧ Qq true ∧ True) tv <| .ok (.inl ((z5, z6, z7, ()))))))
 (.ite (c.1 == 3)
 (.need (asT Int 0 ≤ 0 ∧ 0 < len c.2.2.1) <| .ite (decide ((gi c.2.2.1 0 (0, 0, 0, 0, 0, 0, ())).2.1 < 0))
 (.ite (!decide (len c.2.2.1 > 1))
 (.ok (.inr ((-1, 0, ()))))
 (.ok (.inr ((0, 0, ())))))
 (.ite (!decide (len c.2.2.1 > 1))
 (.ok (.inr ((1, 0, ()))))
 (.ite (!decide (len c.2.2.1 > 1))
 (.ok (.inr ((-1, 0, ()))))
 (.ok (.inr ((0, 0, ())))))))
 (.ite (!i.2.1)
 (.ok (.inr ((1, 0, ()))))
 (.ite (!i.2.2.1)
 (.ok (.inr ((-1, 0, ()))))
 (.ok (.inr ((0, 0, ())))))))
def c_Trend_t (c : Int × List Int × List (Int × Int × Int × Int × Int × Int × Unit) × Unit) : TT (Int × Int × Unit) :=
 .call (S_c_Check ((c.1, c.2.1, c.2.2.1, ()), ())) Dd6 fun y =>
 .ite (y.1 != 0)
 (.ok ((0, y.1, ())))
 (.loop 0 (.tt <| .triv (Qq false ∧ Qq false ∧ Qq (1 : Int) ∧ Qq (0 : Int) ∧ Qq (0 : Int) ∧ (Qq 0 ∧ Qq 0 ∧ Qq true) ∧ True) tv <| .triv ((Qq (42 : TypeId) ∧ Qq c.1 ∧ Qq c.2.1 ∧ Qq c.2.2.1 ∧ True) ∧ Qq true ∧ True) tv <| .ok ((1, false, false, ()))) (c_Trend_R1 c y))
end
end Go.Vs
namespace Go.Vs
open Go Go.Vg
theorem c_within_law (n a b : Int) (y) (h : S_c_within (n, a, b, ()) = some y) : (c_within_t n a b).toO = some y := by
 injection h with h
 subst h
 unfold c_within_t
 by_cases c : a ≤ n
 ·refine uT (decide_eq_true c) ?_
  rw [toO_ok]
  congr 2
  exact decide_eq_decide.2 ⟨fun h => ⟨c, h⟩, fun h => h.2⟩
 ·refine uF (decide_eq_false c) ?_
  rw [toO_ok, decide_eq_false (fun h : inR n a b => c h.1)]
theorem L_c_within (n a b : Int) : S_c_within (n, a, b, ()) = some (decide (inR n a b), ()) := rfl
theorem c_over_law (n d : Int) (y) (h : S_c_over (n, d, ()) = some y) : (c_over_t n d).toO = some y := by
 unfold S_c_over at h
 split at h
 ·rename_i hp
  exact uC (ofQ n d) (by unfold S_f_Of; rw [if_pos hp]) h
 ·cases h
theorem L_c_over {n : Int} {d : Nat} (hn : inI64 n) (hd : d ≠ 0) (h2 : d ≤ 9223372036854775807) : S_c_over (n, (d : Int), ()) = some (fx (mkRat n d), ()) := by
 have hd2 : inI64 (d : Int) := ⟨by omega, by omega⟩
 unfold S_c_over
 rw [if_pos ⟨hn, hd2⟩]
 simp only [ofQ_pos hd (fit_small hn) (fit_small hd2)]
theorem c_integer_law (n : Int) (y) (h : S_c_integer (n, ()) = some y) : (c_integer_t n).toO = some y := by
 unfold S_c_integer at h
 split at h
 ·rename_i hp
  exact uC _ (L_c_over (d := 1) hp (by omega) (by omega)) h
 ·cases h
theorem L_c_integer {n : Int} (h : inI64 n) : S_c_integer (n, ()) = some (fx (mkRat n 1), ()) := by unfold S_c_integer; rw [if_pos h]
theorem mkRat_one (n : Int) : mkRat n 1 = (n : Rat) := by rw [Rat.mkRat_eq_div, show ((1 : Nat) : Rat) = 1 from rfl]; grind
theorem fitQ_int {n : Int} (h : inI64 n) : FitQ (mkRat n 1) := fitQ_mk (by omega) (fit_small h) (fit_small ⟨by omega, by omega⟩)
theorem L_f_Cmp {p q : Rat} (hp : FitQ p) (hq : FitQ q) : S_f_Cmp (fx p, fx q, ()) = some (ordQ p q, 0, ()) := by
 unfold S_f_Cmp
 simp only [rdF_fx hp, rdF_fx hq]
theorem ordQ_neg (p q : Rat) : ordQ p q < 0 ↔ p < q := by
 unfold ordQ
 split
 ·simp_all
 ·split <;> simp_all
theorem ordQ_pos (p q : Rat) : ordQ p q > 0 ↔ q < p := by
 unfold ordQ
 split
 ·rename_i h; constructor
  ·intro h2; omega
  ·intro h2; exact absurd h2 (by grind)
 ·split
  ·rename_i h; subst h; simp
  ·rename_i h1 h2
   constructor
   ·intro _; rcases ratTri p q with c | c | c
    ·exact absurd c h1
    ·exact absurd c h2
    ·exact c
   ·intro _; omega
theorem L_c_clampFrac {q : Rat} (h : FitQ q) : S_c_clampFrac (fx q, ()) = some (fx (clampQ q), ()) := spec_at (enc := fun x : Rat => (fx x, ())) q h (fun b hb => fx_inj (Prod.mk.inj hb).1)
theorem c_clampFrac_law (x : FxT) (y) (h : S_c_clampFrac (x, ()) = some y) : (c_clampFrac_t x).toO = some y := by
 obtain ⟨q, hp, hx, rfl⟩ := spec_some h
 obtain ⟨rfl, -⟩ := Prod.mk.inj hx
 have i0 : inI64 0 := ⟨by omega, by omega⟩
 have i1 : inI64 1 := ⟨by omega, by omega⟩
 unfold c_clampFrac_t
 refine uC _ (L_c_integer i0) (uC _ (L_c_integer i1) (uV (uV (uV (uV ?_)))))
 refine uC _ (L_f_Cmp hp (fitQ_int i0)) ?_
 have e0 : mkRat 0 1 = (0 : Rat) := by rw [mkRat_one]; rfl
 have e1 : mkRat 1 1 = (1 : Rat) := by rw [mkRat_one]; rfl
 unfold clampQ
 by_cases c : q < 0
 ·rw [if_pos c]
  refine uT (decide_eq_true ((ordQ_neg _ _).2 (by rw [e0]; exact c))) ?_
  rw [e0]; rfl
 ·rw [if_neg c]
  refine uF (decide_eq_false (fun h => c (by rw [← e0]; exact (ordQ_neg _ _).1 h))) (uV (uV ?_))
  refine uC _ (L_f_Cmp hp (fitQ_int i1)) ?_
  by_cases c2 : q > 1
  ·rw [if_pos c2]
   refine uT (decide_eq_true ((ordQ_pos _ _).2 (by rw [e1]; exact c2))) ?_
   rw [e1]; rfl
  ·rw [if_neg c2]
   exact uF (decide_eq_false (fun h => c2 (by rw [← e1]; exact (ordQ_pos _ _).1 h))) rfl
theorem c_checkTable_law (l : List Int) (y) (h : S_c_checkTable (l, ()) = some y) : (c_checkTable_t l).toO = some y := by
 injection h with h
 subst h
 unfold c_checkTable_t
 dsimp only
 by_cases h1 : l.length < 2
 ·rw [decide_eq_false (fun h : tabOk l => by have := h.1; omega)]
  exact uR _ (uT sd rfl)
 by_cases h2 : l.length > 17
 ·rw [decide_eq_false (fun h : tabOk l => by have := h.2.1; omega)]
  exact uR _ (uF sd (uT sd rfl))
 refine uL (false, ()) (uF sd (uF sd rfl)) ?_
 refine uO (0, ()) rfl ?_
 refine loopO_eq (fun i : Int × Unit => ∃ k : Nat, k ≤ l.length ∧ i = ((k : Int), ()) ∧ ∀ v ∈ l.take k, inR v 0 65535) (fun i => ((l.length : Int) - i.1).toNat) (fun _ => (decide (tabOk l), ())) ?_ _ ⟨0, by omega, rfl, by simp⟩
 rintro i ⟨k, h3, rfl, h4⟩
 simp only [c_checkTable_R2, gi_nat]
 rcases Nat.lt_or_ge k l.length with hk | hk
 ·have e : l.getD k 0 = l[k] := by simp [hk]
  rw [e]
  by_cases c : inR l[k] 0 65535
  ·left
   refine ⟨(((k + 1 : Nat) : Int), ()), ?_, ⟨k + 1, by omega, rfl, ?_⟩, by simp only; omega, (by first | exact True.intro | rfl)⟩
   ·refine uT sd (uN sd (uC _ (L_c_within _ _ _) (uF (by rw [decide_eq_true c]; rfl) ?_)))
    repeat (first | refine uV ?_ | refine uB ?_ | refine uN sd ?_ | refine uT sd ?_ | refine uF sd ?_ | refine uN (by simp) ?_)
    simp (disch := omega) only [toO_ok, w64_id, wu64_id, wu32_id, wu8_id, gi_nat, Nat.zero_add, Int.toNat_natCast, len_eq, List.take_length]
    rfl
   ·intro v hv
    rw [List.take_succ_eq_append_getElem hk] at hv
    rcases List.mem_append.1 hv with hv | hv
    ·exact h4 v hv
    ·rw [List.mem_singleton.1 hv]; exact c
  ·right
   rw [decide_eq_false (fun h : tabOk l => c (h.2.2 _ (List.getElem_mem hk)))]
   exact uT sd (uN sd (uC _ (L_c_within _ _ _) (uT (by rw [decide_eq_false c]; rfl) rfl)))
 ·right
  rw [List.take_of_length_le hk] at h4
  rw [decide_eq_true (show tabOk l from ⟨by omega, by omega, h4⟩)]
  exact uF sd rfl
theorem gcd_tmod {a b : Int} (ha : 0 ≤ a) (hb : 0 < b) : Nat.gcd b.natAbs (Int.tmod a b).natAbs = Nat.gcd a.natAbs b.natAbs := by
 obtain ⟨m, rfl⟩ := Int.eq_ofNat_of_zero_le ha
 obtain ⟨n, rfl⟩ := Int.eq_ofNat_of_zero_le (Int.le_of_lt hb)
 rw [Int.tmod_eq_emod_of_nonneg ha]
 have : ((m : Int) % (n : Int)) = ((m % n : Nat) : Int) := by simp
 rw [this, Int.natAbs_natCast, Int.natAbs_natCast, Int.natAbs_natCast, Nat.gcd_comm n, Nat.gcd_comm m n, Nat.gcd_rec n m]
theorem L_cp_valid {p : PcT} (h : inR p.2.1 0 1000000) : S_cp_valid (p, ()) = some (decide (segOk p.2.1 p.1), ()) := by unfold S_cp_valid; rw [if_pos h]
theorem cp_valid_law (p : PcT) (y) (h : S_cp_valid (p, ()) = some y) : (cp_valid_t p).toO = some y := by
 unfold S_cp_valid at h
 split at h
 case isFalse => cases h
 case isTrue hfrom =>
 injection h with h
 subst h
 obtain ⟨hf0, hf1⟩ := hfrom
 dsimp only at hf0 hf1 ⊢
 obtain ⟨⟨till, mul, add, nu, de, off, u⟩, fr, first, u'⟩ := p
 dsimp only at hf0 hf1 ⊢
 unfold cp_valid_t
 refine uO (0, ()) rfl ?_
 have bad : ∀ b : Bool, b = false → (decide (segOk fr (till, mul, add, nu, de, off, u)), ()) = (false, ()) ∨ segOk fr (till, mul, add, nu, de, off, u) := fun b hb => by
  by_cases c : segOk fr (till, mul, add, nu, de, off, u)
  ·exact Or.inr c
  ·left; rw [decide_eq_false c]
 have step : ∀ (k : Nat) (x : Int), k < 3 → gi [mul, add, off] (k : Int) 0 = x → (inR x (-100000000) 100000000 → (cp_valid_R1 ((till, mul, add, nu, de, off, u), fr, first, u') ((k : Int), ())).toO = some (.inl (((k + 1 : Nat) : Int), ()))) ∧ (¬ inR x (-100000000) 100000000 → (cp_valid_R1 ((till, mul, add, nu, de, off, u), fr, first, u') ((k : Int), ())).toO = some (.inr (false, ()))) := by
  intro k x hk hx
  constructor
  ·intro c
   unfold cp_valid_R1
   dsimp only
   refine uT sd (uN ⟨by omega, by omega⟩ ?_)
   rw [hx]
   refine uC _ (L_c_within _ _ _) (uF (by rw [decide_eq_true c]; rfl) ?_)
   repeat (first | refine uV ?_ | refine uB ?_ | refine uN sd ?_ | refine uT sd ?_ | refine uF sd ?_ | refine uN (by simp) ?_)
   simp (disch := omega) only [toO_ok, w64_id, wu64_id, wu32_id, wu8_id, gi_nat, Nat.zero_add, Int.toNat_natCast, len_eq, List.take_length]
   rfl
  ·intro c
   unfold cp_valid_R1
   dsimp only
   refine uT sd (uN ⟨by omega, by omega⟩ ?_)
   rw [hx]
   exact uC _ (L_c_within _ _ _) (uT (by rw [decide_eq_false c]; rfl) rfl)
 by_cases c1 : inR mul (-100000000) 100000000
 case neg =>
  rw [decide_eq_false (fun h : segOk _ _ => c1 h.1.1)]
  exact loopO_done ((step 0 mul (by omega) rfl).2 c1)
 rw [loopO_next ((step 0 mul (by omega) rfl).1 c1)]
 by_cases c2 : inR add (-100000000) 100000000
 case neg =>
  rw [decide_eq_false (fun h : segOk _ _ => c2 h.1.2.1)]
  exact loopO_done ((step 1 add (by omega) rfl).2 c2)
 rw [loopO_next ((step 1 add (by omega) rfl).1 c2)]
 by_cases c3 : inR off (-100000000) 100000000
 case neg =>
  rw [decide_eq_false (fun h : segOk _ _ => c3 h.1.2.2.1)]
  exact loopO_done ((step 2 off (by omega) rfl).2 c3)
 rw [loopO_next ((step 2 off (by omega) rfl).1 c3)]
 refine loopO_done ?_
 unfold cp_valid_R1
 refine uF rfl ?_
 dsimp only
 have hw : w64 (fr + 1) = fr + 1 := w64_id (by omega)
 by_cases c4 : inR till (fr + 1) 1000000
 case neg =>
  rw [decide_eq_false (fun h : segOk _ _ => c4 h.2)]
  refine uR _ (uC _ (L_c_within _ _ _) (uT (by rw [hw, decide_eq_false c4]; rfl) rfl))
 by_cases c5 : inR nu 1 36
 case neg =>
  rw [decide_eq_false (fun h : segOk _ _ => c5 h.1.2.2.2.1)]
  refine uR _ (uC _ (L_c_within _ _ _) (uF (by rw [hw, decide_eq_true c4]; rfl) (uC _ (L_c_within _ _ _) (uT (by rw [decide_eq_false c5]; rfl) rfl))))
 by_cases c6 : inR de 1 12
 case neg =>
  rw [decide_eq_false (fun h : segOk _ _ => c6 h.1.2.2.2.2.1)]
  refine uR _ (uC _ (L_c_within _ _ _) (uF (by rw [hw, decide_eq_true c4]; rfl) (uC _ (L_c_within _ _ _) (uF (by rw [decide_eq_true c5]; rfl) (uC _ (L_c_within _ _ _) (uT (by rw [decide_eq_false c6]; rfl) rfl))))))
 refine uL () (uC _ (L_c_within _ _ _) (uF (by rw [hw, decide_eq_true c4]; rfl) (uC _ (L_c_within _ _ _) (uF (by rw [decide_eq_true c5]; rfl) (uC _ (L_c_within _ _ _) (uF (by rw [decide_eq_true c6]; rfl) rfl)))))) ?_
 refine uO (de, nu, ()) rfl ?_
 have hd : decide (segOk fr (till, mul, add, nu, de, off, u)) = decide (Nat.gcd nu.natAbs de.natAbs = 1) := decide_eq_decide.2 ⟨fun h => h.1.2.2.2.2.2, fun h => ⟨⟨c1, c2, c3, c5, c6, h⟩, c4⟩⟩
 rw [hd]
 refine loopO_eq (fun i : Int × Int × Unit => 0 ≤ i.1 ∧ 0 ≤ i.2.1 ∧ Nat.gcd i.2.1.natAbs i.1.natAbs = Nat.gcd nu.natAbs de.natAbs) (fun i => i.1.toNat) (fun _ => (.inr (decide (Nat.gcd nu.natAbs de.natAbs = 1), ()) : (Int × Unit) ⊕ (Bool × Unit))) ?_ _ ⟨by show (0 : Int) ≤ de; have := c6.1; omega, by show (0 : Int) ≤ nu; have := c5.1; omega, rfl⟩
 rintro ⟨b, a, u2⟩ ⟨g1, g2, g3⟩
 dsimp only at g1 g2 g3
 unfold cp_valid_R3
 by_cases hb : b = 0
 ·right
  subst hb
  refine uF rfl ?_
  have g4 : a.natAbs = Nat.gcd nu.natAbs de.natAbs := by simpa using g3
  show some (Sum.inr (Sum.inr (a == 1, ()))) = _
  by_cases c : a = 1
  ·rw [decide_eq_true (show Nat.gcd nu.natAbs de.natAbs = 1 by omega), c]; rfl
  ·rw [decide_eq_false (show ¬ Nat.gcd nu.natAbs de.natAbs = 1 by omega), beq_eq_false_iff_ne.2 c]
 ·left
  have hlt : Int.tmod a b < b := by rw [Int.tmod_eq_emod_of_nonneg g2]; exact Int.emod_lt_of_pos _ (by omega)
  have hge : 0 ≤ Int.tmod a b := by rw [Int.tmod_eq_emod_of_nonneg g2]; exact Int.emod_nonneg _ hb
  refine ⟨(Int.tmod a b, b, ()), ?_, ⟨hge, by dsimp only; omega, ?_⟩, by dsimp only; omega, (by first | exact True.intro | rfl)⟩
  ·refine uT (by simpa using hb) (uN hb ?_)
   repeat (first | refine uV ?_ | refine uB ?_ | refine uN sd ?_ | refine uT sd ?_ | refine uF sd ?_ | refine uN (by simp) ?_)
   rfl
  ·dsimp only
   rw [← g3]; exact gcd_tmod g2 (by omega)
end Go.Vs
namespace Go.Vs
open Go Go.Vg
abbrev zs : SegT := (0, 0, 0, 0, 0, 0, ())
theorem segsOk_end {last : Int} : segsOk last [] ↔ last = 1000000 := Iff.rfl
theorem segsOk_cons {last : Int} {s : SegT} {r : List SegT} : segsOk last (s :: r) ↔ segOk last s ∧ segsOk s.1 r := Iff.rfl
theorem c_checkSegments_law (c : CvT) (y) (h : S_c_checkSegments (c, ()) = some y) : (c_checkSegments_t c).toO = some y := by
 injection h with h
 subst h
 obtain ⟨kind, tab, l, u0⟩ := c
 dsimp only
 unfold c_checkSegments_t
 dsimp only
 by_cases h1 : l.length < 1
 ·rw [decide_eq_false (fun h : segLOk l => by have := h.1; omega)]
  exact uR _ (uT sd rfl)
 by_cases h2 : l.length > 4
 ·rw [decide_eq_false (fun h : segLOk l => by have := h.2.1; omega)]
  exact uR _ (uF sd (uT sd rfl))
 refine uL (false, ()) (uF sd (uF sd rfl)) ?_
 refine uO (0, 0, ()) rfl ?_
 have hl : decide (segLOk l) = decide (segsOk 0 l) := decide_eq_decide.2 ⟨fun h => h.2.2, fun h => ⟨by omega, by omega, h⟩⟩
 rw [hl]
 refine loopO_eq (fun i : Int × Int × Unit => ∃ k : Nat, k ≤ l.length ∧ i.1 = (k : Int) ∧ inR i.2.1 0 1000000 ∧ (segsOk 0 l ↔ segsOk i.2.1 (l.drop k)) ∧ (k ≠ 0 → i.2.1 = (l.getD (k - 1) zs).1)) (fun i => ((l.length : Int) - i.1).toNat) (fun _ => (decide (segsOk 0 l), ())) ?_ _ ⟨0, by omega, rfl, ⟨by simp, by simp⟩, by simp, by simp⟩
 rintro ⟨i, last, u⟩ ⟨k, h3, h4, h5, h6, h7⟩
 dsimp only at h4 h5 h6 h7
 subst h4
 simp only [c_checkSegments_R2, gi_nat]
 rcases Nat.lt_or_ge k l.length with hk | hk
 ·have e : l.getD k zs = l[k] := by simp [hk]
  have hv : S_cp_valid ((((l.getD k zs).1, (l.getD k zs).2.1, (l.getD k zs).2.2.1, (l.getD k zs).2.2.2.1, (l.getD k zs).2.2.2.2.1, (l.getD k zs).2.2.2.2.2.1, ()), last, (k : Int) == 0, ()), ()) = some (decide (segOk last l[k]), ()) := by
   rw [L_cp_valid h5, e]
  rw [List.drop_eq_getElem_cons hk, segsOk_cons] at h6
  by_cases c : segOk last l[k]
  ·left
   refine ⟨(((k + 1 : Nat) : Int), l[k].1, ()), ?_, ⟨k + 1, by omega, rfl, ⟨?_, c.2.2⟩, ⟨fun h => (h6.1 h).2, fun h => h6.2 ⟨c, h⟩⟩, fun _ => by rw [Nat.add_sub_cancel, e]⟩, by dsimp only; omega, (by first | exact True.intro | rfl)⟩
   ·refine uT sd (uN sd (uC _ hv (uF (by rw [decide_eq_true c]; rfl) ?_)))
    repeat (first | refine uV ?_ | refine uB ?_ | refine uN sd ?_ | refine uT sd ?_ | refine uF sd ?_ | refine uN (by simp) ?_)
    rw [w64_id (x := (k : Int) + 1) (by omega)]
    show some (Sum.inl (((k + 1 : Nat) : Int), (l.getD k zs).1, ())) = _
    rw [e]
   ·have := h5.1; have := c.2.1; dsimp only; omega
  ·right
   rw [decide_eq_false (fun h => c (h6.1 h).1)]
   exact uT sd (uN sd (uC _ hv (uT (by rw [decide_eq_false c]; rfl) rfl)))
 ·right
  have hkl : k = l.length := by omega
  subst hkl
  rw [List.drop_length, segsOk_end] at h6
  have hw : w64 (len l - 1) = ((l.length - 1 : Nat) : Int) := by rw [len_eq, w64_id (x := (l.length : Int) - 1) (by omega)]; omega
  simp only [hw, gi_nat]
  refine uF sd (uN sd ?_)
  rw [h7 (by omega)] at h6
  show some (Sum.inr ((l.getD (l.length - 1) zs).1 == 1000000, ())) = _
  by_cases c : (l.getD (l.length - 1) zs).1 = 1000000
  ·rw [decide_eq_true (h6.2 c), beq_iff_eq.2 c]
  ·rw [decide_eq_false (fun h => c (h6.1 h)), beq_eq_false_iff_ne.2 c]
theorem nil_iff_len {α : Type} (l : List α) : (len l == 0) = decide (l = []) := by
 cases l with
 | nil => rfl
 | cons a l => rw [decide_eq_false (by simp), beq_eq_false_iff_ne]; simp [len]; omega
theorem c_Check_law (c : CvT) (y) (h : S_c_Check (c, ()) = some y) : (c_Check_t c).toO = some y := by
 injection h with h
 subst h
 obtain ⟨kind, tab, l, u⟩ := c
 unfold c_Check_t
 dsimp only
 simp only [nil_iff_len]
 by_cases k1 : kind = 1
 ·subst k1
  refine uT rfl ?_
  by_cases a1 : tab = []
  ·refine uT (decide_eq_true a1) ?_
   by_cases a2 : l = []
   ·rw [if_pos (show rightC (1, tab, l, u) from Or.inl ⟨rfl, a1, a2⟩)]
    exact uF (by rw [decide_eq_true a2]; rfl) rfl
   ·rw [if_neg (fun h => by rcases h with h | h | h; exact a2 h.2.2; exact absurd h.1 (by dsimp only; decide); exact absurd h.1 (by dsimp only; decide))]
    exact uT (by rw [decide_eq_false a2]; rfl) rfl
  ·rw [if_neg (fun h => by rcases h with h | h | h; exact a1 h.2.1; exact absurd h.1 (by dsimp only; decide); exact absurd h.1 (by dsimp only; decide))]
   exact uF (decide_eq_false a1) rfl
 refine uF (beq_eq_false_iff_ne.2 k1) ?_
 by_cases k2 : kind = 2
 ·subst k2
  refine uT rfl (uC (decide (tabOk tab), ()) rfl ?_)
  by_cases a1 : tabOk tab
  ·refine uT (decide_eq_true a1) ?_
   by_cases a2 : l = []
   ·rw [if_pos (show rightC (2, tab, l, u) from Or.inr (Or.inl ⟨rfl, a1, a2⟩))]
    exact uF (by rw [decide_eq_true a2]; rfl) rfl
   ·rw [if_neg (fun h => by rcases h with h | h | h; exact absurd h.1 (by dsimp only; decide); exact a2 h.2.2; exact absurd h.1 (by dsimp only; decide))]
    exact uT (by rw [decide_eq_false a2]; rfl) rfl
  ·rw [if_neg (fun h => by rcases h with h | h | h; exact absurd h.1 (by dsimp only; decide); exact a1 h.2.1; exact absurd h.1 (by dsimp only; decide))]
   exact uF (decide_eq_false a1) rfl
 refine uF (beq_eq_false_iff_ne.2 k2) ?_
 by_cases k3 : kind = 3
 ·subst k3
  refine uT rfl ?_
  by_cases a1 : tab = []
  ·refine uT (decide_eq_true a1) (uC (decide (segLOk l), ()) rfl ?_)
   by_cases a2 : segLOk l
   ·rw [if_pos (show rightC (3, tab, l, u) from Or.inr (Or.inr ⟨rfl, a1, a2⟩))]
    exact uF (by rw [decide_eq_true a2]; rfl) rfl
   ·rw [if_neg (fun h => by rcases h with h | h | h; exact absurd h.1 (by dsimp only; decide); exact absurd h.1 (by dsimp only; decide); exact a2 h.2.2)]
    exact uT (by rw [decide_eq_false a2]; rfl) rfl
  ·rw [if_neg (fun h => by rcases h with h | h | h; exact absurd h.1 (by dsimp only; decide); exact absurd h.1 (by dsimp only; decide); exact a1 h.2.1)]
   exact uF (decide_eq_false a1) rfl
 ·rw [if_neg (fun h => by rcases h with h | h | h; exact k1 h.1; exact k2 h.1; exact k3 h.1)]
  exact uF (beq_eq_false_iff_ne.2 k3) rfl
theorem L_c_Check (c : CvT) : S_c_Check (c, ()) = some (if rightC c then 0 else 90, ()) := rfl
end Go.Vs
