/-
  Trees of what the functions compute, and their laws. Own work; no condition.
-/
import Derived.Test.YtlmjbmgabddkiaaGreatDoorClL1
import Derived.Test.YtlmjbmgabddkiaaGreatDoorProg
set_option linter.unusedVariables false
set_option linter.unusedSimpArgs false
set_option maxRecDepth 100000
namespace Go.Vs
open Go Go.Vg Go.Proofs
noncomputable section
def aDv : LTab := [(137, 7, 2048, ⟨0, (Int) × Unit, .dat (.s 3) vG <| .nil, [2, 0], [], 0⟩), (137, 31, 7168, ⟨1, (Bool) × Unit, .dat (.s 2) (Ty.bool) <| .nil, [3, 0], [], 0⟩), (137, 506, 9216, ⟨2, (Int) × Unit, .dat (.s 5) vG <| .nil, [3, 0], [], 0⟩)]
def apV (a : List UInt8) (j : Int × Unit) (j1 : Bool × Unit) (i : (Int) × Unit) : TT (ua ⊕ ud) :=
 .ite (decide (i.1 < len a))
 (.need (inb i.1 (len a)) <| .ite (decide ((↑(UInt8.toNat (gi a i.1 0)) : Int) < 48))
 (.ok (.inr ((false, ()))))
 (.need (inb i.1 (len a)) <| .ite (decide ((↑(UInt8.toNat (gi a i.1 0)) : Int) > 57))
 (.ok (.inr ((false, ()))))
 (.tt <| .lt (w64 (i.1 + 1) : Int) fun z => .wZ (vq z j.1 a) <| .tr <| .ok (.inl ((z, ()))))))
 (.need (inb j.1 (len a)) <| .ite ((↑(UInt8.toNat (gi a j.1 0)) : Int) != 48)
 (.ok (.inr ((true, ()))))
 (.ok (.inr ((len a == 1, ())))))
def aAM (a : List UInt8) (j : Int × Unit) (j1 : (Bool) × Unit) : TT ud :=
 .loop 2 (.tt <| .wZ (vq j.1 j.1 a) <| .tr <| .ok ((j.1, ()))) (apV a j j1)
def apW (a : List UInt8) (j : (Int) × Unit) : TT ud :=
 .join 1 (ι := (Bool) × Unit) (.ite (decide (w64 (len a - j.1) < 1))
 (.ok (.inr ((false, ()))))
 (.ite (decide (w64 (len a - j.1) > 600))
 (.ok (.inr ((false, ()))))
 (.tt <| .wZ (vq false j.1 a) <| .tr <| .ok (.inl ((false, ())))))) (aAM a j)
def amK (a : List UInt8) : TT ud :=
 .join 0 (ι := (Int) × Unit) (.ite (decide (len a > 0))
 (.need (asT Int 0 ≤ 0 ∧ 0 < len a) <| .ite ((↑(UInt8.toNat (gi a 0 0)) : Int) == 45)
 (.tt <| .wZ (vq (1 : Int) false a) <| .tr <| .ok (.inl ((1, ()))))
 (.tt <| .wZ (vq (0 : Int) false a) <| .tr <| .ok (.inl ((0, ())))))
 (.tt <| .wZ (vq (0 : Int) false a) <| .tr <| .ok (.inl ((0, ()))))) (apW a)
def aLS : LTab := [(138, 7, 2049, ⟨0, (Int) × Unit, .dat (.s 3) vG <| .nil, [2, 0], [0], 0⟩), (138, 250, 6146, ⟨1, (Int) × Bool × (List Int) × Unit, .dat (.s 5) vG <| .appN (.s 4) 6 3 vG <| .nil, [3, 2, 0], [0], 1⟩), (138, 64074, 16386, ⟨2, (Int) × (Int) × Unit, .dat (.s 7) vG <| .dat (.s 6) vG <| .nil, [21, 20, 19, 18, 15, 14, 13, 4, 5, 3, 2, 0], [0], 0⟩), (138, 64074, 16385, ⟨3, (Int) × (Int) × Unit, .dat (.s 7) vG <| .dat (.s 6) vG <| .nil, [21, 20, 19, 18, 15, 14, 13, 4, 5, 3, 2, 0], [6, 0], 0⟩)]
def avT (a : List UInt8) (j : Int × Unit) (i : Int × Bool × List Int × Unit) (i1 : (Int) × (Int) × Unit) : TT (vQ ⊕ (vW ⊕ uc)) :=
 .ite (decide (i1.1 < i.1))
 (.need (inb i1.1 (len a)) <| .tt <| .lt (w64 (i1.1 + 1) : Int) fun z1 => .lt (w64 (w64 (i1.2.1 * 10) + w64 (wu8 ((↑(UInt8.toNat (gi a i1.1 0)) : Int) - 48))) : Int) fun z2 => .wZ (vA z2 z1 (if j.1 > w64 (i.1 - 4) then j.1 else w64 (i.1 - 4) : Int) j.1 (w64 (i.1 - 4)) i.1 (decide (i.1 > j.1)) j.1 <| vj i.1 <| True ∧ (vz i.1 j.1 <| vO ∧ vk a)) <| .wZ ux <| .ok (.inl ((z1, z2, ()))))
 (.need (1 * 8 ≤ 140737488355328) <| .tt <| .lt (w64 (i.1 - 4) : Int) fun z3 => .lt ([i1.2.1] : List Int) fun z4 => .wZ ((vu 6 0 1 true) ∧ (vz z3 j.1 <| vO ∧ vk a)) <| .wZ (wY (vt 3 z4) <| wY vL True) <| .ok (.inr (.inl ((z3, false, z4, ())))))
def avS (a : List UInt8) (j : Int × Unit) (i : Int × Bool × List Int × Unit) (i2 : (Int) × (Int) × Unit) : TT (vQ ⊕ (vW ⊕ uc)) :=
 .ite (decide (i2.1 < i.1))
 (.need (inb i2.1 (len a)) <| .tt <| .lt (w64 (i2.1 + 1) : Int) fun z6 => .lt (w64 (w64 (i2.2.1 * 10) + w64 (wu8 ((↑(UInt8.toNat (gi a i2.1 0)) : Int) - 48))) : Int) fun z7 => .wZ (vA z7 z6 (if j.1 > w64 (i.1 - 4) then j.1 else w64 (i.1 - 4) : Int) j.1 (w64 (i.1 - 4)) i.1 (decide (i.1 > j.1)) j.1 <| vj i.1 <| (vu 6 0 (List.length i.2.2.1) true) ∧ (vz i.1 j.1 <| vO ∧ vk a)) <| .wZ (wY (vt 3 i.2.2.1) <| wY vL True) <| .ok (.inl ((z6, z7, ()))))
 (.need ((List.length i.2.2.1 + 1) * 8 ≤ 140737488355328) <| .tt <| .lt (w64 (i.1 - 4) : Int) fun z8 => .lt (List.take (List.length i.2.2.1) i.2.2.1 ++ [i2.2.1] : List Int) fun z9 => .need ((((6) = (6)) ∧ (((0) = (0)) ∧ ((List.length i.2.2.1 + 1 = List.length z9) ∧ ((true) = (true))))) ∧ ((z8 : Int) = z8) ∧ ((j.1 : Int) = j.1) ∧ (((0) = (0)) ∧ (((0) = (0)) ∧ ((true) = (true)))) ∧ ((a) = (a)) ∧ True) <| .wZ (wY (vt 3 z9) <| wY vL True) <| .ok (.inr (.inl ((z8, false, z9, ())))))
def ak7 (a : List UInt8) (j : Int × Unit) (i : (Int) × Bool × (List Int) × Unit) : TT (vW ⊕ uc) :=
 .ite (i.2.1)
 (.ite (decide (i.1 > j.1))
 (.loop 2 (.tt <| .lt (if j.1 > w64 (i.1 - 4) then j.1 else w64 (i.1 - 4) : Int) fun z => .wZ (vA (0 : Int) z z j.1 (w64 (i.1 - 4)) i.1 (decide (i.1 > j.1)) j.1 <| vj i.1 <| True ∧ (vz i.1 j.1 <| vO ∧ vk a)) <| .wZ ux <| .ok ((z, 0, ()))) (avT a j i))
 (.call (aa7 (j.1 == 1, [], ())) aiW fun y =>
 .ok (.inr (((y.1.1, y.1.2.1, ()), ())))))
 (.ite (decide (i.1 > j.1))
 (.loop 3 (.tt <| .lt (if j.1 > w64 (i.1 - 4) then j.1 else w64 (i.1 - 4) : Int) fun z5 => .wZ (vA (0 : Int) z5 z5 j.1 (w64 (i.1 - 4)) i.1 (decide (i.1 > j.1)) j.1 <| vj i.1 <| (vu 6 0 (List.length i.2.2.1) true) ∧ (vz i.1 j.1 <| vO ∧ vk a)) <| .wZ (wY (vt 3 i.2.2.1) <| wY vL True) <| .ok ((z5, 0, ()))) (avS a j i))
 (.call (aa7 (j.1 == 1, List.take (List.length i.2.2.1) i.2.2.1, ())) aiW fun y1 =>
 .ok (.inr (((y1.1.1, y1.1.2.1, ()), ())))))
def aJa (a : List UInt8) (j : (Int) × Unit) : TT uc :=
 .loop 1 (.tt <| .wZ (True ∧ (vz (len a) j.1 <| vO ∧ vk a)) <| .wZ ux <| .ok ((len a, true, [], ()))) (ak7 a j)
def aAO (a : List UInt8) : TT uc :=
 .join 0 (ι := (Int) × Unit) (.need (asT Int 0 ≤ 0 ∧ 0 < len a) <| .ite ((↑(UInt8.toNat (gi a 0 0)) : Int) == 45)
 (.tt <| .wZ (vj (1 : Int) <| vO ∧ vk a) <| .wZ ux <| .ok (.inl ((1, ()))))
 (.tt <| .wZ (vj (0 : Int) <| vO ∧ vk a) <| .wZ ux <| .ok (.inl ((0, ()))))) (aJa a)
def aDr : LTab := [(146, 2042, 45058, ⟨0, (Int) × (List Int) × (List Int) × Unit, .dat (.s 12) vG <| .dat (.s 11) uy <| .row 29 vG <| .nil, [10, 9, 8, 5, 4, 0, 1], [29], 0⟩), (146, 1045658, 60418, ⟨1, (Int) × (Int) × Unit, .dat (.s 14) vG <| .dat (.s 13) vG <| .nil, [83, 82, 11, 81, 80, 79, 77, 76, 75, 74, 71, 70, 12, 10, 9, 8, 5, 4, 0, 1], [29], 0⟩), (146, 2091324, 74754, ⟨2, (Int) × (Int) × Unit, .dat (.s 16) vG <| .dat (.s 15) vG <| .nil, [109, 108, 107, 106, 105, 104, 103, 102, 87, 86, 85, 84, 13, 14, 83, 82, 11, 81, 80, 79, 77, 76, 75, 74, 71, 70, 12, 10, 9, 8, 5, 4, 0, 1], [29], 0⟩)]
def apP (a : List Int) (b : List Int) (i : Int × List Int × List Int × Unit) (y2 : List Int × Unit) (i1 : Int × Int × Unit) (i2 : (Int) × (Int) × Unit) : TT (vQ ⊕ (vQ ⊕ vJ)) :=
 .ite (decide (w64 (i2.1 - i2.2.1) > 1))
 (.triv (asT Int 2 ≠ 0) ze <| .call (abH (b, [w64 (Int.tdiv (w64 (i2.2.1 + i2.1)) 2)], ())) aAm fun y3 =>
 .call (acE (y3.1, ())) aAm fun y4 =>
 .call (aeI (y4.1, y2.1, ())) Dd6 fun y5 =>
 .ite (decide (y5.1 ≤ 0))
 (.tt <| .lt (w64 (Int.tdiv (w64 (i2.2.1 + i2.1)) 2) : Int) fun z10 => .wZ (vA z10 i2.1 (w64 (w64 (Int.tdiv i1.2.1 (w64 (w64 (gi b (w64 (len b - 1)) 0 * 10000) + gi b (w64 (w64 (len b - 1) - 1)) 0))) + 1) : Int) (w64 (Int.tdiv i1.2.1 (w64 (w64 (gi b (w64 (len b - 1)) 0 * 10000) + gi b (w64 (w64 (len b - 1) - 1)) 0))) : Int) (w64 (w64 (gi b (w64 (len b - 1)) 0 * 10000) + gi b (w64 (w64 (len b - 1) - 1)) 0) : Int) i1.2.1 (w64 (Int.tdiv i1.2.1 (w64 (w64 (w64 (gi b (w64 (len b - 1)) 0 * 10000) + gi b (w64 (w64 (len b - 1) - 1)) 0) + 1))) : Int) (w64 (w64 (w64 (gi b (w64 (len b - 1)) 0 * 10000) + gi b (w64 (w64 (len b - 1) - 1)) 0) + 1) : Int) <| vA (w64 (w64 (gi b (w64 (len b - 1)) 0 * 10000) + gi b (w64 (w64 (len b - 1) - 1)) 0) : Int) i1.2.1 (decide (i1.1 ≥ w64 (w64 (len b - 1) - 1))) (w64 (w64 (len b - 1) - 1)) (w64 (len b - 1)) i1.1 i1.2.1 i1.1 <| vA (w64 (w64 (len b - 1) + 1)) (w64 (len b - 1)) y2.1 y2.1 (List.take (1 + List.length i.2.1) ([gi a i.1 0] ++ i.2.1)) i.2.1 (gi a i.1 0) (gi a i.1 0) <| vw i.1 a (decide (i.1 ≥ 0)) i.1 i.1 <| (vu 29 0 (Int.toNat (w64 (len a - w64 (len b - 1)))) true) ∧ (vz (w64 (w64 (gi b (w64 (len b - 1)) 0 * 10000) + gi b (w64 (w64 (len b - 1) - 1)) 0) : Int) (w64 (len b - 1)) <| True ∧ True ∧ vB a b)) <| .wZ (wY (vt 3 i.2.2.1) True) <| .ok (.inl ((i2.1, z10, ()))))
 (.tt <| .lt (w64 (Int.tdiv (w64 (i2.2.1 + i2.1)) 2) : Int) fun z11 => .lt (i2.2.1 : Int) fun z12 => .wZ (vA z12 z11 (w64 (w64 (Int.tdiv i1.2.1 (w64 (w64 (gi b (w64 (len b - 1)) 0 * 10000) + gi b (w64 (w64 (len b - 1) - 1)) 0))) + 1) : Int) (w64 (Int.tdiv i1.2.1 (w64 (w64 (gi b (w64 (len b - 1)) 0 * 10000) + gi b (w64 (w64 (len b - 1) - 1)) 0))) : Int) (w64 (w64 (gi b (w64 (len b - 1)) 0 * 10000) + gi b (w64 (w64 (len b - 1) - 1)) 0) : Int) i1.2.1 (w64 (Int.tdiv i1.2.1 (w64 (w64 (w64 (gi b (w64 (len b - 1)) 0 * 10000) + gi b (w64 (w64 (len b - 1) - 1)) 0) + 1))) : Int) (w64 (w64 (w64 (gi b (w64 (len b - 1)) 0 * 10000) + gi b (w64 (w64 (len b - 1) - 1)) 0) + 1) : Int) <| vA (w64 (w64 (gi b (w64 (len b - 1)) 0 * 10000) + gi b (w64 (w64 (len b - 1) - 1)) 0) : Int) i1.2.1 (decide (i1.1 ≥ w64 (w64 (len b - 1) - 1))) (w64 (w64 (len b - 1) - 1)) (w64 (len b - 1)) i1.1 i1.2.1 i1.1 <| vA (w64 (w64 (len b - 1) + 1)) (w64 (len b - 1)) y2.1 y2.1 (List.take (1 + List.length i.2.1) ([gi a i.1 0] ++ i.2.1)) i.2.1 (gi a i.1 0) (gi a i.1 0) <| vw i.1 a (decide (i.1 ≥ 0)) i.1 i.1 <| (vu 29 0 (Int.toNat (w64 (len a - w64 (len b - 1)))) true) ∧ (vz (w64 (w64 (gi b (w64 (len b - 1)) 0 * 10000) + gi b (w64 (w64 (len b - 1) - 1)) 0) : Int) (w64 (len b - 1)) <| True ∧ True ∧ vB a b)) <| .wZ (wY (vt 3 i.2.2.1) True) <| .ok (.inl ((z11, z12, ())))))
 (.need (inb i.1 (↑(Int.toNat (w64 (len a - w64 (len b - 1)))) : Int)) <| .call (abH (b, [i2.2.1], ())) aAm fun y6 =>
 .call (aa3 (y2.1, y6.1, ())) aAm fun y7 =>
 .tt <| .lt (w64 (i.1 - 1) : Int) fun z13 => .lt (List.set i.2.2.1 (0 + Int.toNat i.1) i2.2.1 : List Int) fun z14 => .wZ (vz y7.1 z13 <| (vu 29 0 (Int.toNat (w64 (len a - w64 (len b - 1)))) true) ∧ (vz (w64 (w64 (gi b (w64 (len b - 1)) 0 * 10000) + gi b (w64 (w64 (len b - 1) - 1)) 0) : Int) (w64 (len b - 1)) <| True ∧ True ∧ vB a b)) <| .wZ (wY (vt 3 z14) True) <| .ok (.inr (.inr (.inl ((z13, y7.1, z14, ()))))))
def adU (a : List Int) (b : List Int) (i : Int × List Int × List Int × Unit) (y2 : List Int × Unit) (i1 : (Int) × (Int) × Unit) : TT (vQ ⊕ vJ) :=
 .ite (decide (i1.1 ≥ w64 (w64 (len b - 1) - 1)))
 (.ite (decide (i1.1 < len y2.1))
 (.need (inb i1.1 (len y2.1)) <| .tt <| .lt (w64 (i1.1 - 1) : Int) fun z4 => .lt (w64 (w64 (i1.2.1 * 10000) + gi y2.1 i1.1 0) : Int) fun z5 => .wZ (vA z5 z4 (w64 (w64 (len b - 1) + 1)) (w64 (len b - 1)) y2.1 y2.1 (List.take (1 + List.length i.2.1) ([gi a i.1 0] ++ i.2.1)) i.2.1 <| vC (gi a i.1 0) (gi a i.1 0) i.1 a (decide (i.1 ≥ 0)) i.1 i.1 <| (vu 29 0 (Int.toNat (w64 (len a - w64 (len b - 1)))) true) ∧ (vz (w64 (w64 (gi b (w64 (len b - 1)) 0 * 10000) + gi b (w64 (w64 (len b - 1) - 1)) 0) : Int) (w64 (len b - 1)) <| True ∧ True ∧ vB a b)) <| .wZ (wY (vt 3 i.2.2.1) True) <| .ok (.inl ((z4, z5, ()))))
 (.tt <| .lt (w64 (i1.1 - 1) : Int) fun z6 => .lt (w64 (i1.2.1 * 10000) : Int) fun z7 => .wZ (vA z7 z6 (w64 (w64 (len b - 1) + 1)) (w64 (len b - 1)) y2.1 y2.1 (List.take (1 + List.length i.2.1) ([gi a i.1 0] ++ i.2.1)) i.2.1 <| vC (gi a i.1 0) (gi a i.1 0) i.1 a (decide (i.1 ≥ 0)) i.1 i.1 <| (vu 29 0 (Int.toNat (w64 (len a - w64 (len b - 1)))) true) ∧ (vz (w64 (w64 (gi b (w64 (len b - 1)) 0 * 10000) + gi b (w64 (w64 (len b - 1) - 1)) 0) : Int) (w64 (len b - 1)) <| True ∧ True ∧ vB a b)) <| .wZ (wY (vt 3 i.2.2.1) True) <| .ok (.inl ((z6, z7, ())))))
 (.need (w64 (w64 (w64 (gi b (w64 (len b - 1)) 0 * 10000) + gi b (w64 (w64 (len b - 1) - 1)) 0) + 1) ≠ 0) <| .need (w64 (w64 (gi b (w64 (len b - 1)) 0 * 10000) + gi b (w64 (w64 (len b - 1) - 1)) 0) ≠ 0) <| .loop 2 (.tt <| .lt (w64 (w64 (Int.tdiv i1.2.1 (w64 (w64 (gi b (w64 (len b - 1)) 0 * 10000) + gi b (w64 (w64 (len b - 1) - 1)) 0))) + 1) : Int) fun z8 => .lt (w64 (Int.tdiv i1.2.1 (w64 (w64 (w64 (gi b (w64 (len b - 1)) 0 * 10000) + gi b (w64 (w64 (len b - 1) - 1)) 0) + 1))) : Int) fun z9 => .wZ (vA z9 z8 z8 (w64 (Int.tdiv i1.2.1 (w64 (w64 (gi b (w64 (len b - 1)) 0 * 10000) + gi b (w64 (w64 (len b - 1) - 1)) 0))) : Int) (w64 (w64 (gi b (w64 (len b - 1)) 0 * 10000) + gi b (w64 (w64 (len b - 1) - 1)) 0) : Int) i1.2.1 z9 (w64 (w64 (w64 (gi b (w64 (len b - 1)) 0 * 10000) + gi b (w64 (w64 (len b - 1) - 1)) 0) + 1) : Int) <| vA (w64 (w64 (gi b (w64 (len b - 1)) 0 * 10000) + gi b (w64 (w64 (len b - 1) - 1)) 0) : Int) i1.2.1 (decide (i1.1 ≥ w64 (w64 (len b - 1) - 1))) (w64 (w64 (len b - 1) - 1)) (w64 (len b - 1)) i1.1 i1.2.1 i1.1 <| vA (w64 (w64 (len b - 1) + 1)) (w64 (len b - 1)) y2.1 y2.1 (List.take (1 + List.length i.2.1) ([gi a i.1 0] ++ i.2.1)) i.2.1 (gi a i.1 0) (gi a i.1 0) <| vw i.1 a (decide (i.1 ≥ 0)) i.1 i.1 <| (vu 29 0 (Int.toNat (w64 (len a - w64 (len b - 1)))) true) ∧ (vz (w64 (w64 (gi b (w64 (len b - 1)) 0 * 10000) + gi b (w64 (w64 (len b - 1) - 1)) 0) : Int) (w64 (len b - 1)) <| True ∧ True ∧ vB a b)) <| .wZ (wY (vt 3 i.2.2.1) True) <| .ok ((z8, z9, ()))) (apP a b i y2 i1))
def aj6 (a : List Int) (b : List Int) (i : (Int) × (List Int) × (List Int) × Unit) : TT vJ :=
 .ite (decide (i.1 ≥ 0))
 (.need (inb i.1 (len a)) <| .need ((1 + List.length i.2.1) * 8 ≤ 140737488355328) <| .call (acE (List.take (1 + List.length i.2.1) ([gi a i.1 0] ++ i.2.1), ())) aAm fun y2 =>
 .loop 1 (.tt <| .lt (w64 (w64 (len b - 1) + 1) : Int) fun z3 => .wZ (vA (0 : Int) z3 z3 (w64 (len b - 1)) y2.1 y2.1 (List.take (1 + List.length i.2.1) ([gi a i.1 0] ++ i.2.1)) i.2.1 <| vC (gi a i.1 0) (gi a i.1 0) i.1 a (decide (i.1 ≥ 0)) i.1 i.1 <| (vu 29 0 (Int.toNat (w64 (len a - w64 (len b - 1)))) true) ∧ (vz (w64 (w64 (gi b (w64 (len b - 1)) 0 * 10000) + gi b (w64 (w64 (len b - 1) - 1)) 0) : Int) (w64 (len b - 1)) <| True ∧ True ∧ vB a b)) <| .wZ (wY (vt 3 i.2.2.1) True) <| .ok ((z3, 0, ()))) (adU a b i y2))
 (.call (acE (List.take (Int.toNat (w64 (len a - w64 (len b - 1)))) i.2.2.1, ())) aAm fun y8 =>
 .ok (.inr ((y8.1, i.2.1, ()))))
def amF (a : List Int) (b : List Int) : TT (List Int × List Int × Unit) :=
 .ite (len b == 1)
 (.need (asT Int 0 ≤ 0 ∧ 0 < len b) <| .call (alX (a, gi b 0 0, ())) aPt fun y =>
 .call (acE ([y.2.1], ())) aAm fun y1 =>
 .ok ((y.1, y1.1, ())))
 (.ite (decide (len a ≤ w64 (len b - 1)))
 (.need ((0 + List.length a) * 8 ≤ 140737488355328) <| .ok (([], List.take (0 + List.length a) (List.take 0 [] ++ a), ())))
 (.need (inb (w64 (len b - 1)) (len b)) <| .need (inb (w64 (w64 (len b - 1) - 1)) (len b)) <| .need (0 ≤ w64 (len a - w64 (len b - 1)) ∧ w64 (len a - w64 (len b - 1)) ≤ w64 (len a - w64 (len b - 1)) ∧ w64 (len a - w64 (len b - 1)) * (↑8 : Int) ≤ 140737488355328) <| .need (inc (w64 (len a - w64 (len b - 1))) (len a)) <| .need ((0 + List.length (List.take (List.length a - Int.toNat (w64 (len a - w64 (len b - 1)))) (List.drop (Int.toNat (w64 (len a - w64 (len b - 1)))) a))) * 8 ≤ 140737488355328) <| .loop 0 (.tt <| .lt (w64 ((↑(Int.toNat (w64 (len a - w64 (len b - 1)))) : Int) - 1) : Int) fun z => .lt (List.take (0 + List.length (List.take (List.length a - Int.toNat (w64 (len a - w64 (len b - 1)))) (List.drop (Int.toNat (w64 (len a - w64 (len b - 1)))) a))) (List.take 0 [] ++ List.take (List.length a - Int.toNat (w64 (len a - w64 (len b - 1)))) (List.drop (Int.toNat (w64 (len a - w64 (len b - 1)))) a)) : List Int) fun z1 => .lt (List.replicate (Int.toNat (w64 (len a - w64 (len b - 1)))) 0 : List Int) fun z2 => .wZ (vz z1 z <| (vu 29 0 (Int.toNat (w64 (len a - w64 (len b - 1)))) true) ∧ (vz (w64 (w64 (gi b (w64 (len b - 1)) 0 * 10000) + gi b (w64 (w64 (len b - 1) - 1)) 0) : Int) (w64 (len b - 1)) <| True ∧ True ∧ vB a b)) <| .wZ (wY (vt 3 z2) True) <| .ok ((z, z1, z2, ()))) (aj6 a b)))
def aFD : LTab := []
def ax6 (a : Bool × List Int × Unit) : TT uc :=
 .call (aa7 (!a.1, a.2.1, ())) aiW fun y =>
 .ok (((y.1.1, y.1.2.1, ()), ()))
def aFF : LTab := []
def apX (a : Bool × List Int × Unit) (b : Bool × List Int × Unit) : TT uc :=
 .ite (a.1 == b.1)
 (.call (ao1 (a.2.1, b.2.1, ())) aAm fun y =>
 .call (aa7 (a.1, y.1, ())) aiW fun y1 =>
 .ok (((y1.1.1, y1.1.2.1, ()), ())))
 (.call (aeI (a.2.1, b.2.1, ())) Dd6 fun y2 =>
 .ite (decide (y2.1 ≥ 0))
 (.call (aa3 (a.2.1, b.2.1, ())) aAm fun y3 =>
 .call (aa7 (a.1, y3.1, ())) aiW fun y4 =>
 .ok (((y4.1.1, y4.1.2.1, ()), ())))
 (.call (aa3 (b.2.1, a.2.1, ())) aAm fun y5 =>
 .call (aa7 (b.1, y5.1, ())) aiW fun y6 =>
 .ok (((y6.1.1, y6.1.2.1, ()), ()))))
def aDy : LTab := []
def atL (a : Bool × List Int × Unit) (b : Bool × List Int × Unit) : TT uc :=
 .call (ag6 ((b.1, b.2.1, ()), ())) aiW fun y =>
 .call (ae2 ((a.1, a.2.1, ()), y.1, ())) aiW fun y1 =>
 .ok (((y1.1.1, y1.1.2.1, ()), ()))
def aDu : LTab := []
def atJ (a : Bool × List Int × Unit) (b : Bool × List Int × Unit) : TT uc :=
 .call (abH (a.2.1, b.2.1, ())) aAm fun y =>
 .call (aa7 (!a.1 == b.1, y.1, ())) aiW fun y1 =>
 .ok (((y1.1.1, y1.1.2.1, ()), ()))
def aDw : LTab := []
def amL (a : Bool × List Int × Unit) (b : Bool × List Int × Unit) : TT (vH × vH × Unit) :=
 .call (ag5 (a.2.1, b.2.1, ())) aPl fun y =>
 .call (aa7 (!a.1 == b.1, y.1, ())) aiW fun y1 =>
 .call (aa7 (a.1, y.2.1, ())) aiW fun y2 =>
 .ite (y2.1.1)
 (.call (ae2 ((y2.1.1, y2.1.2.1, ()), (false, b.2.1, ()), ())) aiW fun y3 =>
 .ite (b.1)
 (.call (ab8 (1, ())) aiW fun y4 =>
 .call (ae2 ((y1.1.1, y1.1.2.1, ()), y4.1, ())) aiW fun y5 =>
 .ok (((y5.1.1, y5.1.2.1, ()), (y3.1.1, y3.1.2.1, ()), ())))
 (.call (ab8 (1, ())) aiW fun y6 =>
 .call (ajH ((y1.1.1, y1.1.2.1, ()), y6.1, ())) aiW fun y7 =>
 .ok (((y7.1.1, y7.1.2.1, ()), (y3.1.1, y3.1.2.1, ()), ()))))
 (.ok (((y1.1.1, y1.1.2.1, ()), (y2.1.1, y2.1.2.1, ()), ())))
def ayC : LTab := [(139, 28, 9217, ⟨0, (List Int) × (List Int) × Unit, .dat (.s 6) uy <| .dat (.s 5) uy <| .nil, [4], [2, 1, 0], 0⟩)]
def ak8 (a : Bool × List Int × Unit) (b : Bool × List Int × Unit) (i : (List Int) × (List Int) × Unit) : TT (ui ⊕ uc) :=
 .ite (decide (len i.1 > 0))
 (.call (ag5 (i.2.1, i.1, ())) aPl fun y =>
 .tt <| .lt (y.2.1 : List Int) fun z2 => .wZ (vz i.1 z2 <| (vh 2 0 true) ∧ True) <| .wZ (wY vL <| wY (vq 138 b.1 b.2.1) <| wY (vq 138 a.1 a.2.1) True) <| .ok (.inl ((z2, i.1, ()))))
 (.ok (.inr (((false, i.2.1, ()), ()))))
def anS (a : Bool × List Int × Unit) (b : Bool × List Int × Unit) : TT uc :=
 .loop 0 (.tt <| .lt (b.2.1 : List Int) fun z => .lt (a.2.1 : List Int) fun z1 => .wZ (vz z1 z <| (vh 2 0 true) ∧ True) <| .wZ (wY vL <| wY (vq 138 b.1 z) <| wY (vq 138 a.1 z1) True) <| .ok ((z, z1, ()))) (ak8 a b)
end
set_option maxRecDepth 100000
open Go Go.Vg Go.Proofs
noncomputable section
def aI8 : LTab := [(189, 28, 4097, ⟨0, (Int) × Unit, .dat (.s 3) vG <| .nil, [2, 0], [], 0⟩)]
def ax5 (d : List Int) (i : (Int) × Unit) : TT (ua ⊕ vK) :=
 .ite (decide (i.1 > 0))
 (.need (inb (w64 (i.1 - 1)) (len d)) <| .ite (gi d (w64 (i.1 - 1)) 0 == 0)
 (.tt <| .lt (w64 (i.1 - 1) : Int) fun z => .wZ (vj z <| True ∧ vk d) <| .tr <| .ok (.inl ((z, ()))))
 (.need (inc i.1 (len d)) <| .ok (.inr ((List.take (Int.toNat i.1) d, ())))))
 (.need (inc i.1 (len d)) <| .ok (.inr ((List.take (Int.toNat i.1) d, ()))))
def aCe (d : List Int) : TT vK :=
 .loop 0 (.tt <| .wZ (vj (len d) <| True ∧ vk d) <| .tr <| .ok ((len d, ()))) (ax5 d)
def aFB : LTab := []
def ax4 (below : Bool) (d : List Int) : TT uc :=
 .call (acE (d, ())) aAm fun y =>
 .ite (below)
 (.ok (((decide (len y.1 > 0), y.1, ()), ())))
 (.ok (((false, y.1, ()), ())))
def ayB : LTab := [(83, 60, 5122, ⟨0, Bool × (List Int) × (Int) × Unit, .appN (.s 3) 5 3 vG <| .dat (.s 0) vG <| .nil, [4, 2], [0], 1⟩)]
def ad5 (n : Int) (i : Bool × (List Int) × (Int) × Unit) : TT ((Bool × (List Int) × (Int) × Unit) ⊕ uc) :=
 .ite (i.1)
 (.ite (i.2.2.1 != 0)
 (.triv (asT Int 10000 ≠ 0) ze <| .ite (decide (Int.tmod i.2.2.1 10000 < 0))
 (.need (1 * 8 ≤ 140737488355328) <| .triv (asT Int 10000 ≠ 0) ze <| .tt <| .lt ([w64 (0 - Int.tmod i.2.2.1 10000)] : List Int) fun z => .lt (w64 (Int.tdiv i.2.2.1 10000) : Int) fun z1 => .wZ (vj z1 <| (vu 5 0 1 true) ∧ (vj (decide (n < 0)) <| vO ∧ True)) <| .wZ (wY (vt 3 z) <| wY vL True) <| .ok (.inl ((false, z, z1, ()))))
 (.need (1 * 8 ≤ 140737488355328) <| .triv (asT Int 10000 ≠ 0) ze <| .tt <| .lt ([Int.tmod i.2.2.1 10000] : List Int) fun z2 => .lt (w64 (Int.tdiv i.2.2.1 10000) : Int) fun z3 => .wZ (vj z3 <| (vu 5 0 1 true) ∧ (vj (decide (n < 0)) <| vO ∧ True)) <| .wZ (wY (vt 3 z2) <| wY vL True) <| .ok (.inl ((false, z2, z3, ())))))
 (.call (aa7 (decide (n < 0), [], ())) aiW fun y =>
 .ok (.inr (((y.1.1, y.1.2.1, ()), ())))))
 (.ite (i.2.2.1 != 0)
 (.triv (asT Int 10000 ≠ 0) ze <| .ite (decide (Int.tmod i.2.2.1 10000 < 0))
 (.need ((List.length i.2.1 + 1) * 8 ≤ 140737488355328) <| .triv (asT Int 10000 ≠ 0) ze <| .tt <| .lt (List.take (List.length i.2.1) i.2.1 ++ [w64 (0 - Int.tmod i.2.2.1 10000)] : List Int) fun z4 => .lt (w64 (Int.tdiv i.2.2.1 10000) : Int) fun z5 => .need (((z5 : Int) = z5) ∧ (((5) = (5)) ∧ (((0) = (0)) ∧ ((List.length i.2.1 + 1 = List.length z4) ∧ ((true) = (true))))) ∧ ((decide (n < 0)) = (decide (n < 0))) ∧ (((0) = (0)) ∧ (((0) = (0)) ∧ ((true) = (true)))) ∧ True) <| .wZ (wY (vt 3 z4) <| wY vL True) <| .ok (.inl ((false, z4, z5, ()))))
 (.need ((List.length i.2.1 + 1) * 8 ≤ 140737488355328) <| .triv (asT Int 10000 ≠ 0) ze <| .tt <| .lt (List.take (List.length i.2.1) i.2.1 ++ [Int.tmod i.2.2.1 10000] : List Int) fun z6 => .lt (w64 (Int.tdiv i.2.2.1 10000) : Int) fun z7 => .need (((z7 : Int) = z7) ∧ (((5) = (5)) ∧ (((0) = (0)) ∧ ((List.length i.2.1 + 1 = List.length z6) ∧ ((true) = (true))))) ∧ ((decide (n < 0)) = (decide (n < 0))) ∧ (((0) = (0)) ∧ (((0) = (0)) ∧ ((true) = (true)))) ∧ True) <| .wZ (wY (vt 3 z6) <| wY vL True) <| .ok (.inl ((false, z6, z7, ())))))
 (.call (aa7 (decide (n < 0), List.take (List.length i.2.1) i.2.1, ())) aiW fun y1 =>
 .ok (.inr (((y1.1.1, y1.1.2.1, ()), ())))))
def anR (n : Int) : TT uc :=
 .loop 0 (.tt <| .wZ (vj n <| True ∧ (vj (decide (n < 0)) <| vO ∧ True)) <| .wZ ux <| .ok ((true, [], n, ()))) (ad5 n)
def aFC : LTab := []
def apS (n : Int) : TT vY :=
 .triv (asT Int 1000 ≠ 0) ze <| .triv (asT Int 100 ≠ 0) ze <| .triv (asT Int 10 ≠ 0) ze <| .triv (asT Int 10 ≠ 0) ze <| .triv (asT Int 10 ≠ 0) ze <| .triv (asT Int 10 ≠ 0) ze <| .ok ((List.map (fun n => UInt8.ofNat (Int.toNat n)) (List.take 4 [wu8 (w64 (48 + w64 (Int.tdiv n 1000))), wu8 (w64 (48 + Int.tmod (w64 (Int.tdiv n 100)) 10)), wu8 (w64 (48 + Int.tmod (w64 (Int.tdiv n 10)) 10)), wu8 (w64 (48 + Int.tmod n 10))]), ()))
def aFE : LTab := [(86, 58, 8192, ⟨0, (Int) × (List UInt8) × Unit, .dat (.s 4) vG <| .dat (.s 3) (Ty.str) <| .nil, [2, 1], [0], 0⟩), (86, 124, 11264, ⟨1, (Int) × Unit, .dat (.s 5) vG <| .nil, [3, 2, 1], [0], 0⟩)]
def ahG (i1 : (Int) × Unit) (i : Int × List UInt8 × Unit) (a : Bool × List Int × Unit) : TT (ua ⊕ uk) :=
 .need (inc i1.1 (len i.2.1)) <| .ite (List.take (List.length i.2.1 - Int.toNat i1.1) (List.drop (Int.toNat i1.1) i.2.1) == #[].toList)
 (.ok (.inr (.inr ((#[48].toList, ())))))
 (.ite (a.1)
 (.need (List.length #[45].toList + List.length (List.take (List.length i.2.1 - Int.toNat i1.1) (List.drop (Int.toNat i1.1) i.2.1)) ≤ lim) <| .ok (.inr (.inr ((#[45].toList ++ List.take (List.length i.2.1 - Int.toNat i1.1) (List.drop (Int.toNat i1.1) i.2.1), ())))))
 (.ok (.inr (.inr ((List.take (List.length i.2.1 - Int.toNat i1.1) (List.drop (Int.toNat i1.1) i.2.1), ()))))))
def atK (a : Bool × List Int × Unit) (i : Int × List UInt8 × Unit) (i1 : (Int) × Unit) : TT (ua ⊕ uk) :=
 .ite (decide (i1.1 < len i.2.1))
 (.need (inb i1.1 (len i.2.1)) <| .ite ((↑(UInt8.toNat (gi i.2.1 i1.1 0)) : Int) == 48)
  (.tt <| .lt (w64 (i1.1 + 1) : Int) fun z3 => .wZ (vl z3 i.2.1 (#[].toList : List UInt8) <| vO ∧ True) <| .wZ (wY (vq 138 a.1 a.2.1) True) <| .ok (.inl ((z3, ()))))
  (ahG i1 i a))
 (ahG i1 i a)
def amJ (a : Bool × List Int × Unit) (i : (Int) × (List UInt8) × Unit) : TT uk :=
 .ite (decide (i.1 ≥ 0))
 (.need (inb i.1 (len a.2.1)) <| .call (alY (gi a.2.1 i.1 0, ())) Dd2 fun y =>
 .need (List.length i.2.1 + List.length y.1 ≤ lim) <| .tt <| .lt (w64 (i.1 - 1) : Int) fun z1 => .lt (i.2.1 ++ y.1 : List UInt8) fun z2 => .wZ (vl z2 z1 (#[].toList : List UInt8) <| vO ∧ True) <| .wZ (wY (vq 138 a.1 a.2.1) True) <| .ok (.inl ((z1, z2, ()))))
 (.loop 1 (.tt <| .wZ (vl (0 : Int) i.2.1 (#[].toList : List UInt8) <| vO ∧ True) <| .wZ (wY (vq 138 a.1 a.2.1) True) <| .ok ((0, ()))) (atK a i))
def apU (a : Bool × List Int × Unit) : TT vY :=
 .loop 0 (.tt <| .lt (w64 (len a.2.1 - 1) : Int) fun z => .wZ (vl (#[].toList : List UInt8) z (#[].toList : List UInt8) <| vO ∧ True) <| .wZ (wY (vq 138 a.1 a.2.1) True) <| .ok ((z, #[].toList, ()))) (amJ a)
def aI9 : LTab := []
def aCf (a : Bool × List Int × Unit) : TT uh :=
 .call (aiP ((a.1, a.2.1, ()), ())) Dd2 fun y =>
 .ite (a.1)
 (.ite (decide (w64 (len y.1 - 1) > 600))
 (.ok ((#[].toList, 6, ())))
 (.ok ((y.1, 0, ()))))
 (.ite (decide (len y.1 > 600))
 (.ok ((#[].toList, 6, ())))
 (.ok ((y.1, 0, ()))))
def aDs : LTab := [(191, 58, 10240, ⟨0, (Int) × Unit, .dat (.s 5) vG <| .nil, [0, 1], [], 0⟩)]
def apQ (a : List Int) (b : List Int) (i : (Int) × Unit) : TT (ua ⊕ vS) :=
 .ite (decide (i.1 ≥ 0))
 (.need (inb i.1 (len a)) <| .need (inb i.1 (len b)) <| .ite (gi a i.1 0 != gi b i.1 0)
 (.need (inb i.1 (len a)) <| .need (inb i.1 (len b)) <| .ok (.inr ((w64 (gi a i.1 0 - gi b i.1 0), ()))))
 (.tt <| .lt (w64 (i.1 - 1) : Int) fun z1 => .wZ (vq z1 a b) <| .tr <| .ok (.inl ((z1, ())))))
 (.ok (.inr ((0, ()))))
def amG (a : List Int) (b : List Int) : TT vS :=
 .ite (len a != len b)
 (.ok ((w64 (len a - len b), ())))
 (.loop 0 (.tt <| .lt (w64 (len a - 1) : Int) fun z => .wZ (vq z a b) <| .tr <| .ok ((z, ()))) (apQ a b))
def aI7 : LTab := [(193, 122, 4098, ⟨0, (Int) × (Int) × Bool × (List Int) × Unit, .dat (.s 7) vG <| .dat (.s 6) vG <| .appN (.s 5) 4 3 vG <| .nil, [4, 0, 1], [], 1⟩)]
def acY (i : (Int) × (Int) × Bool × (List Int) × Unit) (a : List Int) (b : List Int) : TT vZ :=
 .ite (decide (i.1 < len a))
 (.need (inb i.1 (len a)) <| .ite (decide (i.1 < len b))
 (.need (inb i.1 (len b)) <| .triv (asT Int 10000 ≠ 0) ze <| .need ((List.length i.2.2.2.1 + 1) * 8 ≤ 140737488355328) <| .triv (asT Int 10000 ≠ 0) ze <| .tt <| .lt (w64 (i.1 + 1) : Int) fun z36 => .lt (w64 (Int.tdiv (w64 (w64 (i.2.1 + gi a i.1 0) + gi b i.1 0)) 10000) : Int) fun z37 => .lt (List.take (List.length i.2.2.2.1) i.2.2.2.1 ++ [Int.tmod (w64 (w64 (i.2.1 + gi a i.1 0) + gi b i.1 0)) 10000] : List Int) fun z38 => .need ((((4) = (4)) ∧ (((0) = (0)) ∧ ((List.length i.2.2.2.1 + 1 = List.length z38) ∧ ((true) = (true))))) ∧ ((z37 : Int) = z37) ∧ ((z36 : Int) = z36) ∧ True ∧ ((a) = (a)) ∧ ((b) = (b)) ∧ True) <| .wZ (wY (vt 3 z38) True) <| .ok (.inl ((z36, z37, false, z38, ()))))
 (.triv (asT Int 10000 ≠ 0) ze <| .need ((List.length i.2.2.2.1 + 1) * 8 ≤ 140737488355328) <| .triv (asT Int 10000 ≠ 0) ze <| .tt <| .lt (w64 (i.1 + 1) : Int) fun z39 => .lt (w64 (Int.tdiv (w64 (i.2.1 + gi a i.1 0)) 10000) : Int) fun z40 => .lt (List.take (List.length i.2.2.2.1) i.2.2.2.1 ++ [Int.tmod (w64 (i.2.1 + gi a i.1 0)) 10000] : List Int) fun z41 => .need ((((4) = (4)) ∧ (((0) = (0)) ∧ ((List.length i.2.2.2.1 + 1 = List.length z41) ∧ ((true) = (true))))) ∧ ((z40 : Int) = z40) ∧ ((z39 : Int) = z39) ∧ True ∧ ((a) = (a)) ∧ ((b) = (b)) ∧ True) <| .wZ (wY (vt 3 z41) True) <| .ok (.inl ((z39, z40, false, z41, ())))))
 (.ite (decide (i.1 < len b))
 (.need (inb i.1 (len b)) <| .triv (asT Int 10000 ≠ 0) ze <| .need ((List.length i.2.2.2.1 + 1) * 8 ≤ 140737488355328) <| .triv (asT Int 10000 ≠ 0) ze <| .tt <| .lt (w64 (i.1 + 1) : Int) fun z42 => .lt (w64 (Int.tdiv (w64 (i.2.1 + gi b i.1 0)) 10000) : Int) fun z43 => .lt (List.take (List.length i.2.2.2.1) i.2.2.2.1 ++ [Int.tmod (w64 (i.2.1 + gi b i.1 0)) 10000] : List Int) fun z44 => .need ((((4) = (4)) ∧ (((0) = (0)) ∧ ((List.length i.2.2.2.1 + 1 = List.length z44) ∧ ((true) = (true))))) ∧ ((z43 : Int) = z43) ∧ ((z42 : Int) = z42) ∧ True ∧ ((a) = (a)) ∧ ((b) = (b)) ∧ True) <| .wZ (wY (vt 3 z44) True) <| .ok (.inl ((z42, z43, false, z44, ()))))
 (.triv (asT Int 10000 ≠ 0) ze <| .need ((List.length i.2.2.2.1 + 1) * 8 ≤ 140737488355328) <| .triv (asT Int 10000 ≠ 0) ze <| .tt <| .lt (w64 (i.1 + 1) : Int) fun z45 => .lt (w64 (Int.tdiv i.2.1 10000) : Int) fun z46 => .lt (List.take (List.length i.2.2.2.1) i.2.2.2.1 ++ [Int.tmod i.2.1 10000] : List Int) fun z47 => .need ((((4) = (4)) ∧ (((0) = (0)) ∧ ((List.length i.2.2.2.1 + 1 = List.length z47) ∧ ((true) = (true))))) ∧ ((z46 : Int) = z46) ∧ ((z45 : Int) = z45) ∧ True ∧ ((a) = (a)) ∧ ((b) = (b)) ∧ True) <| .wZ (wY (vt 3 z47) True) <| .ok (.inl ((z45, z46, false, z47, ())))))
def acX (i : (Int) × (Int) × Bool × (List Int) × Unit) (a : List Int) (b : List Int) : TT vZ :=
 .ite (decide (i.1 < len a))
 (.need (inb i.1 (len a)) <| .ite (decide (i.1 < len b))
 (.need (inb i.1 (len b)) <| .triv (asT Int 10000 ≠ 0) ze <| .need (1 * 8 ≤ 140737488355328) <| .triv (asT Int 10000 ≠ 0) ze <| .tt <| .lt (w64 (i.1 + 1) : Int) fun z => .lt (w64 (Int.tdiv (w64 (w64 (i.2.1 + gi a i.1 0) + gi b i.1 0)) 10000) : Int) fun z1 => .lt ([Int.tmod (w64 (w64 (i.2.1 + gi a i.1 0) + gi b i.1 0)) 10000] : List Int) fun z2 => .wZ (uj ∧ (vz z1 z <| True ∧ vB a b)) <| .wZ (wY (vt 3 z2) True) <| .ok (.inl ((z, z1, false, z2, ()))))
 (.triv (asT Int 10000 ≠ 0) ze <| .need (1 * 8 ≤ 140737488355328) <| .triv (asT Int 10000 ≠ 0) ze <| .tt <| .lt (w64 (i.1 + 1) : Int) fun z3 => .lt (w64 (Int.tdiv (w64 (i.2.1 + gi a i.1 0)) 10000) : Int) fun z4 => .lt ([Int.tmod (w64 (i.2.1 + gi a i.1 0)) 10000] : List Int) fun z5 => .wZ (uj ∧ (vz z4 z3 <| True ∧ vB a b)) <| .wZ (wY (vt 3 z5) True) <| .ok (.inl ((z3, z4, false, z5, ())))))
 (.ite (decide (i.1 < len b))
 (.need (inb i.1 (len b)) <| .triv (asT Int 10000 ≠ 0) ze <| .need (1 * 8 ≤ 140737488355328) <| .triv (asT Int 10000 ≠ 0) ze <| .tt <| .lt (w64 (i.1 + 1) : Int) fun z6 => .lt (w64 (Int.tdiv (w64 (i.2.1 + gi b i.1 0)) 10000) : Int) fun z7 => .lt ([Int.tmod (w64 (i.2.1 + gi b i.1 0)) 10000] : List Int) fun z8 => .wZ (uj ∧ (vz z7 z6 <| True ∧ vB a b)) <| .wZ (wY (vt 3 z8) True) <| .ok (.inl ((z6, z7, false, z8, ()))))
 (.triv (asT Int 10000 ≠ 0) ze <| .need (1 * 8 ≤ 140737488355328) <| .triv (asT Int 10000 ≠ 0) ze <| .tt <| .lt (w64 (i.1 + 1) : Int) fun z9 => .lt (w64 (Int.tdiv i.2.1 10000) : Int) fun z10 => .lt ([Int.tmod i.2.1 10000] : List Int) fun z11 => .wZ (uj ∧ (vz z10 z9 <| True ∧ vB a b)) <| .wZ (wY (vt 3 z11) True) <| .ok (.inl ((z9, z10, false, z11, ())))))
def ah7 (a : List Int) (b : List Int) (i : (Int) × (Int) × Bool × (List Int) × Unit) : TT vZ :=
 .ite (i.2.2.1)
 (.ite (decide (i.1 < len a))
  (acX i a b)
  (.ite (decide (i.1 < len b))
   (acX i a b)
   (.ite (decide (i.2.1 > 0))
    (acX i a b)
    (.ok (.inr (([], ())))))))
 (.ite (decide (i.1 < len a))
  (acY i a b)
  (.ite (decide (i.1 < len b))
   (acY i a b)
   (.ite (decide (i.2.1 > 0))
    (acY i a b)
    (.ok (.inr ((List.take (List.length i.2.2.2.1) i.2.2.2.1, ())))))))
def aCd (a : List Int) (b : List Int) : TT vK :=
 .loop 0 (.tt <| .wZ (True ∧ (vz (0 : Int) (0 : Int) <| True ∧ vB a b)) <| .tr <| .ok ((0, 0, true, [], ()))) (ah7 a b)
def apT : LTab := [(192, 122, 4098, ⟨0, (Int) × (Int) × Bool × (List Int) × Unit, .dat (.s 7) vG <| .dat (.s 6) vG <| .appN (.s 5) 4 3 vG <| .nil, [4, 0, 1], [], 1⟩)]
def abM (a : List Int) (b : List Int) (i : (Int) × (Int) × Bool × (List Int) × Unit) : TT vZ :=
 .ite (i.2.2.1)
 (.ite (decide (i.1 < len a))
 (.need (inb i.1 (len a)) <| .ite (decide (i.1 < len b))
 (.need (inb i.1 (len b)) <| .ite (decide (w64 (w64 (gi a i.1 0 - i.2.1) - gi b i.1 0) < 0))
 (.need (1 * 8 ≤ 140737488355328) <| .tt <| .lt (w64 (i.1 + 1) : Int) fun z => .lt ([w64 (w64 (w64 (gi a i.1 0 - i.2.1) - gi b i.1 0) + 10000)] : List Int) fun z1 => .wZ (uj ∧ (vz (1 : Int) z <| True ∧ vB a b)) <| .wZ (wY (vt 3 z1) True) <| .ok (.inl ((z, 1, false, z1, ()))))
 (.need (1 * 8 ≤ 140737488355328) <| .tt <| .lt (w64 (i.1 + 1) : Int) fun z2 => .lt ([w64 (w64 (gi a i.1 0 - i.2.1) - gi b i.1 0)] : List Int) fun z3 => .wZ (uj ∧ (vz (0 : Int) z2 <| True ∧ vB a b)) <| .wZ (wY (vt 3 z3) True) <| .ok (.inl ((z2, 0, false, z3, ())))))
 (.ite (decide (w64 (gi a i.1 0 - i.2.1) < 0))
 (.need (1 * 8 ≤ 140737488355328) <| .tt <| .lt (w64 (i.1 + 1) : Int) fun z4 => .lt ([w64 (w64 (gi a i.1 0 - i.2.1) + 10000)] : List Int) fun z5 => .wZ (uj ∧ (vz (1 : Int) z4 <| True ∧ vB a b)) <| .wZ (wY (vt 3 z5) True) <| .ok (.inl ((z4, 1, false, z5, ()))))
 (.need (1 * 8 ≤ 140737488355328) <| .tt <| .lt (w64 (i.1 + 1) : Int) fun z6 => .lt ([w64 (gi a i.1 0 - i.2.1)] : List Int) fun z7 => .wZ (uj ∧ (vz (0 : Int) z6 <| True ∧ vB a b)) <| .wZ (wY (vt 3 z7) True) <| .ok (.inl ((z6, 0, false, z7, ()))))))
 (.call (acE ([], ())) aAm fun y =>
 .ok (.inr ((y.1, ())))))
 (.ite (decide (i.1 < len a))
 (.need (inb i.1 (len a)) <| .ite (decide (i.1 < len b))
 (.need (inb i.1 (len b)) <| .ite (decide (w64 (w64 (gi a i.1 0 - i.2.1) - gi b i.1 0) < 0))
 (.need ((List.length i.2.2.2.1 + 1) * 8 ≤ 140737488355328) <| .tt <| .lt (w64 (i.1 + 1) : Int) fun z8 => .lt (List.take (List.length i.2.2.2.1) i.2.2.2.1 ++ [w64 (w64 (w64 (gi a i.1 0 - i.2.1) - gi b i.1 0) + 10000)] : List Int) fun z9 => .need ((((4) = (4)) ∧ (((0) = (0)) ∧ ((List.length i.2.2.2.1 + 1 = List.length z9) ∧ ((true) = (true))))) ∧ ((1 : Int) = 1) ∧ ((z8 : Int) = z8) ∧ True ∧ ((a) = (a)) ∧ ((b) = (b)) ∧ True) <| .wZ (wY (vt 3 z9) True) <| .ok (.inl ((z8, 1, false, z9, ()))))
 (.need ((List.length i.2.2.2.1 + 1) * 8 ≤ 140737488355328) <| .tt <| .lt (w64 (i.1 + 1) : Int) fun z10 => .lt (List.take (List.length i.2.2.2.1) i.2.2.2.1 ++ [w64 (w64 (gi a i.1 0 - i.2.1) - gi b i.1 0)] : List Int) fun z11 => .need ((((4) = (4)) ∧ (((0) = (0)) ∧ ((List.length i.2.2.2.1 + 1 = List.length z11) ∧ ((true) = (true))))) ∧ ((0 : Int) = 0) ∧ ((z10 : Int) = z10) ∧ True ∧ ((a) = (a)) ∧ ((b) = (b)) ∧ True) <| .wZ (wY (vt 3 z11) True) <| .ok (.inl ((z10, 0, false, z11, ())))))
 (.ite (decide (w64 (gi a i.1 0 - i.2.1) < 0))
 (.need ((List.length i.2.2.2.1 + 1) * 8 ≤ 140737488355328) <| .tt <| .lt (w64 (i.1 + 1) : Int) fun z12 => .lt (List.take (List.length i.2.2.2.1) i.2.2.2.1 ++ [w64 (w64 (gi a i.1 0 - i.2.1) + 10000)] : List Int) fun z13 => .need ((((4) = (4)) ∧ (((0) = (0)) ∧ ((List.length i.2.2.2.1 + 1 = List.length z13) ∧ ((true) = (true))))) ∧ ((1 : Int) = 1) ∧ ((z12 : Int) = z12) ∧ True ∧ ((a) = (a)) ∧ ((b) = (b)) ∧ True) <| .wZ (wY (vt 3 z13) True) <| .ok (.inl ((z12, 1, false, z13, ()))))
 (.need ((List.length i.2.2.2.1 + 1) * 8 ≤ 140737488355328) <| .tt <| .lt (w64 (i.1 + 1) : Int) fun z14 => .lt (List.take (List.length i.2.2.2.1) i.2.2.2.1 ++ [w64 (gi a i.1 0 - i.2.1)] : List Int) fun z15 => .need ((((4) = (4)) ∧ (((0) = (0)) ∧ ((List.length i.2.2.2.1 + 1 = List.length z15) ∧ ((true) = (true))))) ∧ ((0 : Int) = 0) ∧ ((z14 : Int) = z14) ∧ True ∧ ((a) = (a)) ∧ ((b) = (b)) ∧ True) <| .wZ (wY (vt 3 z15) True) <| .ok (.inl ((z14, 0, false, z15, ()))))))
 (.call (acE (List.take (List.length i.2.2.2.1) i.2.2.2.1, ())) aAm fun y1 =>
 .ok (.inr ((y1.1, ())))))
def ah8 (a : List Int) (b : List Int) : TT vK :=
 .loop 0 (.tt <| .wZ (True ∧ (vz (0 : Int) (0 : Int) <| True ∧ vB a b)) <| .tr <| .ok ((0, 0, true, [], ()))) (abM a b)
def ax1 : LTab := [(188, 58, 9217, ⟨0, (Int) × (List Int) × Unit, .dat (.s 6) vG <| .row 6 vG <| .nil, [5, 4, 0, 1], [6], 0⟩), (188, 14922, 15361, ⟨1, (Int) × (Int) × (List Int) × Unit, .dat (.s 8) vG <| .dat (.s 7) vG <| .row 6 vG <| .nil, [18, 17, 16, 15, 6, 5, 4, 0, 1], [6], 0⟩)]
def ac7 (a : List Int) (b : List Int) (i : Int × List Int × Unit) (i1 : (Int) × (Int) × (List Int) × Unit) : TT (vR ⊕ uf) :=
 .ite (decide (i1.1 < len b))
 (.need (inb (w64 (i.1 + i1.1)) (↑(Int.toNat (w64 (len a + len b))) : Int)) <| .need (inb i.1 (len a)) <| .need (inb i1.1 (len b)) <| .triv (asT Int 10000 ≠ 0) ze <| .need (inb (w64 (i.1 + i1.1)) (↑(Int.toNat (w64 (len a + len b))) : Int)) <| .triv (asT Int 10000 ≠ 0) ze <| .tt <| .lt (w64 (i1.1 + 1) : Int) fun z2 => .lt (w64 (Int.tdiv (w64 (w64 (i1.2.1 + List.getD i1.2.2.1 (0 + Int.toNat (w64 (i.1 + i1.1))) 0) + w64 (gi a i.1 0 * gi b i1.1 0))) 10000) : Int) fun z3 => .lt (List.set i1.2.2.1 (0 + Int.toNat (w64 (i.1 + i1.1))) (Int.tmod (w64 (w64 (i1.2.1 + List.getD i1.2.2.1 (0 + Int.toNat (w64 (i.1 + i1.1))) 0) + w64 (gi a i.1 0 * gi b i1.1 0))) 10000) : List Int) fun z4 => .wZ (vC z3 z2 (decide (i.1 < len a)) (len a) a i.1 i.1 <| (vu 6 0 (Int.toNat (w64 (len a + len b))) true) ∧ True ∧ vB a b) <| .wZ (wY (vt 3 z4) True) <| .ok (.inl ((z2, z3, z4, ()))))
 (.need (inb (w64 (i.1 + len b)) (↑(Int.toNat (w64 (len a + len b))) : Int)) <| .tt <| .lt (w64 (i.1 + 1) : Int) fun z5 => .lt (List.set i1.2.2.1 (0 + Int.toNat (w64 (i.1 + len b))) i1.2.1 : List Int) fun z6 => .wZ (vj z5 <| (vu 6 0 (Int.toNat (w64 (len a + len b))) true) ∧ True ∧ vB a b) <| .wZ (wY (vt 3 z6) True) <| .ok (.inr (.inl ((z5, z6, ())))))
def ahF (a : List Int) (b : List Int) (i : (Int) × (List Int) × Unit) : TT uf :=
 .ite (decide (i.1 < len a))
 (.loop 1 (.tt <| .lt (i.2.1 : List Int) fun z1 => .wZ (vC (0 : Int) (0 : Int) (decide (i.1 < len a)) (len a) a i.1 i.1 <| (vu 6 0 (Int.toNat (w64 (len a + len b))) true) ∧ True ∧ vB a b) <| .wZ (wY (vt 3 z1) True) <| .ok ((0, 0, z1, ()))) (ac7 a b i))
 (.call (acE (List.take (Int.toNat (w64 (len a + len b))) i.2.1, ())) aAm fun y =>
 .ok (.inr ((y.1, ()))))
def adW (a : List Int) (b : List Int) : TT vK :=
 .need (0 ≤ w64 (len a + len b) ∧ w64 (len a + len b) ≤ w64 (len a + len b) ∧ w64 (len a + len b) * (↑8 : Int) ≤ 140737488355328) <| .loop 0 (.tt <| .lt (List.replicate (Int.toNat (w64 (len a + len b))) 0 : List Int) fun z => .wZ (vj (0 : Int) <| (vu 6 0 (Int.toNat (w64 (len a + len b))) true) ∧ True ∧ vB a b) <| .wZ (wY (vt 3 z) True) <| .ok ((0, z, ()))) (ahF a b)
def aFA : LTab := [(190, 122, 11265, ⟨0, (Int) × (Int) × (List Int) × Unit, .dat (.s 8) vG <| .dat (.s 7) vG <| .row 4 vG <| .nil, [6, 5, 4, 0, 1], [4], 0⟩)]
def amH (a : List Int) (d : Int) (i : (Int) × (Int) × (List Int) × Unit) : TT (vR ⊕ um) :=
 .ite (decide (i.1 ≥ 0))
 (.need (inb i.1 (len a)) <| .need (d ≠ 0) <| .need (inb i.1 (↑(Int.toNat (len a)) : Int)) <| .need (d ≠ 0) <| .tt <| .lt (w64 (i.1 - 1) : Int) fun z2 => .lt (Int.tmod (w64 (w64 (i.2.1 * 10000) + gi a i.1 0)) d : Int) fun z3 => .lt (List.set i.2.2.1 (0 + Int.toNat i.1) (w64 (Int.tdiv (w64 (w64 (i.2.1 * 10000) + gi a i.1 0)) d)) : List Int) fun z4 => .wZ (vz z3 z2 <| (vu 4 0 (Int.toNat (len a)) true) ∧ (vj (0 : Int) <| True ∧ vB a d)) <| .wZ (wY (vt 3 z4) True) <| .ok (.inl ((z2, z3, z4, ()))))
 (.call (acE (List.take (Int.toNat (len a)) i.2.2.1, ())) aAm fun y =>
 .ok (.inr ((y.1, i.2.1, ()))))
def apR (a : List Int) (d : Int) : TT um :=
 .need (0 ≤ len a ∧ len a ≤ len a ∧ len a * (↑8 : Int) ≤ 140737488355328) <| .loop 0 (.tt <| .lt (w64 (len a - 1) : Int) fun z => .lt (List.replicate (Int.toNat (len a)) 0 : List Int) fun z1 => .wZ (vz (0 : Int) z <| (vu 4 0 (Int.toNat (len a)) true) ∧ (vj (0 : Int) <| True ∧ vB a d)) <| .wZ (wY (vt 3 z1) True) <| .ok ((z, 0, z1, ()))) (amH a d)
end
open Go Go.Vg
theorem aeS {l : List Int} (h : Dg 10000 l) (hl : l.length ≤ 1000000000000) {n : Nat} (hv : V 10000 l = n) : acE (l, ()) = some (dig n, ()) := by
 unfold acE
 rw [if_pos ⟨h, hl⟩]
 simp only [hv, zj]
theorem aDt (d : List Int) (y) (h : acE (d, ()) = some y) : (aCe d).toO = some y := by
 unfold acE at h
 split at h
 case isFalse => cases h
 case isTrue hp =>
 obtain ⟨hd, hl⟩ := hp
 dsimp only at hd hl h
 injection h with h
 subst h
 refine uO ((d.length : Int), ()) rfl ?_
 refine aaM (fun i : Int × Unit => ∃ k : Nat, k ≤ d.length ∧ i = ((k : Int), ()) ∧ V 10000 (d.take k) = V 10000 d) (fun i => i.1.toNat) (fun _ => (dig (V 10000 d).toNat, ())) ?_ _ ⟨_, zi _, rfl, by rw [zp]⟩
 rintro i ⟨k, h1, rfl, h2⟩
 have hn := aaH zb hd
 have fin : Cn (d.take k) → d.take k = dig (V 10000 d).toNat := fun hc => awI (ab0 hd k) hc (by rw [h2]; omega)
 unfold ax5
 rcases zF k with h0 | h0
 ·right
  subst h0
  refine uF sd (uN sd ?_)
  show some (Sum.inr (d.take (Int.toNat (0 : Nat)), ())) = _
  rw [zj, fin (by simp [Cn])]
 ·have hw : w64 ((k : Int) - 1) = ((k - 1 : Nat) : Int) := by rw [aaA (x := (k : Int) - 1) zb]; omega
  have hg : d.getD (k - 1) 0 = d[k - 1] := by simp [show k - 1 < d.length by omega]
  have ht := ahU 10000 (l := d) (i := k - 1) zb
  rw [show k - 1 + 1 = k by omega] at ht
  simp only [hw, aaK, hg]
  by_cases c : d[k - 1] = 0
  ·left
   refine ⟨(((k - 1 : Nat) : Int), ()), ?_, ⟨k - 1, by omega, rfl, ?_⟩, by dsimp only; omega, zd⟩
   ·refine uT sd (uN sd (uT (by rw [c]; rfl) ?_))
    repeat refine za ?_
    rfl
   ·rw [← h2, ht, c]; simp
  ·right
   refine uT sd (uN sd (uF (by simpa using c) (uN sd ?_)))
   show some (Sum.inr (d.take (Int.toNat (k : Int)), ())) = _
   rw [zj, fin ?_]
   unfold Cn
   rw [yO, zR, yu h1, zX, if_pos zb, zJ zb]
   simpa using c
theorem aAI (b : Bool) (d : List Int) (y) (h : aa7 (b, d, ()) = some y) : (ax4 b d).toO = some y := by
 unfold aa7 at h
 split at h
 case isFalse => cases h
 case isTrue hp =>
 obtain ⟨hd, hl⟩ := hp
 dsimp only at hd hl h
 injection h with h
 subst h
 obtain ⟨n, hn⟩ := zG (aaH zb hd)
 rw [hn, zj]
 refine uC _ (aeS hd hl hn) ?_
 have e : decide (len (dig n) > 0) = decide ((n : Int) ≠ 0) := by
  refine decide_eq_decide.2 ?_
  have := dig_nil_iff (n := n)
  rw [aaD]
  constructor
  ·intro h h2
   rw [this.2 zb] at h
   simp at h
  ·intro h
   rcases zF (dig n).length with h3 | h3
   ·have := this.1 (zT.1 h3); omega
   ·omega
 cases b
 ·exact uF rfl rfl
 ·refine uT rfl ?_
  show some ((decide (len (dig n) > 0), dig n, ()), ()) = _
  rw [e]; rfl
theorem ar7 {l : List Int} {b : Bool} {z : Int} (h : Dg 10000 l) (hl : l.length ≤ 1000000000000) (hv : V 10000 l = z.natAbs) (hb : z = 0 ∨ b = decide (z < 0)) : aa7 (b, l, ()) = some (pl z, ()) := by
 unfold aa7
 rw [if_pos ⟨h, hl⟩]
 simp only [hv, zj]
 congr 2
 unfold pl
 congr 1
 by_cases h0 : z = 0
 ·subst h0; simp
 ·rw [zn (show ((z.natAbs : Int) ≠ 0) by omega), Bool.and_true]
  rcases hb with h2 | h2
  ·exact absurd h2 h0
  ·exact h2
theorem aeN {n : Nat} {b : Bool} {z : Int} (hl : (dig n).length ≤ 1000000000000) (hv : n = z.natAbs) (hb : z = 0 ∨ b = decide (z < 0)) : aa7 (b, dig n, ()) = some (pl z, ()) := ar7 (acS n) hl (by rw [af1, hv]) hb
theorem aIo {n : Nat} (h : n < 10000) : alY ((n : Int), ()) = some (asP n, ()) := aaN (enc := fun x : Nat => ((x : Int), ())) n h (fun b hb => Int.ofNat.inj (Prod.mk.inj hb).1)
theorem aAJ (n : Int) (y) (h : alY (n, ()) = some y) : (apS n).toO = some y := by
 obtain ⟨k, hk, hx, rfl⟩ := aaF h
 obtain ⟨rfl, -⟩ := Prod.mk.inj hx
 have d1 : ∀ m : Nat, 0 < m → Int.tdiv (k : Int) m = ((k / m : Nat) : Int) := fun m hm => by rw [zM zb]; simp
 have e1 := d1 1000 zb
 have e2 := d1 100 zb
 have e3 := d1 10 zb
 have m1 : ∀ j : Nat, Int.tmod (j : Int) 10 = ((j % 10 : Nat) : Int) := fun j => by rw [zY zb]; omega
 have w1 : ∀ j : Nat, j < 10000 → w64 (j : Int) = j := fun j hj => aaA zb
 have w2 : ∀ j : Nat, j < 10 → wu8 (w64 (48 + (j : Int))) = ((48 + j : Nat) : Int) := fun j hj => by rw [aaA (x := 48 + (j : Int)) zb, abR zb]; omega
 unfold apS
 have f1 : Int.tdiv (k : Int) 1000 = ((k / 1000 : Nat) : Int) := e1
 have f2 : Int.tdiv (k : Int) 100 = ((k / 100 : Nat) : Int) := e2
 have f3 : Int.tdiv (k : Int) 10 = ((k / 10 : Nat) : Int) := e3
 refine uV (uV (uV (uV (uV (uV ?_)))))
 rw [aaJ, f1, f2, f3, w1 (k / 1000) zb, w1 (k / 100) zb, w1 (k / 10) zb, m1, m1, m1, w2 _ zb, w2 _ zb, w2 _ zb, w2 _ zb]
 rfl
theorem anJ (a b : List Int) (h1 : Dg 10000 a) (h2 : Dg 10000 b) (h3 : a.length ≤ 1000000000000) (h4 : b.length ≤ 1000000000000) : aeI (a, b, ()) = some (aLe a b, ()) := by unfold aeI; rw [if_pos ⟨h1, h2, h3, h4⟩]
theorem ax3 (a b : List Int) (y) (h : aeI (a, b, ()) = some y) : (amG a b).toO = some y := by
 unfold aeI at h
 split at h
 case isFalse => cases h
 case isTrue hp =>
 obtain ⟨ha, hb, hl, hl2⟩ := hp
 dsimp only at ha hb hl hl2 h
 injection h with h
 subst h
 unfold amG aLe
 by_cases c : a.length = b.length
 case neg =>
  rw [if_pos c]
  refine uT sd ?_
  rw [aaJ, aaD, aaD, aaA zb]
 rw [if_neg (fun h => h c)]
 refine uF sd ?_
 refine uO ((a.length : Int) - 1, ()) ?_ ?_
 ·repeat refine za ?_
  rw [aaJ, aaD, aaA zb]
 refine aaM (fun i : Int × Unit => ∃ k : Nat, k ≤ a.length ∧ i = ((k : Int) - 1, ()) ∧ aIM a b a.length = aIM a b k) (fun i => (i.1 + 1).toNat) (fun _ => (aIM a b a.length, ())) ?_ _ ⟨_, zi _, rfl, rfl⟩
 rintro i ⟨k, h1, rfl, h2⟩
 unfold apQ
 dsimp only
 cases k with
 | zero =>
  right
  refine uF sd ?_
  rw [h2]; rfl
 | succ j =>
  have e6 : ((j + 1 : Nat) : Int) - 1 = (j : Int) := zb
  simp only [e6, aaK]
  have da := aaR zb ha j
  have db := aaR zb hb j
  by_cases c2 : a.getD j 0 = b.getD j 0
  ·left
   refine ⟨((j : Int) - 1, ()), ?_, ⟨j, by omega, rfl, ?_⟩, by dsimp only; omega, zd⟩
   ·refine uT sd (uN sd (uN sd (uF (by rw [c2]; simp) ?_)))
    repeat refine za ?_
    rw [aaJ, aaA zb]
   ·rw [h2]; show (if _ then _ else _) = _; rw [if_neg (fun h => h c2)]
  ·right
   refine uT sd (uN sd (uN sd (uT (by simpa using c2) (uN sd (uN sd ?_)))))
   rw [aaJ, aaA zb, h2]
   show _ = some (Sum.inr (if _ then _ else _, ()))
   rw [if_pos c2]
theorem axJ {a b : List Int} (ha : Dg 10000 a) (hb : Dg 10000 b) : ∀ k, (aIM a b k < 0 ↔ V 10000 (a.take k) < V 10000 (b.take k)) ∧ (aIM a b k = 0 ↔ V 10000 (a.take k) = V 10000 (b.take k))
 | 0 => by simp [aIM]
 | k + 1 => by
  obtain ⟨i1, i2⟩ := axJ ha hb k
  have ea := aaT 10000 a k
  have eb := aaT 10000 b k
  have la := acO zb ha k
  have lb := acO zb hb k
  have na := aaH zb (ab0 ha k)
  have nb := aaH zb (ab0 hb k)
  unfold aIM
  rw [ea, eb]
  by_cases c : a.getD k 0 = b.getD k 0
  ·rw [if_neg (fun h => h c), c]
   omega
  ·rw [if_pos c]
   rcases zS (a.getD k 0) (b.getD k 0) with h | h
   ·have h5 : (10000 : Int) ^ k * (a.getD k 0 + 1) ≤ 10000 ^ k * b.getD k 0 := zy zb zb
    rw [xU] at h5
    omega
   ·have h5 : (10000 : Int) ^ k * (b.getD k 0 + 1) ≤ 10000 ^ k * a.getD k 0 := zy zb zb
    rw [xU] at h5
    omega
theorem aCj (m n : Nat) : (aLe (dig m) (dig n) < 0 ↔ m < n) ∧ (aLe (dig m) (dig n) = 0 ↔ m = n) := by
 unfold aLe
 by_cases c : (dig m).length = (dig n).length
 ·rw [if_neg (fun h => h c)]
  obtain ⟨h1, h2⟩ := axJ (acS m) (acS n) (dig m).length
  rw [aa6 _ (zi _), aa6 _ zb, af1, af1] at h1 h2
  omega
 ·rw [if_pos c]
  rcases zv (dig m).length (dig n).length with h | h
  ·have := ajU h; omega
  ·have := ajU (m := n) (n := m) zb; omega
theorem aIT {a b s : List Int} {k : Nat} {c x c' : Int} (h5 : s.length = k) (h7 : V 10000 s + 10000 ^ k * c = V 10000 (a.take k) + V 10000 (b.take k)) (hx : x + 10000 * c' = a.getD k 0 + b.getD k 0 + c) : V 10000 (s ++ [x]) + 10000 ^ (k + 1) * c' = V 10000 (a.take (k + 1)) + V 10000 (b.take (k + 1)) := by
 rw [adA, asZ, h5, aaT, aaT, yp]
 have : (10000 : Int) ^ k * (x + 10000 * c') = 10000 ^ k * (a.getD k 0 + b.getD k 0 + c) := by rw [hx]
 grind
theorem aIS {x : Int} (h : 0 ≤ x) : Int.tdiv x 10000 = x / 10000 := zM h
theorem aIR {x : Int} (h : 0 ≤ x) : Int.tmod x 10000 = x % 10000 := zY h
theorem aDq (m o : List Int) (y) (h : ao1 (m, o, ()) = some y) : (aCd m o).toO = some y := by
 obtain ⟨⟨a, b⟩, hn, hx, rfl⟩ := aaF h
 obtain ⟨rfl, hx2⟩ := Prod.mk.inj hx; obtain ⟨rfl, -⟩ := Prod.mk.inj hx2; dsimp only
 obtain ⟨la, lb⟩ := hn
 simp only at la lb
 have hda := acS a
 have hdb := acS b
 have hVa := af1 a
 have hVb := af1 b
 clear hx hx2 h
 have hca := aCO a
 have hcb := aCO b
 generalize dig a = A at *
 generalize dig b = B at *
 refine uO (0, 0, true, [], ()) rfl ?_
 refine aaM (fun i : Int × Int × Bool × List Int × Unit => ∃ k : Nat, k ≤ A.length + B.length + 1 ∧ i.1 = (k : Int) ∧ 0 ≤ i.2.1 ∧ i.2.1 ≤ 1 ∧ i.2.2.2.1.length = k ∧ Dg 10000 i.2.2.2.1 ∧ V 10000 i.2.2.2.1 + 10000 ^ k * i.2.1 = V 10000 (A.take k) + V 10000 (B.take k) ∧ (i.2.2.1 = true → i.2.2.2.1 = []) ∧ (A.length ≤ k → B.length ≤ k → i.2.1 = 0 → Cn i.2.2.2.1) ∧ (i.2.1 = 0 ∨ k ≤ A.length ∨ k ≤ B.length)) (fun i => (((A.length + B.length + 2 : Nat) : Int) - i.1).toNat) (fun _ => (dig (a + b), ())) ?_ _ ⟨0, by omega, rfl, by simp, by simp, rfl, aoF _, by simp [V], fun _ => rfl, fun _ _ _ => aoG, Or.inl rfl⟩
 rintro ⟨i, c, f, s, u⟩ ⟨k, h1, h2, h3, h4, h5, h6, h7, h8, h9, h10⟩
 dsimp only at h2 h3 h4 h5 h6 h7 h8 h9 h10
 subst h2
 have da := aaR zb hda k
 have db := aaR zb hdb k
 have hS : 0 ≤ A.getD k 0 + B.getD k 0 + c := zb
 by_cases hgo : k < A.length ∨ k < B.length ∨ 0 < c
 ·left
  have e1 := yi (A.getD k 0 + B.getD k 0 + c) 10000
  refine ⟨(((k + 1 : Nat) : Int), (A.getD k 0 + B.getD k 0 + c) / 10000, false, s ++ [(A.getD k 0 + B.getD k 0 + c) % 10000], ()), ?_, ⟨k + 1, by omega, rfl, by dsimp only; omega, by dsimp only; omega, by simp; omega, adS h6 (aiV zb zb), aIT h5 h7 e1, by simp, ?_, ?_⟩, by dsimp only; omega, zd⟩
  ·have zA : ¬ k < A.length → A.getD k 0 = 0 := fun h => afT zb 0
   have zB : ¬ k < B.length → B.getD k 0 = 0 := fun h => afT zb 0
   have eD : ∀ x : Int, x = A.getD k 0 + B.getD k 0 + c → Int.tdiv x 10000 = (A.getD k 0 + B.getD k 0 + c) / 10000 ∧ Int.tmod x 10000 = (A.getD k 0 + B.getD k 0 + c) % 10000 := fun x hx => by rw [hx]; exact ⟨aIS hS, aIR hS⟩
   have w1 : w64 (c + A.getD k 0) = c + A.getD k 0 := aaA zb
   have w2 : w64 (c + A.getD k 0 + B.getD k 0) = c + A.getD k 0 + B.getD k 0 := aaA zb
   have w3 : w64 (c + B.getD k 0) = c + B.getD k 0 := aaA zb
   have w4 : w64 ((A.getD k 0 + B.getD k 0 + c) / 10000) = (A.getD k 0 + B.getD k 0 + c) / 10000 := aaA zb
   have w5 : w64 ((k : Int) + 1) = ((k + 1 : Nat) : Int) := by rw [aaA (x := (k : Int) + 1) zb]; omega
   cases f with
   | true =>
    obtain rfl := h8 rfl
    simp only [ah7, acX, acY, aaK, w1, w2, w3, w5]
    by_cases cA : k < A.length <;> by_cases cB : k < B.length
    ·obtain ⟨q1, q2⟩ := eD (c + A.getD k 0 + B.getD k 0) zb
     simp only [q1, q2, w4]
     repeat refine za ?_
     rfl
    ·obtain ⟨q1, q2⟩ := eD (c + A.getD k 0) (by have := zB cB; omega)
     simp only [q1, q2, w4]
     repeat refine za ?_
     rfl
    ·obtain ⟨q1, q2⟩ := eD (c + B.getD k 0) (by have := zA cA; omega)
     simp only [q1, q2, w4]
     repeat refine za ?_
     rfl
    ·obtain ⟨q1, q2⟩ := eD c (by have := zA cA; have := zB cB; omega)
     have hc0 : 0 < c := zb
     simp only [q1, q2, w4]
     repeat refine za ?_
     rfl
   | false =>
    simp only [ah7, acX, acY, aaK, w1, w2, w3, w5, zp]
    by_cases cA : k < A.length <;> by_cases cB : k < B.length
    ·obtain ⟨q1, q2⟩ := eD (c + A.getD k 0 + B.getD k 0) zb
     simp only [q1, q2, w4]
     repeat refine za ?_
     rfl
    ·obtain ⟨q1, q2⟩ := eD (c + A.getD k 0) (by have := zB cB; omega)
     simp only [q1, q2, w4]
     repeat refine za ?_
     rfl
    ·obtain ⟨q1, q2⟩ := eD (c + B.getD k 0) (by have := zA cA; omega)
     simp only [q1, q2, w4]
     repeat refine za ?_
     rfl
    ·obtain ⟨q1, q2⟩ := eD c (by have := zA cA; have := zB cB; omega)
     have hc0 : 0 < c := zb
     simp only [q1, q2, w4]
     repeat refine za ?_
     rfl
  ·intro g1 g2 g3
   dsimp only at g3 ⊢
   unfold Cn
   simp only [List.getLast?_concat, ne_eq, Option.some.injEq]
   intro g4
   have hz : A.getD k 0 + B.getD k 0 + c = 0 := zb
   have ca : ¬ k < A.length := by
    intro hk
    have : k = A.length - 1 := zb
    unfold Cn at hca
    rw [yO, ← this, zJ hk] at hca
    rw [ahK hk] at *
    exact hca (by congr 1; omega)
   have cb : ¬ k < B.length := by
    intro hk
    have : k = B.length - 1 := zb
    unfold Cn at hcb
    rw [yO, ← this, zJ hk] at hcb
    rw [ahK hk] at *
    exact hcb (by congr 1; omega)
   omega
  ·dsimp only
   by_cases cA : k < A.length
   ·right; left; omega
   ·by_cases cB : k < B.length
    ·right; right; omega
    ·left
     have := afT (l := A) (k := k) zb 0
     have := afT (l := B) (k := k) zb 0
     omega
 ·right
  have hc : c = 0 := zb
  subst hc
  rw [aa6 _ zb, aa6 _ zb, hVa, hVb] at h7
  have hs : s = dig (a + b) := awI h6 (h9 zb zb rfl) zb
  cases f with
  | true =>
   obtain rfl := h8 rfl
   unfold ah7 acX acY
   repeat refine za ?_
   rw [← hs]; rfl
  | false =>
   unfold ah7 acX acY
   repeat refine za ?_
   rw [← hs, aaJ, zp]
theorem aiT {a b : List Int} (h1 : Dg 10000 a) (h2 : Dg 10000 b) (h3 : a.length ≤ 1000000000000) (h4 : b.length ≤ a.length) (h5 : V 10000 b ≤ V 10000 a) {n : Nat} (hn : V 10000 a - V 10000 b = n) : aa3 (a, b, ()) = some (dig n, ()) := by
 unfold aa3
 rw [if_pos ⟨h1, h2, h3, h4, h5⟩]
 simp only [hn, zj]
theorem aHB {a b s : List Int} {k : Nat} {c x c' : Int} (h5 : s.length = k) (h7 : V 10000 s = V 10000 (a.take k) - V 10000 (b.take k) + 10000 ^ k * c) (hx : x = a.getD k 0 - b.getD k 0 - c + 10000 * c') : V 10000 (s ++ [x]) = V 10000 (a.take (k + 1)) - V 10000 (b.take (k + 1)) + 10000 ^ (k + 1) * c' := by
 rw [adA, asZ, h5, aaT, aaT, yp, h7, hx]
 grind
theorem amI (A B : List Int) (y) (h : aa3 (A, B, ()) = some y) : (ah8 A B).toO = some y := by
 unfold aa3 at h
 split at h
 case isFalse => cases h
 case isTrue hp =>
 obtain ⟨hda, hdb, la, lb, hle⟩ := hp
 dsimp only at hda hdb la lb hle h
 injection h with h
 subst h
 refine uO (0, 0, true, [], ()) rfl ?_
 refine aaM (fun i : Int × Int × Bool × List Int × Unit => ∃ k : Nat, k ≤ A.length ∧ i.1 = (k : Int) ∧ 0 ≤ i.2.1 ∧ i.2.1 ≤ 1 ∧ i.2.2.2.1.length = k ∧ Dg 10000 i.2.2.2.1 ∧ V 10000 i.2.2.2.1 = V 10000 (A.take k) - V 10000 (B.take k) + 10000 ^ k * i.2.1 ∧ (i.2.2.1 = true → i.2.2.2.1 = [])) (fun i => ((A.length : Int) - i.1).toNat) (fun _ => (dig (V 10000 A - V 10000 B).toNat, ())) ?_ _ ⟨0, by omega, rfl, by simp, by simp, rfl, aoF _, by simp [V], fun _ => rfl⟩
 rintro ⟨i, c, f, s, u⟩ ⟨k, h1, h2, h3, h4, h5, h6, h7, h8⟩
 dsimp only at h2 h3 h4 h5 h6 h7 h8
 subst h2
 have da := aaR zb hda k
 have db := aaR zb hdb k
 have w5 : w64 ((k : Int) + 1) = ((k + 1 : Nat) : Int) := by rw [aaA (x := (k : Int) + 1) zb]; omega
 have w1 : w64 (A.getD k 0 - c) = A.getD k 0 - c := aaA zb
 have w2 : w64 (A.getD k 0 - c - B.getD k 0) = A.getD k 0 - c - B.getD k 0 := aaA zb
 have w3 : w64 (A.getD k 0 - c + 10000) = A.getD k 0 - c + 10000 := aaA zb
 have w4 : w64 (A.getD k 0 - c - B.getD k 0 + 10000) = A.getD k 0 - c - B.getD k 0 + 10000 := aaA zb
 rcases zv k A.length with hk | hk
 ·left
  have fin : ∀ x c' : Int, 0 ≤ x ∧ x < 10000 → 0 ≤ c' ∧ c' ≤ 1 → x = A.getD k 0 - B.getD k 0 - c + 10000 * c' → (∃ k_1 : Nat, k_1 ≤ A.length ∧ ((k + 1 : Nat) : Int) = (k_1 : Int) ∧ 0 ≤ c' ∧ c' ≤ 1 ∧ (s ++ [x]).length = k_1 ∧ Dg 10000 (s ++ [x]) ∧ V 10000 (s ++ [x]) = V 10000 (A.take k_1) - V 10000 (B.take k_1) + 10000 ^ k_1 * c' ∧ (false = true → (s ++ [x]) = [])) ∧ ((A.length : Int) - ((k + 1 : Nat) : Int)).toNat < ((A.length : Int) - (k : Int)).toNat :=
   fun x c' hx hc he => ⟨⟨k + 1, by omega, rfl, hc.1, hc.2, by simp; omega, adS h6 (aiV hx.1 hx.2), aHB h5 h7 he, by simp⟩, by omega⟩
  have zB : ¬ k < B.length → B.getD k 0 = 0 := fun h => afT zb 0
  by_cases cn : A.getD k 0 - c - B.getD k 0 < 0
  ·obtain ⟨g1, g2⟩ := fin (A.getD k 0 - c - B.getD k 0 + 10000) 1 zb zb zb
   refine ⟨(((k + 1 : Nat) : Int), 1, false, s ++ [A.getD k 0 - c - B.getD k 0 + 10000], ()), ?_, g1, g2, zd⟩
   cases f with
   | true =>
    obtain rfl := h8 rfl
    simp only [abM, aaK, w1, w2, w3, w4, w5]
    by_cases cB : k < B.length
    ·repeat refine za ?_
     rfl
    ·have := zB cB
     rw [this, wE] at *
     repeat refine za ?_
     rfl
   | false =>
    simp only [abM, aaK, w1, w2, w3, w4, w5, zp]
    by_cases cB : k < B.length
    ·repeat refine za ?_
     rfl
    ·have := zB cB
     rw [this, wE] at *
     repeat refine za ?_
     rfl
  ·obtain ⟨g1, g2⟩ := fin (A.getD k 0 - c - B.getD k 0) 0 zb zb zb
   refine ⟨(((k + 1 : Nat) : Int), 0, false, s ++ [A.getD k 0 - c - B.getD k 0], ()), ?_, g1, g2, zd⟩
   cases f with
   | true =>
    obtain rfl := h8 rfl
    simp only [abM, aaK, w1, w2, w3, w4, w5]
    by_cases cB : k < B.length
    ·repeat refine za ?_
     rfl
    ·have := zB cB
     rw [this, wE] at *
     repeat refine za ?_
     rfl
   | false =>
    simp only [abM, aaK, w1, w2, w3, w4, w5, zp]
    by_cases cB : k < B.length
    ·repeat refine za ?_
     rfl
    ·have := zB cB
     rw [this, wE] at *
     repeat refine za ?_
     rfl
 ·right
  have hkk : k = A.length := zb
  subst hkk
  rw [aa6 _ (zi _), aa6 _ lb] at h7
  have hlt := aEI zb h6
  rw [h5] at hlt
  have hc : c = 0 := by
   rcases zS 0 c with hc | hc
   ·have hc1 : c = 1 := zb
    subst hc1
    omega
   ·omega
  subst hc
  cases f with
  | true =>
   obtain rfl := h8 rfl
   unfold abM
   refine uT rfl (uF sd (uC (dig (V 10000 A - V 10000 B).toNat, ()) (aeS h6 zg zb) rfl))
  | false =>
   unfold abM
   dsimp only
   rw [zp]
   refine uF rfl (uF sd (uC (dig (V 10000 A - V 10000 B).toNat, ()) (aeS h6 zb zb) rfl))
theorem aEE (Vs P c A K x T X Y d e Q B : Int) (h : Vs + P * c = A + K * (x * T)) (h2 : X + B * Y = c + d + x * e) (hP : P = K * Q) : Vs + P * (X - d) + P * B * Y = A + K * (x * (T + Q * e)) := by
 subst hP
 have h3 : K * Q * (X + B * Y) = K * Q * (c + d + x * e) := by rw [h2]
 grind
theorem aDW {a b B : Int} (ha : 0 ≤ a ∧ a < B) (hb : 0 ≤ b ∧ b < B) : 0 ≤ a * b ∧ a * b ≤ (B - 1) * (B - 1) := by
 refine ⟨xn ha.1 hb.1, ?_⟩
 have h1 : a * b ≤ a * (B - 1) := zy zb ha.1
 have h2 : a * (B - 1) ≤ (B - 1) * (B - 1) := zH zb zb
 omega
theorem aiS {a b : List Int} (h1 : Dg 10000 a) (h2 : Dg 10000 b ∨ b = [10000]) (h3 : a.length ≤ 400000000000) (h4 : b.length ≤ 400000000000) {n : Nat} (hn : V 10000 a * V 10000 b = n) : abH (a, b, ()) = some (dig n, ()) := by
 unfold abH
 rw [if_pos ⟨h1, h2, h3, h4⟩]
 simp only [hn, zj]
theorem avR (A D : List Int) (hda : Dg 10000 A) (hdb : Dg 10000 D) (la : A.length ≤ 400000000000) (lb : D.length ≤ 400000000000) : (adW A D).toO = some (dig (V 10000 A * V 10000 D).toNat, ()) := by
 have nb := aaH zb hdb
 have hw : w64 (len A + len D) = ((A.length + D.length : Nat) : Int) := by
  simp only [aaD]; rw [aaA (x := (A.length : Int) + D.length) zb]; omega
 unfold adW
 simp only [hw]
 refine uN zb ?_
 refine uO (0, List.replicate (A.length + D.length) 0, ()) ?_ ?_
 ·repeat refine za ?_
  simp (disch := omega) only [aaJ, aaA, aaG, aaQ, abR, aaK, zo, zj, aaD, zp]
 have hBb : V 10000 D < 10000 ^ D.length := aEI zb hdb
 refine aaM (fun i => ∃ k : Nat, k ≤ A.length ∧ i.1 = (k : Int) ∧ i.2.1.length = A.length + D.length ∧ Dg 10000 i.2.1 ∧ V 10000 i.2.1 = V 10000 (A.take k) * V 10000 D) (fun i => ((A.length : Int) - i.1).toNat) (fun _ => (dig (V 10000 A * V 10000 D).toNat, ())) ?_ _ ⟨0, zN _, rfl, by simp, afD zb _, by simp [V, ar2]⟩
 rintro ⟨i, s, u⟩ ⟨k, h1, h2, h3, h4, h5⟩
 simp only at h2 h3 h4 h5
 subst h2
 simp only [ahF, aaK, hw]
 have ea := aaT 10000 A k
 have da := aaR zb hda k
 rcases zv k A.length with hk | hk
 ·left
  have hs : V 10000 s < 10000 ^ (k + D.length) := by
   rw [h5, xJ]
   have e1 := acO zb hda k
   have e2 := aaH zb (ab0 hda k)
   have e3 : V 10000 (A.take k) * V 10000 D ≤ V 10000 (A.take k) * 10000 ^ D.length := zy zb e2
   have e4 : V 10000 (A.take k) * 10000 ^ D.length < 10000 ^ k * 10000 ^ D.length := Int.mul_lt_mul_of_pos_right e1 (yI zb)
   omega
  have hz := aiF zb h4 hs
  obtain ⟨r, hin, s', rfl, q1, q2, q3⟩ : ∃ r : ((Int × List Int × Unit) ⊕ (List Int × Unit)), ac0 (fun i1 => (ac7 A D ((k : Int), s, ()) i1).toO) (0, 0, s, ()) = some r ∧ ∃ s', r = Sum.inl (((k + 1 : Nat) : Int), s', ()) ∧ s'.length = A.length + D.length ∧ Dg 10000 s' ∧ V 10000 s' = V 10000 (A.take (k + 1)) * V 10000 D := by
   refine agW (fun j => ∃ q : Nat, q ≤ D.length ∧ j.1 = (q : Int) ∧ 0 ≤ j.2.1 ∧ j.2.1 < 10000 ∧ j.2.2.1.length = A.length + D.length ∧ Dg 10000 j.2.2.1 ∧ (∀ t, k + D.length ≤ t → j.2.2.1.getD t 0 = 0) ∧ V 10000 j.2.2.1 + 10000 ^ (k + q) * j.2.1 = V 10000 (A.take k) * V 10000 D + 10000 ^ k * (A.getD k 0 * V 10000 (D.take q))) (fun j => ((D.length : Int) - j.1).toNat) _ ?_ _ ⟨0, zN _, rfl, by simp, by simp, h3, h4, hz, by simp [V, h5]⟩
   rintro ⟨j, c, s1, u1⟩ ⟨q, g1, g2, g3, g4, g5, g6, g7, g8⟩
   simp only at g2 g3 g4 g5 g6 g7 g8
   subst g2
   have hkq : w64 ((k : Int) + q) = ((k + q : Nat) : Int) := by rw [aaA (x := (k : Int) + q) zb]; omega
   have hkl : w64 ((k : Int) + len D) = ((k + D.length : Nat) : Int) := by rw [aaD, aaA (x := (k : Int) + (D.length : Int)) zb]; omega
   simp only [ac7, aaK, hw, hkq, hkl, zj, zo]
   have eb := aaT 10000 D q
   have db := aaR zb hdb q
   have ds := aaR zb g6 (k + q)
   have hm := aDW da db
   rcases zv q D.length with hq | hq
   ·left
    have hsum : 0 ≤ c + s1.getD (k + q) 0 + A.getD k 0 * D.getD q 0 := zb
    have e1 := yi (c + s1.getD (k + q) 0 + A.getD k 0 * D.getD q 0) 10000
    have ww : w64 (w64 (c + s1.getD (k + q) 0) + w64 (A.getD k 0 * D.getD q 0)) = c + s1.getD (k + q) 0 + A.getD k 0 * D.getD q 0 := by
     rw [aaA (x := c + s1.getD (k + q) 0) zb, aaA (x := A.getD k 0 * D.getD q 0) zb, aaA zb]
    simp only [ww]
    have e2 : 0 ≤ (c + s1.getD (k + q) 0 + A.getD k 0 * D.getD q 0) % 10000 ∧ (c + s1.getD (k + q) 0 + A.getD k 0 * D.getD q 0) % 10000 < 10000 := zb
    have e3 : 0 ≤ (c + s1.getD (k + q) 0 + A.getD k 0 * D.getD q 0) / 10000 ∧ (c + s1.getD (k + q) 0 + A.getD k 0 * D.getD q 0) / 10000 < 10000 := zb
    refine ⟨(((q + 1 : Nat) : Int), (c + s1.getD (k + q) 0 + A.getD k 0 * D.getD q 0) / 10000, s1.set (k + q) ((c + s1.getD (k + q) 0 + A.getD k 0 * D.getD q 0) % 10000), ()), ?_, ⟨q + 1, by omega, rfl, e3.1, e3.2, by simp; omega, ahC g6 e2 _, ?_, ?_⟩, by simp only; omega⟩
    ·repeat refine za ?_
     rw [zY hsum, zM hsum, aaA (x := (q : Int) + 1) zb, aaA (x := (c + s1.getD (k + q) 0 + A.getD k 0 * D.getD q 0) / 10000) zb]
     rfl
    ·intro t ht
     rw [akC _ zb]; exact g7 t ht
    ·simp only
     rw [asY _ zb, eb, show k + (q + 1) = k + q + 1 by omega, yp]
     exact aEE _ _ _ _ _ _ _ _ _ _ _ _ _ g8 e1 (xJ _ _ _)
   ·right
    have hqq : q = D.length := zb
    subst hqq
    rw [aa6 _ (zi _)] at g8
    refine ⟨.inl (((k + 1 : Nat) : Int), s1.set (k + D.length) c, ()), ?_, _, rfl, by simp; omega, ahC g6 ⟨g3, g4⟩ _, ?_⟩
    ·repeat refine za ?_
     rw [aaA (x := (k : Int) + 1) zb]
     rfl
    ·rw [asY _ zb, g7 _ zb, ea, Int.add_mul]
     simp only [wE]
     rw [g8]
     grind
  refine ⟨(((k + 1 : Nat) : Int), s', ()), ?_, ⟨k + 1, by omega, rfl, q1, q2, q3⟩, by simp only; omega, zd⟩
  refine uT sd ?_
  refine uO (0, 0, s, ()) ?_ ?_
  ·repeat refine za ?_
   rfl
  ·exact hin
 ·right
  have hkk : k = A.length := zb
  rw [hkk, aa6 _ (zi _)] at h5
  have hnn := aaH zb h4
  refine uF sd ?_
  refine uC (dig (V 10000 A * V 10000 D).toNat, ()) ?_ ?_
  ·rw [zq zf]
   exact aeS h4 zb zb
  ·rfl
theorem apO (A : List Int) (hda : Dg 10000 A) (la : A.length ≤ 400000000000) : (adW A [10000]).toO = some (dig (V 10000 A * V 10000 [10000]).toNat, ()) := by
 have na := aaH zb hda
 have hV1 : V 10000 [10000] = 10000 := by simp [V]
 have hw : w64 (len A + len [(10000 : Int)]) = ((A.length + 1 : Nat) : Int) := by
  simp only [aaD, yh]; rw [aaA zb]; omega
 unfold adW
 simp only [hw]
 refine uN zb ?_
 refine uO (0, List.replicate (A.length + 1) 0, ()) ?_ ?_
 ·repeat refine za ?_
  simp (disch := omega) only [aaJ, aaA, aaG, aaQ, abR, aaK, zo, zj, aaD, zp]
 refine aaM (fun i => ∃ k : Nat, k ≤ A.length ∧ i.1 = (k : Int) ∧ i.2.1 = ((0 :: A.take k) ++ List.replicate (A.length - k) 0)) (fun i => ((A.length : Int) - i.1).toNat) (fun _ => (dig (V 10000 A * V 10000 [10000]).toNat, ())) ?_ _ ⟨0, zN _, rfl, by simp [xf]⟩
 rintro ⟨i, s, u⟩ ⟨k, h1, h2, h3⟩
 simp only at h2 h3
 subst h2 h3
 simp only [ahF, aaK, hw]
 have da := aaR zb hda k
 rcases zv k A.length with hk | hk
 ·left
  have hrep : List.replicate (A.length - k) (0 : Int) = 0 :: List.replicate (A.length - (k + 1)) 0 := by
   rw [show A.length - k = (A.length - (k + 1)) + 1 by omega, xf]
  have hset : ((0 :: A.take k) ++ List.replicate (A.length - k) 0).set (k + 1) A[k] = ((0 :: A.take (k + 1)) ++ List.replicate (A.length - (k + 1)) 0) := by
   rw [hrep, List.set_append_right _ _ zf]
   have : k + 1 - (0 :: A.take k).length = 0 := zf
   rw [this, List.set_cons_zero]
   simp only [yU, yf hk, zW, yk]
  have hcur : 0 ≤ ((0 :: A.take k) ++ List.replicate (A.length - k) 0).getD k 0 ∧ ((0 :: A.take k) ++ List.replicate (A.length - k) 0).getD k 0 < 10000 := by
   refine aaR zb (adS (axC zb (ab0 hda k)) (afD zb _)) k
  have hlen : ((0 :: A.take k) ++ List.replicate (A.length - k) 0).length = A.length + 1 := zf
  generalize ((0 :: A.take k) ++ List.replicate (A.length - k) 0) = s at *
  generalize hd : s.getD k 0 = d at hcur
  have hg : A.getD k 0 = A[k] := by simp [hk]
  rw [hg] at da
  refine ⟨(((k + 1 : Nat) : Int), ((0 :: A.take (k + 1)) ++ List.replicate (A.length - (k + 1)) 0), ()), ?_, ⟨k + 1, by omega, rfl, rfl⟩, by simp only; omega, zd⟩
  refine uT sd ?_
  refine uO (0, 0, s, ()) ?_ ?_
  ·repeat refine za ?_
   rfl
  have hk0 : w64 ((k : Int) + 0) = ((k : Nat) : Int) := by rw [aaA zb]; omega
  have hkl : w64 ((k : Int) + len [(10000 : Int)]) = ((k + 1 : Nat) : Int) := by rw [aaD, yh, aaA zb]; omega
  have hsum : w64 (w64 (0 + d) + w64 (A[k] * 10000)) = d + A[k] * 10000 := by
   rw [aaA (x := 0 + d) zb, aaA (x := A[k] * 10000) zb, aaA zb]; omega
  have s1 : (ac7 A [10000] ((k : Int), s, ()) (0, 0, s, ())).toO = some (.inl (1, A[k], s, ())) := by
   simp only [ac7, aaK, hw, hk0, zj, zo, hd, hg]
   have hgi : gi [(10000 : Int)] 0 0 = 10000 := rfl
   simp only [hgi, hsum]
   refine uT (by (try simp only [zV, xc, xi, xo, beq_eq_false_iff_ne, bne_eq_false_iff_eq, yc, xr]) <;> (try simp only [aaD, inb, inc, ge_iff_le, gt_iff_lt, zj, asT, ne_eq]) <;> simp) (uN sd (uN sd (uN (by (try simp only [aaD, inb, inc, ge_iff_le, gt_iff_lt, zj, asT, ne_eq]); simp) ?_)))
   repeat refine za ?_
   rw [zY zb, zM zb]
   have m1 : (d + A[k] * 10000) % 10000 = d := zb
   have m2 : (d + A[k] * 10000) / 10000 = A[k] := zb
   have m3 : s.set k d = s := by
    rw [← hd, ahK zb]
    exact List.set_getElem_self zb
   rw [m1, m2, m3, aaA (x := A[k]) zb]
   rfl
  rw [aeE s1]
  refine adY ?_
  simp only [ac7, hw, hkl, zj, zo]
  refine uF (by (try simp only [zV, xc, xi, xo, beq_eq_false_iff_ne, bne_eq_false_iff_eq, yc, xr]) <;> (try simp only [aaD, inb, inc, ge_iff_le, gt_iff_lt, zj, asT, ne_eq]) <;> simp) (uN sd ?_)
  repeat refine za ?_
  rw [hset, aaA (x := (k : Int) + 1) zb]
  rfl
 ·right
  have hkk : k = A.length := zb
  subst hkk
  rw [Nat.sub_self, List.replicate_zero, xe, zp]
  refine uF sd ?_
  refine uC (dig (V 10000 A * V 10000 [10000]).toNat, ()) ?_ ?_
  ·rw [zq zg]
   refine aeS (axC zb hda) zf ?_
   rw [hV1]
   show 0 + 10000 * V 10000 A = _
   omega
  ·rfl
theorem asK (A D : List Int) (y) (h : abH (A, D, ()) = some y) : (adW A D).toO = some y := by
 unfold abH at h
 split at h
 case isFalse => cases h
 case isTrue hp =>
 obtain ⟨hda, hdb, la, lb⟩ := hp
 dsimp only at hda hdb la lb h
 injection h with h
 subst h
 rcases hdb with hdb | rfl
 ·exact avR A D hda hdb la lb
 ·exact apO A hda la
theorem aIn {a d : Nat} (h1 : (dig a).length ≤ 1000000000000) (h2 : 0 < d) (h3 : d < 10000) : alX (dig a, (d : Int), ()) = some (dig (a / d), ((a % d : Nat) : Int), ()) := by
 refine aaN (enc := fun p : Nat × Nat => (dig p.1, (p.2 : Int), ())) (a, d) ⟨h1, h2, h3⟩ (fun b hb => ?_)
 obtain ⟨e1, e2⟩ := Prod.mk.inj hb
 obtain ⟨e2, -⟩ := Prod.mk.inj e2
 exact Prod.ext (arH e1) (Int.ofNat.inj e2)
theorem aEF (Vm Vq P d R m X Y B W : Int) (h : Vm = Vq * d + R) (h2 : Y + d * X = R * B + m) (hW : W = m + B * Vm) (hP : P = X + B * Vq) : W = P * d + Y := by
 subst hW hP h
 grind
theorem aAH (m : List Int) (d : Int) (y) (h : alX (m, d, ()) = some y) : (apR m d).toO = some y := by
 obtain ⟨⟨a, e⟩, hn, hx, rfl⟩ := aaF h
 obtain ⟨rfl, hx2⟩ := Prod.mk.inj hx; obtain ⟨rfl, -⟩ := Prod.mk.inj hx2; dsimp only
 obtain ⟨la, he, he2⟩ := hn
 simp only at la he he2
 have hda := acS a
 have hVa := af1 a
 unfold apR
 refine uN sn ?_
 refine uO (((dig a).length : Int) - 1, 0, List.replicate (dig a).length 0, ()) ?_ ?_
 ·repeat refine za ?_
  simp only [aaD]
  rw [aaA (x := ((dig a).length : Int) - 1) zb]
  rfl
 refine aaM (fun i : Int × Int × List Int × Unit => ∃ k : Nat, k ≤ (dig a).length ∧ i.1 = (k : Int) - 1 ∧ 0 ≤ i.2.1 ∧ i.2.1 < e ∧ i.2.2.1.length = (dig a).length ∧ Dg 10000 i.2.2.1 ∧ V 10000 ((dig a).drop k) = V 10000 (i.2.2.1.drop k) * e + i.2.1) (fun i => (i.1 + 1).toNat) (fun _ => (dig (a / e), ((a % e : Nat) : Int), ())) ?_ _ ⟨_, zi _, rfl, by simp, by simp; omega, by simp, afD zb _, by rw [acH _ (zi _), acH _ zg]; simp⟩
 rintro ⟨i, r, q, u⟩ ⟨k, h1, h2, h3, h4, h5, h6, h7⟩
 simp only at h2 h3 h4 h5 h6 h7
 subst h2
 rcases zF k with h0 | h0
 ·subst h0
  right
  simp only [yv, hVa] at h7
  obtain ⟨v, hv⟩ := zG (aaH zb h6)
  obtain ⟨r', rfl⟩ := zG h3
  rw [hv] at h7
  have h8 : a = v * e + r' := by
   have : (a : Int) = ((v * e + r' : Nat) : Int) := by simpa using h7
   exact Int.ofNat.inj this
  have h9 : a / e = v := by rw [h8, yK, wg _ _ he, yN zb, zo]
  have h10 : a % e = r' := by rw [h8, yK, xF, yr zb]
  simp only [amH]
  refine uF sd ?_
  refine uC (dig v, ()) ?_ ?_
  ·rw [zq (by simp [len]; omega)]
   exact aeS h6 zb hv
  ·rw [aaJ, h9, h10]
 ·left
  obtain ⟨j, rfl⟩ : ∃ j, k = j + 1 := ⟨k - 1, by omega⟩
  have e6 : ((j + 1 : Nat) : Int) - 1 = (j : Int) := zb
  rw [e6]
  simp only [amH, aaK]
  have e1 := aaI 10000 (dig a) j
  have e2 := aaR zb hda j
  have g1 : 0 ≤ r * 10000 + (dig a).getD j 0 := zb
  have g0 : (0 : Int) < e := zb
  have g2 := yi (r * 10000 + (dig a).getD j 0) e
  have g3 := xy (r * 10000 + (dig a).getD j 0) (show (e : Int) ≠ 0 by omega)
  have g4 := xq (r * 10000 + (dig a).getD j 0) g0
  have g5 : 0 ≤ (r * 10000 + (dig a).getD j 0) / e := xC g1 zb
  have g6 : (r * 10000 + (dig a).getD j 0) / e < 10000 := by
   refine Int.ediv_lt_of_lt_mul g0 ?_
   have : (r + 1) * 10000 ≤ e * 10000 := zH zb zb
   omega
  have hw1 : w64 (w64 (r * 10000) + (dig a).getD j 0) = r * 10000 + (dig a).getD j 0 := by
   rw [aaA (x := r * 10000) zb, aaA zb]
  simp only [hw1]
  refine ⟨((j : Int) - 1, (r * 10000 + (dig a).getD j 0) % e, q.set j ((r * 10000 + (dig a).getD j 0) / e), ()), ?_, ⟨j, by omega, rfl, g3, g4, by simp; omega, ahC h6 ⟨g5, g6⟩ _, ?_⟩, by simp only; omega, zd⟩
  ·repeat refine za ?_
   rw [zY g1, zM g1]
   rw [aaA (x := (r * 10000 + (dig a).getD j 0) / e) zb]
   simp (disch := omega) only [aaJ, aaA, aaG, aaQ, abR, aaK, zo, zj, aaD, zp]
  ·simp only
   refine aEF _ _ _ _ _ _ _ _ 10000 _ h7 g2 e1 ?_
   rw [aaI 10000 (q.set j _) j, akD zb, afW _ zb]
theorem aoT {s : List UInt8} (h : isD s) (i : Nat) : isD (s.take i) := fun c hc => h c (yL hc)
theorem alN {s : List UInt8} (h : isD s) (i : Nat) : isD (s.drop i) := fun c hc => h c (xb hc)
theorem aB3 {s : List UInt8} {a i : Nat} (h1 : a ≤ i) (h2 : i < s.length) : (s.take (i + 1)).drop a = (s.take i).drop a ++ [s[i]] := by
 rw [yf h2, List.drop_append_of_le_length zf]
theorem apH {s : List UInt8} {a i : Nat} (h1 : a ≤ i) (h2 : i ≤ s.length) : ((s.take i).drop a).length = i - a := zf
theorem aGx {s : List UInt8} {a e : Nat} (h1 : a ≤ e) (h2 : e ≤ s.length) : num (s.take e) = num (s.take a) * 10 ^ (e - a) + num ((s.take e).drop a) := by
 conv => lhs; rw [← xj a (s.take e)]
 rw [ai2, apH h1 h2, yR, yu h1]
theorem aAW : num [] = 0 := rfl
theorem at8 {s : List UInt8} (hd : isD s) {a i e : Nat} (h1 : a ≤ i) (h2 : i < e) (h3 : e ≤ s.length) (h4 : e - a ≤ 9) : adH (adH ((num ((s.take i).drop a) : Int) * 10) + adH (wu8 (((s.getD i 0).toNat : Int) - 48))) = (num ((s.take (i + 1)).drop a) : Int) := by
 have hi : i < s.length := zb
 have e1 : s.getD i 0 = s[i] := by simp [hi]
 have e2 := hd s[i] (yw hi)
 have e3 := ayN (alN (aoT hd i) a)
 rw [apH h1 zb] at e3
 have e4 : (10 : Nat) ^ (i - a) ≤ 10 ^ 8 := zP zb zb
 have e5 : dv s[i] = s[i].toNat - 48 := rfl
 rw [aB3 h1 hi, ai1, e1, e5]
 rw [abR (x := (s[i].toNat : Int) - 48) zb, aaQ (x := (s[i].toNat : Int) - 48) zb, aaQ (x := (num ((s.take i).drop a) : Int) * 10) zb, aaQ zb]
 omega
theorem an5 (digits : List UInt8) (y) (h : aeM (digits, ()) = some y) : (am3 digits).toO = some y := by
 unfold aeM at h
 split at h
 case isFalse => cases h
 case isTrue hp =>
  obtain ⟨hd, hne, hl⟩ := hp
  simp only at hd hne hl
  injection h with h
  subst h
  generalize digits = s at *
  have hlen : 1 ≤ s.length := zK.2 hne
  refine uO ((s.length : Int), true, [], ()) rfl ?_
  refine aaM (fun i : Int × Bool × List Int × Unit => ∃ e : Nat, i.1 = (e : Int) ∧ 1 ≤ e ∧ e ≤ s.length ∧ Dg 1000000000 i.2.2.1 ∧ V 1000000000 i.2.2.1 + 1000000000 ^ i.2.2.1.length * num (s.take e) = num s ∧ i.2.2.1.length + e ≤ s.length ∧ (i.2.1 = true → i.2.2.1 = [])) (fun i => i.1.toNat) (fun _ => (mag (num s), ())) ?_ _ ⟨s.length, rfl, hlen, zi _, aoF _, by simp [V], by simp, fun _ => rfl⟩
  rintro ⟨e', f, l, u⟩ ⟨e, g1, g2, g3, g4, g5, g6, g7⟩
  simp only at g1 g4 g5 g6 g7
  subst g1
  obtain ⟨a, ha, ha1, ha2, ha3⟩ : ∃ a : Nat, (if 0 > w64 ((e : Int) - 9) then 0 else w64 ((e : Int) - 9)) = (a : Int) ∧ a ≤ e ∧ e - a ≤ 9 ∧ (a = 0 ∨ a + 9 = e) := by
   rw [aaA (x := (e : Int) - 9) zb]
   rcases zv e 9 with h9 | h9
   ·exact ⟨0, by rw [if_pos zb]; rfl, by omega, by omega, Or.inl rfl⟩
   ·exact ⟨e - 9, by rw [if_neg zb]; omega, by omega, by omega, Or.inr zb⟩
  have hseg := aGx (s := s) ha1 g3
  have hv := ayN (alN (aoT hd e) a)
  rw [apH ha1 g3] at hv
  have hv9 : (10 : Nat) ^ (e - a) ≤ 10 ^ 9 := zP zb ha2
  generalize hX : num ((s.take e).drop a) = X at hseg hv
  have hD : Dg 1000000000 (l ++ [(X : Int)]) := adS g4 (aiV zb zb)
  have hw9 : w64 ((e : Int) - 9) = (e : Int) - 9 := aaA zb
  have hV0 : a = 0 → V 1000000000 (l ++ [(X : Int)]) = num s := by
   intro h0
   subst h0
   rw [adA, asZ, ← g5]
   rw [hseg]
   simp [aAW]
  have hV1 : a + 9 = e → V 1000000000 (l ++ [(X : Int)]) + 1000000000 ^ (l ++ [(X : Int)]).length * (num (s.take a) : Int) = num s := by
   intro h0
   rw [adA, asZ, ← g5, hseg, show e - a = 9 by omega, zu, yh, yp]
   have : (((num (s.take a) * 10 ^ 9 + X : Nat)) : Int) = (num (s.take a) : Int) * 1000000000 + X := zg
   rw [this]
   grind
  cases f
  ·-- not the first group
   simp only [akI, ha]
   have hin : ac0 (fun i1 => (ahM s ((e : Int), false, l, ()) i1).toO) ((a : Int), 0, ()) = some (if a = 0 then Sum.inr (mag (num s), ()) else Sum.inl ((a : Int), false, l ++ [(X : Int)], ())) := by
    refine aaM (fun j : Int × Int × Unit => ∃ i : Nat, a ≤ i ∧ i ≤ e ∧ j = ((i : Int), (num ((s.take i).drop a) : Int), ())) (fun j => ((e : Int) - j.1).toNat) (fun _ => (if a = 0 then Sum.inr (mag (num s), ()) else Sum.inl ((a : Int), false, l ++ [(X : Int)], ()))) ?_ _ ⟨a, zi _, ha1, by rw [yj zf]; rfl⟩
    rintro j ⟨i, h1, h2, rfl⟩
    rcases zv i e with hi | hi
    ·left
     refine ⟨(((i + 1 : Nat) : Int), (num ((s.take (i + 1)).drop a) : Int), ()), ?_, ⟨i + 1, by omega, by omega, rfl⟩, by simp only; omega, zd⟩
     simp only [ahM, aaK, at8 hd h1 hi g3 ha2]
     repeat refine za ?_
     simp (disch := omega) only [aaJ, aaA, aaG, aaQ, abR, aaK, zo, zj, aaD, zp]
     rfl
    ·right
     have hie : i = e := zb
     subst hie
     simp only [ahM, ha, hX, zp]
     refine uF sd ?_
     refine uN zb ?_
     by_cases h0 : a = 0
     ·rw [if_pos h0]
      refine uT (by simp [h0]) ?_
      refine uC (mag (num s), ()) ?_ rfl
      rw [zq zg]
      exact ao8 hD zf (hV0 h0)
     ·rw [if_neg h0]
      refine uF zf ?_
      repeat refine za ?_
      have : w64 ((i : Int) - 9) = (a : Int) := by rw [hw9]; omega
      rw [this]
      rfl
   by_cases h0 : a = 0
   ·right
    rw [if_pos h0] at hin
    refine uF rfl ?_
    refine uO ((a : Int), 0, ()) ?_ hin
    repeat refine za ?_
    rfl
   ·left
    rw [if_neg h0] at hin
    refine ⟨((a : Int), false, l ++ [(X : Int)], ()), ?_, ⟨a, rfl, by omega, by omega, hD, hV1 zb, by simp; omega, by simp⟩, by simp only; omega, zd⟩
    refine uF rfl ?_
    refine uO ((a : Int), 0, ()) ?_ hin
    repeat refine za ?_
    rfl
  ·-- the first group
   obtain rfl := g7 rfl
   simp only [yk] at hD hV0 hV1
   simp only [akI, ha]
   have hin : ac0 (fun i1 => (ahN s ((e : Int), true, [], ()) i1).toO) ((a : Int), 0, ()) = some (if a = 0 then Sum.inr (mag (num s), ()) else Sum.inl ((a : Int), false, [(X : Int)], ())) := by
    refine aaM (fun j : Int × Int × Unit => ∃ i : Nat, a ≤ i ∧ i ≤ e ∧ j = ((i : Int), (num ((s.take i).drop a) : Int), ())) (fun j => ((e : Int) - j.1).toNat) (fun _ => (if a = 0 then Sum.inr (mag (num s), ()) else Sum.inl ((a : Int), false, [(X : Int)], ()))) ?_ _ ⟨a, zi _, ha1, by rw [yj zf]; rfl⟩
    rintro j ⟨i, h1, h2, rfl⟩
    rcases zv i e with hi | hi
    ·left
     refine ⟨(((i + 1 : Nat) : Int), (num ((s.take (i + 1)).drop a) : Int), ()), ?_, ⟨i + 1, by omega, by omega, rfl⟩, by simp only; omega, zd⟩
     simp only [ahN, aaK, at8 hd h1 hi g3 ha2]
     repeat refine za ?_
     simp (disch := omega) only [aaJ, aaA, aaG, aaQ, abR, aaK, zo, zj, aaD, zp]
     rfl
    ·right
     have hie : i = e := zb
     subst hie
     simp only [ahN, ha, hX]
     refine uF sd ?_
     refine uN zg ?_
     by_cases h0 : a = 0
     ·rw [if_pos h0]
      refine uT (by simp [h0]) ?_
      refine uC (mag (num s), ()) ?_ rfl
      exact ao8 hD zg (hV0 h0)
     ·rw [if_neg h0]
      refine uF zf ?_
      repeat refine za ?_
      have : w64 ((i : Int) - 9) = (a : Int) := by rw [hw9]; omega
      rw [this]
      rfl
   by_cases h0 : a = 0
   ·right
    rw [if_pos h0] at hin
    refine uT rfl ?_
    refine uO ((a : Int), 0, ()) ?_ hin
    repeat refine za ?_
    rfl
   ·left
    rw [if_neg h0] at hin
    refine ⟨((a : Int), false, [(X : Int)], ()), ?_, ⟨a, rfl, by omega, by omega, hD, hV1 zb, by simp; omega, by simp⟩, by simp only; omega, zd⟩
    refine uT rfl ?_
    refine uO ((a : Int), 0, ()) ?_ hin
    repeat refine za ?_
    rfl
end Go.Vs
