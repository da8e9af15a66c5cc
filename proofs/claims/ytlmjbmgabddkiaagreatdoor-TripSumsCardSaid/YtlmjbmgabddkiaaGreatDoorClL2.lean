/-
  Trees of what the functions compute, and their laws. Own work; no condition.
-/
import Derived.Test.YtlmjbmgabddkiaaGreatDoorClL1
import Derived.Test.YtlmjbmgabddkiaaGreatDoorProg
set_option linter.unusedVariables false
set_option linter.unusedSimpArgs false
set_option maxRecDepth 100000
namespace Go.Vs
open Go Go.Vg Go.Proofs
noncomputable section
def aDK : LTab := [(137, 7, 2048, ⟨0, (Int) × Unit, .dat (.s 3) vG <| .nil, [2, 0], [], 0⟩), (137, 31, 7168, ⟨1, (Bool) × Unit, .dat (.s 2) (Ty.bool) <| .nil, [3, 0], [], 0⟩), (137, 506, 9216, ⟨2, (Int) × Unit, .dat (.s 5) vG <| .nil, [3, 0], [], 0⟩)]
def aqA (a : List UInt8) (j : Int × Unit) (j1 : Bool × Unit) (i : (Int) × Unit) : TT (vZ ⊕ uc) :=
 .ite (decide (i.1 < len a))
 (.need (inb i.1 (len a)) <| .ite (decide ((↑(UInt8.toNat (gi a i.1 0)) : Int) < 48))
 (.ok (.inr ((false, ()))))
 (.need (inb i.1 (len a)) <| .ite (decide ((↑(UInt8.toNat (gi a i.1 0)) : Int) > 57))
 (.ok (.inr ((false, ()))))
 (.tt <| .lt (w64 (i.1 + 1) : Int) fun z => .wZ (vq z j.1 a) <| .tr <| .ok (.inl ((z, ()))))))
 (.need (inb j.1 (len a)) <| .ite ((↑(UInt8.toNat (gi a j.1 0)) : Int) != 48)
 (.ok (.inr ((true, ()))))
 (.ok (.inr ((len a == 1, ())))))
def aAZ (a : List UInt8) (j : Int × Unit) (j1 : (Bool) × Unit) : TT uc :=
 .loop 2 (.tt <| .wZ (vq j.1 j.1 a) <| .tr <| .ok ((j.1, ()))) (aqA a j j1)
def aqB (a : List UInt8) (j : (Int) × Unit) : TT uc :=
 .join 1 (ι := (Bool) × Unit) (.ite (decide (w64 (len a - j.1) < 1))
 (.ok (.inr ((false, ()))))
 (.ite (decide (w64 (len a - j.1) > 600))
 (.ok (.inr ((false, ()))))
 (.tt <| .wZ (vq false j.1 a) <| .tr <| .ok (.inl ((false, ())))))) (aAZ a j)
def am1 (a : List UInt8) : TT uc :=
 .join 0 (ι := (Int) × Unit) (.ite (decide (len a > 0))
 (.need (asT Int 0 ≤ 0 ∧ 0 < len a) <| .ite ((↑(UInt8.toNat (gi a 0 0)) : Int) == 45)
 (.tt <| .wZ (vq (1 : Int) false a) <| .tr <| .ok (.inl ((1, ()))))
 (.tt <| .wZ (vq (0 : Int) false a) <| .tr <| .ok (.inl ((0, ())))))
 (.tt <| .wZ (vq (0 : Int) false a) <| .tr <| .ok (.inl ((0, ()))))) (aqB a)
def aL4 : LTab := [(138, 7, 2049, ⟨0, (Int) × Unit, .dat (.s 3) vG <| .nil, [2, 0], [0], 0⟩), (138, 250, 6146, ⟨1, (Int) × Bool × (List Int) × Unit, .dat (.s 5) vG <| .appN (.s 4) 6 3 vG <| .nil, [3, 2, 0], [0], 1⟩), (138, 64074, 16386, ⟨2, (Int) × (Int) × Unit, .dat (.s 7) vG <| .dat (.s 6) vG <| .nil, [21, 20, 19, 18, 15, 14, 13, 4, 5, 3, 2, 0], [0], 0⟩), (138, 64074, 16385, ⟨3, (Int) × (Int) × Unit, .dat (.s 7) vG <| .dat (.s 6) vG <| .nil, [21, 20, 19, 18, 15, 14, 13, 4, 5, 3, 2, 0], [6, 0], 0⟩)]
def av2 (a : List UInt8) (j : Int × Unit) (i : Int × Bool × List Int × Unit) (i1 : (Int) × (Int) × Unit) : TT (vR ⊕ (vX ⊕ ud)) :=
 .ite (decide (i1.1 < i.1))
 (.need (inb i1.1 (len a)) <| .tt <| .lt (w64 (i1.1 + 1) : Int) fun z1 => .lt (w64 (w64 (i1.2.1 * 10) + w64 (wu8 ((↑(UInt8.toNat (gi a i1.1 0)) : Int) - 48))) : Int) fun z2 => .wZ (vA z2 z1 (if j.1 > w64 (i.1 - 4) then j.1 else w64 (i.1 - 4) : Int) j.1 (w64 (i.1 - 4)) i.1 (decide (i.1 > j.1)) j.1 <| vj i.1 <| True ∧ (vz i.1 j.1 <| vP ∧ vk a)) <| .wZ uy <| .ok (.inl ((z1, z2, ()))))
 (.need (1 * 8 ≤ 140737488355328) <| .tt <| .lt (w64 (i.1 - 4) : Int) fun z3 => .lt ([i1.2.1] : List Int) fun z4 => .wZ ((vu 6 0 1 true) ∧ (vz z3 j.1 <| vP ∧ vk a)) <| .wZ (wY (vt 3 z4) <| wY vM True) <| .ok (.inr (.inl ((z3, false, z4, ())))))
def av1 (a : List UInt8) (j : Int × Unit) (i : Int × Bool × List Int × Unit) (i2 : (Int) × (Int) × Unit) : TT (vR ⊕ (vX ⊕ ud)) :=
 .ite (decide (i2.1 < i.1))
 (.need (inb i2.1 (len a)) <| .tt <| .lt (w64 (i2.1 + 1) : Int) fun z6 => .lt (w64 (w64 (i2.2.1 * 10) + w64 (wu8 ((↑(UInt8.toNat (gi a i2.1 0)) : Int) - 48))) : Int) fun z7 => .wZ (vA z7 z6 (if j.1 > w64 (i.1 - 4) then j.1 else w64 (i.1 - 4) : Int) j.1 (w64 (i.1 - 4)) i.1 (decide (i.1 > j.1)) j.1 <| vj i.1 <| (vu 6 0 (List.length i.2.2.1) true) ∧ (vz i.1 j.1 <| vP ∧ vk a)) <| .wZ (wY (vt 3 i.2.2.1) <| wY vM True) <| .ok (.inl ((z6, z7, ()))))
 (.need ((List.length i.2.2.1 + 1) * 8 ≤ 140737488355328) <| .tt <| .lt (w64 (i.1 - 4) : Int) fun z8 => .lt (List.take (List.length i.2.2.1) i.2.2.1 ++ [i2.2.1] : List Int) fun z9 => .need ((((6) = (6)) ∧ (((0) = (0)) ∧ ((List.length i.2.2.1 + 1 = List.length z9) ∧ ((true) = (true))))) ∧ ((z8 : Int) = z8) ∧ ((j.1 : Int) = j.1) ∧ (((0) = (0)) ∧ (((0) = (0)) ∧ ((true) = (true)))) ∧ ((a) = (a)) ∧ True) <| .wZ (wY (vt 3 z9) <| wY vM True) <| .ok (.inr (.inl ((z8, false, z9, ())))))
def alK (a : List UInt8) (j : Int × Unit) (i : (Int) × Bool × (List Int) × Unit) : TT (vX ⊕ ud) :=
 .ite (i.2.1)
 (.ite (decide (i.1 > j.1))
 (.loop 2 (.tt <| .lt (if j.1 > w64 (i.1 - 4) then j.1 else w64 (i.1 - 4) : Int) fun z => .wZ (vA (0 : Int) z z j.1 (w64 (i.1 - 4)) i.1 (decide (i.1 > j.1)) j.1 <| vj i.1 <| True ∧ (vz i.1 j.1 <| vP ∧ vk a)) <| .wZ uy <| .ok ((z, 0, ()))) (av2 a j i))
 (.call (abG (j.1 == 1, [], ())) ai5 fun y =>
 .ok (.inr (((y.1.1, y.1.2.1, ()), ())))))
 (.ite (decide (i.1 > j.1))
 (.loop 3 (.tt <| .lt (if j.1 > w64 (i.1 - 4) then j.1 else w64 (i.1 - 4) : Int) fun z5 => .wZ (vA (0 : Int) z5 z5 j.1 (w64 (i.1 - 4)) i.1 (decide (i.1 > j.1)) j.1 <| vj i.1 <| (vu 6 0 (List.length i.2.2.1) true) ∧ (vz i.1 j.1 <| vP ∧ vk a)) <| .wZ (wY (vt 3 i.2.2.1) <| wY vM True) <| .ok ((z5, 0, ()))) (av1 a j i))
 (.call (abG (j.1 == 1, List.take (List.length i.2.2.1) i.2.2.1, ())) ai5 fun y1 =>
 .ok (.inr (((y1.1.1, y1.1.2.1, ()), ())))))
def aJj (a : List UInt8) (j : (Int) × Unit) : TT ud :=
 .loop 1 (.tt <| .wZ (True ∧ (vz (len a) j.1 <| vP ∧ vk a)) <| .wZ uy <| .ok ((len a, true, [], ()))) (alK a j)
def aA1 (a : List UInt8) : TT ud :=
 .join 0 (ι := (Int) × Unit) (.need (asT Int 0 ≤ 0 ∧ 0 < len a) <| .ite ((↑(UInt8.toNat (gi a 0 0)) : Int) == 45)
 (.tt <| .wZ (vj (1 : Int) <| vP ∧ vk a) <| .wZ uy <| .ok (.inl ((1, ()))))
 (.tt <| .wZ (vj (0 : Int) <| vP ∧ vk a) <| .wZ uy <| .ok (.inl ((0, ()))))) (aJj a)
def aDG : LTab := [(146, 2042, 45058, ⟨0, (Int) × (List Int) × (List Int) × Unit, .dat (.s 12) vG <| .dat (.s 11) uz <| .row 29 vG <| .nil, [10, 9, 8, 5, 4, 0, 1], [29], 0⟩), (146, 1045658, 60418, ⟨1, (Int) × (Int) × Unit, .dat (.s 14) vG <| .dat (.s 13) vG <| .nil, [83, 82, 11, 81, 80, 79, 77, 76, 75, 74, 71, 70, 12, 10, 9, 8, 5, 4, 0, 1], [29], 0⟩), (146, 2091324, 74754, ⟨2, (Int) × (Int) × Unit, .dat (.s 16) vG <| .dat (.s 15) vG <| .nil, [109, 108, 107, 106, 105, 104, 103, 102, 87, 86, 85, 84, 13, 14, 83, 82, 11, 81, 80, 79, 77, 76, 75, 74, 71, 70, 12, 10, 9, 8, 5, 4, 0, 1], [29], 0⟩)]
def ap4 (a : List Int) (b : List Int) (i : Int × List Int × List Int × Unit) (y2 : List Int × Unit) (i1 : Int × Int × Unit) (i2 : (Int) × (Int) × Unit) : TT (vR ⊕ (vR ⊕ vJ)) :=
 .ite (decide (w64 (i2.1 - i2.2.1) > 1))
 (.triv (asT Int 2 ≠ 0) zf <| .call (abO (b, [w64 (Int.tdiv (w64 (i2.2.1 + i2.1)) 2)], ())) aAA fun y3 =>
 .call (acL (y3.1, ())) aAA fun y4 =>
 .call (aeW (y4.1, y2.1, ())) Dd6 fun y5 =>
 .ite (decide (y5.1 ≤ 0))
 (.tt <| .lt (w64 (Int.tdiv (w64 (i2.2.1 + i2.1)) 2) : Int) fun z10 => .wZ (vA z10 i2.1 (w64 (w64 (Int.tdiv i1.2.1 (w64 (w64 (gi b (w64 (len b - 1)) 0 * 10000) + gi b (w64 (w64 (len b - 1) - 1)) 0))) + 1) : Int) (w64 (Int.tdiv i1.2.1 (w64 (w64 (gi b (w64 (len b - 1)) 0 * 10000) + gi b (w64 (w64 (len b - 1) - 1)) 0))) : Int) (w64 (w64 (gi b (w64 (len b - 1)) 0 * 10000) + gi b (w64 (w64 (len b - 1) - 1)) 0) : Int) i1.2.1 (w64 (Int.tdiv i1.2.1 (w64 (w64 (w64 (gi b (w64 (len b - 1)) 0 * 10000) + gi b (w64 (w64 (len b - 1) - 1)) 0) + 1))) : Int) (w64 (w64 (w64 (gi b (w64 (len b - 1)) 0 * 10000) + gi b (w64 (w64 (len b - 1) - 1)) 0) + 1) : Int) <| vA (w64 (w64 (gi b (w64 (len b - 1)) 0 * 10000) + gi b (w64 (w64 (len b - 1) - 1)) 0) : Int) i1.2.1 (decide (i1.1 ≥ w64 (w64 (len b - 1) - 1))) (w64 (w64 (len b - 1) - 1)) (w64 (len b - 1)) i1.1 i1.2.1 i1.1 <| vA (w64 (w64 (len b - 1) + 1)) (w64 (len b - 1)) y2.1 y2.1 (List.take (1 + List.length i.2.1) ([gi a i.1 0] ++ i.2.1)) i.2.1 (gi a i.1 0) (gi a i.1 0) <| vw i.1 a (decide (i.1 ≥ 0)) i.1 i.1 <| (vu 29 0 (Int.toNat (w64 (len a - w64 (len b - 1)))) true) ∧ (vz (w64 (w64 (gi b (w64 (len b - 1)) 0 * 10000) + gi b (w64 (w64 (len b - 1) - 1)) 0) : Int) (w64 (len b - 1)) <| True ∧ True ∧ vB a b)) <| .wZ (wY (vt 3 i.2.2.1) True) <| .ok (.inl ((i2.1, z10, ()))))
 (.tt <| .lt (w64 (Int.tdiv (w64 (i2.2.1 + i2.1)) 2) : Int) fun z11 => .lt (i2.2.1 : Int) fun z12 => .wZ (vA z12 z11 (w64 (w64 (Int.tdiv i1.2.1 (w64 (w64 (gi b (w64 (len b - 1)) 0 * 10000) + gi b (w64 (w64 (len b - 1) - 1)) 0))) + 1) : Int) (w64 (Int.tdiv i1.2.1 (w64 (w64 (gi b (w64 (len b - 1)) 0 * 10000) + gi b (w64 (w64 (len b - 1) - 1)) 0))) : Int) (w64 (w64 (gi b (w64 (len b - 1)) 0 * 10000) + gi b (w64 (w64 (len b - 1) - 1)) 0) : Int) i1.2.1 (w64 (Int.tdiv i1.2.1 (w64 (w64 (w64 (gi b (w64 (len b - 1)) 0 * 10000) + gi b (w64 (w64 (len b - 1) - 1)) 0) + 1))) : Int) (w64 (w64 (w64 (gi b (w64 (len b - 1)) 0 * 10000) + gi b (w64 (w64 (len b - 1) - 1)) 0) + 1) : Int) <| vA (w64 (w64 (gi b (w64 (len b - 1)) 0 * 10000) + gi b (w64 (w64 (len b - 1) - 1)) 0) : Int) i1.2.1 (decide (i1.1 ≥ w64 (w64 (len b - 1) - 1))) (w64 (w64 (len b - 1) - 1)) (w64 (len b - 1)) i1.1 i1.2.1 i1.1 <| vA (w64 (w64 (len b - 1) + 1)) (w64 (len b - 1)) y2.1 y2.1 (List.take (1 + List.length i.2.1) ([gi a i.1 0] ++ i.2.1)) i.2.1 (gi a i.1 0) (gi a i.1 0) <| vw i.1 a (decide (i.1 ≥ 0)) i.1 i.1 <| (vu 29 0 (Int.toNat (w64 (len a - w64 (len b - 1)))) true) ∧ (vz (w64 (w64 (gi b (w64 (len b - 1)) 0 * 10000) + gi b (w64 (w64 (len b - 1) - 1)) 0) : Int) (w64 (len b - 1)) <| True ∧ True ∧ vB a b)) <| .wZ (wY (vt 3 i.2.2.1) True) <| .ok (.inl ((z11, z12, ())))))
 (.need (inb i.1 (↑(Int.toNat (w64 (len a - w64 (len b - 1)))) : Int)) <| .call (abO (b, [i2.2.1], ())) aAA fun y6 =>
 .call (abB (y2.1, y6.1, ())) aAA fun y7 =>
 .tt <| .lt (w64 (i.1 - 1) : Int) fun z13 => .lt (List.set i.2.2.1 (0 + Int.toNat i.1) i2.2.1 : List Int) fun z14 => .wZ (vz y7.1 z13 <| (vu 29 0 (Int.toNat (w64 (len a - w64 (len b - 1)))) true) ∧ (vz (w64 (w64 (gi b (w64 (len b - 1)) 0 * 10000) + gi b (w64 (w64 (len b - 1) - 1)) 0) : Int) (w64 (len b - 1)) <| True ∧ True ∧ vB a b)) <| .wZ (wY (vt 3 z14) True) <| .ok (.inr (.inr (.inl ((z13, y7.1, z14, ()))))))
def ad4 (a : List Int) (b : List Int) (i : Int × List Int × List Int × Unit) (y2 : List Int × Unit) (i1 : (Int) × (Int) × Unit) : TT (vR ⊕ vJ) :=
 .ite (decide (i1.1 ≥ w64 (w64 (len b - 1) - 1)))
 (.ite (decide (i1.1 < len y2.1))
 (.need (inb i1.1 (len y2.1)) <| .tt <| .lt (w64 (i1.1 - 1) : Int) fun z4 => .lt (w64 (w64 (i1.2.1 * 10000) + gi y2.1 i1.1 0) : Int) fun z5 => .wZ (vA z5 z4 (w64 (w64 (len b - 1) + 1)) (w64 (len b - 1)) y2.1 y2.1 (List.take (1 + List.length i.2.1) ([gi a i.1 0] ++ i.2.1)) i.2.1 <| vC (gi a i.1 0) (gi a i.1 0) i.1 a (decide (i.1 ≥ 0)) i.1 i.1 <| (vu 29 0 (Int.toNat (w64 (len a - w64 (len b - 1)))) true) ∧ (vz (w64 (w64 (gi b (w64 (len b - 1)) 0 * 10000) + gi b (w64 (w64 (len b - 1) - 1)) 0) : Int) (w64 (len b - 1)) <| True ∧ True ∧ vB a b)) <| .wZ (wY (vt 3 i.2.2.1) True) <| .ok (.inl ((z4, z5, ()))))
 (.tt <| .lt (w64 (i1.1 - 1) : Int) fun z6 => .lt (w64 (i1.2.1 * 10000) : Int) fun z7 => .wZ (vA z7 z6 (w64 (w64 (len b - 1) + 1)) (w64 (len b - 1)) y2.1 y2.1 (List.take (1 + List.length i.2.1) ([gi a i.1 0] ++ i.2.1)) i.2.1 <| vC (gi a i.1 0) (gi a i.1 0) i.1 a (decide (i.1 ≥ 0)) i.1 i.1 <| (vu 29 0 (Int.toNat (w64 (len a - w64 (len b - 1)))) true) ∧ (vz (w64 (w64 (gi b (w64 (len b - 1)) 0 * 10000) + gi b (w64 (w64 (len b - 1) - 1)) 0) : Int) (w64 (len b - 1)) <| True ∧ True ∧ vB a b)) <| .wZ (wY (vt 3 i.2.2.1) True) <| .ok (.inl ((z6, z7, ())))))
 (.need (w64 (w64 (w64 (gi b (w64 (len b - 1)) 0 * 10000) + gi b (w64 (w64 (len b - 1) - 1)) 0) + 1) ≠ 0) <| .need (w64 (w64 (gi b (w64 (len b - 1)) 0 * 10000) + gi b (w64 (w64 (len b - 1) - 1)) 0) ≠ 0) <| .loop 2 (.tt <| .lt (w64 (w64 (Int.tdiv i1.2.1 (w64 (w64 (gi b (w64 (len b - 1)) 0 * 10000) + gi b (w64 (w64 (len b - 1) - 1)) 0))) + 1) : Int) fun z8 => .lt (w64 (Int.tdiv i1.2.1 (w64 (w64 (w64 (gi b (w64 (len b - 1)) 0 * 10000) + gi b (w64 (w64 (len b - 1) - 1)) 0) + 1))) : Int) fun z9 => .wZ (vA z9 z8 z8 (w64 (Int.tdiv i1.2.1 (w64 (w64 (gi b (w64 (len b - 1)) 0 * 10000) + gi b (w64 (w64 (len b - 1) - 1)) 0))) : Int) (w64 (w64 (gi b (w64 (len b - 1)) 0 * 10000) + gi b (w64 (w64 (len b - 1) - 1)) 0) : Int) i1.2.1 z9 (w64 (w64 (w64 (gi b (w64 (len b - 1)) 0 * 10000) + gi b (w64 (w64 (len b - 1) - 1)) 0) + 1) : Int) <| vA (w64 (w64 (gi b (w64 (len b - 1)) 0 * 10000) + gi b (w64 (w64 (len b - 1) - 1)) 0) : Int) i1.2.1 (decide (i1.1 ≥ w64 (w64 (len b - 1) - 1))) (w64 (w64 (len b - 1) - 1)) (w64 (len b - 1)) i1.1 i1.2.1 i1.1 <| vA (w64 (w64 (len b - 1) + 1)) (w64 (len b - 1)) y2.1 y2.1 (List.take (1 + List.length i.2.1) ([gi a i.1 0] ++ i.2.1)) i.2.1 (gi a i.1 0) (gi a i.1 0) <| vw i.1 a (decide (i.1 ≥ 0)) i.1 i.1 <| (vu 29 0 (Int.toNat (w64 (len a - w64 (len b - 1)))) true) ∧ (vz (w64 (w64 (gi b (w64 (len b - 1)) 0 * 10000) + gi b (w64 (w64 (len b - 1) - 1)) 0) : Int) (w64 (len b - 1)) <| True ∧ True ∧ vB a b)) <| .wZ (wY (vt 3 i.2.2.1) True) <| .ok ((z8, z9, ()))) (ap4 a b i y2 i1))
def akI (a : List Int) (b : List Int) (i : (Int) × (List Int) × (List Int) × Unit) : TT vJ :=
 .ite (decide (i.1 ≥ 0))
 (.need (inb i.1 (len a)) <| .need ((1 + List.length i.2.1) * 8 ≤ 140737488355328) <| .call (acL (List.take (1 + List.length i.2.1) ([gi a i.1 0] ++ i.2.1), ())) aAA fun y2 =>
 .loop 1 (.tt <| .lt (w64 (w64 (len b - 1) + 1) : Int) fun z3 => .wZ (vA (0 : Int) z3 z3 (w64 (len b - 1)) y2.1 y2.1 (List.take (1 + List.length i.2.1) ([gi a i.1 0] ++ i.2.1)) i.2.1 <| vC (gi a i.1 0) (gi a i.1 0) i.1 a (decide (i.1 ≥ 0)) i.1 i.1 <| (vu 29 0 (Int.toNat (w64 (len a - w64 (len b - 1)))) true) ∧ (vz (w64 (w64 (gi b (w64 (len b - 1)) 0 * 10000) + gi b (w64 (w64 (len b - 1) - 1)) 0) : Int) (w64 (len b - 1)) <| True ∧ True ∧ vB a b)) <| .wZ (wY (vt 3 i.2.2.1) True) <| .ok ((z3, 0, ()))) (ad4 a b i y2))
 (.call (acL (List.take (Int.toNat (w64 (len a - w64 (len b - 1)))) i.2.2.1, ())) aAA fun y8 =>
 .ok (.inr ((y8.1, i.2.1, ()))))
def amW (a : List Int) (b : List Int) : TT (List Int × List Int × Unit) :=
 .ite (len b == 1)
 (.need (asT Int 0 ≤ 0 ∧ 0 < len b) <| .call (amA (a, gi b 0 0, ())) aPn fun y =>
 .call (acL ([y.2.1], ())) aAA fun y1 =>
 .ok ((y.1, y1.1, ())))
 (.ite (decide (len a ≤ w64 (len b - 1)))
 (.need ((0 + List.length a) * 8 ≤ 140737488355328) <| .ok (([], List.take (0 + List.length a) (List.take 0 [] ++ a), ())))
 (.need (inb (w64 (len b - 1)) (len b)) <| .need (inb (w64 (w64 (len b - 1) - 1)) (len b)) <| .need (0 ≤ w64 (len a - w64 (len b - 1)) ∧ w64 (len a - w64 (len b - 1)) ≤ w64 (len a - w64 (len b - 1)) ∧ w64 (len a - w64 (len b - 1)) * (↑8 : Int) ≤ 140737488355328) <| .need (inc (w64 (len a - w64 (len b - 1))) (len a)) <| .need ((0 + List.length (List.take (List.length a - Int.toNat (w64 (len a - w64 (len b - 1)))) (List.drop (Int.toNat (w64 (len a - w64 (len b - 1)))) a))) * 8 ≤ 140737488355328) <| .loop 0 (.tt <| .lt (w64 ((↑(Int.toNat (w64 (len a - w64 (len b - 1)))) : Int) - 1) : Int) fun z => .lt (List.take (0 + List.length (List.take (List.length a - Int.toNat (w64 (len a - w64 (len b - 1)))) (List.drop (Int.toNat (w64 (len a - w64 (len b - 1)))) a))) (List.take 0 [] ++ List.take (List.length a - Int.toNat (w64 (len a - w64 (len b - 1)))) (List.drop (Int.toNat (w64 (len a - w64 (len b - 1)))) a)) : List Int) fun z1 => .lt (List.replicate (Int.toNat (w64 (len a - w64 (len b - 1)))) 0 : List Int) fun z2 => .wZ (vz z1 z <| (vu 29 0 (Int.toNat (w64 (len a - w64 (len b - 1)))) true) ∧ (vz (w64 (w64 (gi b (w64 (len b - 1)) 0 * 10000) + gi b (w64 (w64 (len b - 1) - 1)) 0) : Int) (w64 (len b - 1)) <| True ∧ True ∧ vB a b)) <| .wZ (wY (vt 3 z2) True) <| .ok ((z, z1, z2, ()))) (akI a b)))
def aFU : LTab := []
def ayH (a : Bool × List Int × Unit) : TT ud :=
 .call (abG (!a.1, a.2.1, ())) ai5 fun y =>
 .ok (((y.1.1, y.1.2.1, ()), ()))
def aFW : LTab := []
def aqC (a : Bool × List Int × Unit) (b : Bool × List Int × Unit) : TT ud :=
 .ite (a.1 == b.1)
 (.call (apK (a.2.1, b.2.1, ())) aAA fun y =>
 .call (abG (a.1, y.1, ())) ai5 fun y1 =>
 .ok (((y1.1.1, y1.1.2.1, ()), ())))
 (.call (aeW (a.2.1, b.2.1, ())) Dd6 fun y2 =>
 .ite (decide (y2.1 ≥ 0))
 (.call (abB (a.2.1, b.2.1, ())) aAA fun y3 =>
 .call (abG (a.1, y3.1, ())) ai5 fun y4 =>
 .ok (((y4.1.1, y4.1.2.1, ()), ())))
 (.call (abB (b.2.1, a.2.1, ())) aAA fun y5 =>
 .call (abG (b.1, y5.1, ())) ai5 fun y6 =>
 .ok (((y6.1.1, y6.1.2.1, ()), ()))))
def aDN : LTab := []
def at3 (a : Bool × List Int × Unit) (b : Bool × List Int × Unit) : TT ud :=
 .call (ahH ((b.1, b.2.1, ()), ())) ai5 fun y =>
 .call (afK ((a.1, a.2.1, ()), y.1, ())) ai5 fun y1 =>
 .ok (((y1.1.1, y1.1.2.1, ()), ()))
def aDJ : LTab := []
def at1 (a : Bool × List Int × Unit) (b : Bool × List Int × Unit) : TT ud :=
 .call (abO (a.2.1, b.2.1, ())) aAA fun y =>
 .call (abG (!a.1 == b.1, y.1, ())) ai5 fun y1 =>
 .ok (((y1.1.1, y1.1.2.1, ()), ()))
def aDL : LTab := []
def am2 (a : Bool × List Int × Unit) (b : Bool × List Int × Unit) : TT (vH × vH × Unit) :=
 .call (ahG (a.2.1, b.2.1, ())) aPh fun y =>
 .call (abG (!a.1 == b.1, y.1, ())) ai5 fun y1 =>
 .call (abG (a.1, y.2.1, ())) ai5 fun y2 =>
 .ite (y2.1.1)
 (.call (afK ((y2.1.1, y2.1.2.1, ()), (false, b.2.1, ()), ())) ai5 fun y3 =>
 .ite (b.1)
 (.call (acC (1, ())) ai5 fun y4 =>
 .call (afK ((y1.1.1, y1.1.2.1, ()), y4.1, ())) ai5 fun y5 =>
 .ok (((y5.1.1, y5.1.2.1, ()), (y3.1.1, y3.1.2.1, ()), ())))
 (.call (acC (1, ())) ai5 fun y6 =>
 .call (ajS ((y1.1.1, y1.1.2.1, ()), y6.1, ())) ai5 fun y7 =>
 .ok (((y7.1.1, y7.1.2.1, ()), (y3.1.1, y3.1.2.1, ()), ()))))
 (.ok (((y1.1.1, y1.1.2.1, ()), (y2.1.1, y2.1.2.1, ()), ())))
def ayN : LTab := [(139, 28, 9217, ⟨0, (List Int) × (List Int) × Unit, .dat (.s 6) uz <| .dat (.s 5) uz <| .nil, [4], [2, 1, 0], 0⟩)]
def alM (a : Bool × List Int × Unit) (b : Bool × List Int × Unit) (i : (List Int) × (List Int) × Unit) : TT (ui ⊕ ud) :=
 .ite (decide (len i.1 > 0))
 (.call (ahG (i.2.1, i.1, ())) aPh fun y =>
 .tt <| .lt (y.2.1 : List Int) fun z2 => .wZ (vz i.1 z2 <| (vh 2 0 true) ∧ True) <| .wZ (wY vM <| wY (vq 138 b.1 b.2.1) <| wY (vq 138 a.1 a.2.1) True) <| .ok (.inl ((z2, i.1, ()))))
 (.ok (.inr (((false, i.2.1, ()), ()))))
def aoB (a : Bool × List Int × Unit) (b : Bool × List Int × Unit) : TT ud :=
 .loop 0 (.tt <| .lt (b.2.1 : List Int) fun z => .lt (a.2.1 : List Int) fun z1 => .wZ (vz z1 z <| (vh 2 0 true) ∧ True) <| .wZ (wY vM <| wY (vq 138 b.1 z) <| wY (vq 138 a.1 z1) True) <| .ok ((z, z1, ()))) (alM a b)
end
set_option maxRecDepth 100000
open Go Go.Vg Go.Proofs
noncomputable section
def aJh : LTab := [(189, 28, 4097, ⟨0, (Int) × Unit, .dat (.s 3) vG <| .nil, [2, 0], [], 0⟩)]
def ayG (d : List Int) (i : (Int) × Unit) : TT (vZ ⊕ vL) :=
 .ite (decide (i.1 > 0))
 (.need (inb (w64 (i.1 - 1)) (len d)) <| .ite (gi d (w64 (i.1 - 1)) 0 == 0)
 (.tt <| .lt (w64 (i.1 - 1) : Int) fun z => .wZ (vj z <| True ∧ vk d) <| .tr <| .ok (.inl ((z, ()))))
 (.need (inc i.1 (len d)) <| .ok (.inr ((List.take (Int.toNat i.1) d, ())))))
 (.need (inc i.1 (len d)) <| .ok (.inr ((List.take (Int.toNat i.1) d, ()))))
def aCu (d : List Int) : TT vL :=
 .loop 0 (.tt <| .wZ (vj (len d) <| True ∧ vk d) <| .tr <| .ok ((len d, ()))) (ayG d)
def aFS : LTab := []
def ayF (below : Bool) (d : List Int) : TT ud :=
 .call (acL (d, ())) aAA fun y =>
 .ite (below)
 (.ok (((decide (len y.1 > 0), y.1, ()), ())))
 (.ok (((false, y.1, ()), ())))
def ayM : LTab := [(83, 60, 5122, ⟨0, Bool × (List Int) × (Int) × Unit, .appN (.s 3) 5 3 vG <| .dat (.s 0) vG <| .nil, [4, 2], [0], 1⟩)]
def aeK (n : Int) (i : Bool × (List Int) × (Int) × Unit) : TT ((Bool × (List Int) × (Int) × Unit) ⊕ ud) :=
 .ite (i.1)
 (.ite (i.2.2.1 != 0)
 (.triv (asT Int 10000 ≠ 0) zf <| .ite (decide (Int.tmod i.2.2.1 10000 < 0))
 (.need (1 * 8 ≤ 140737488355328) <| .triv (asT Int 10000 ≠ 0) zf <| .tt <| .lt ([w64 (0 - Int.tmod i.2.2.1 10000)] : List Int) fun z => .lt (w64 (Int.tdiv i.2.2.1 10000) : Int) fun z1 => .wZ (vj z1 <| (vu 5 0 1 true) ∧ (vj (decide (n < 0)) <| vP ∧ True)) <| .wZ (wY (vt 3 z) <| wY vM True) <| .ok (.inl ((false, z, z1, ()))))
 (.need (1 * 8 ≤ 140737488355328) <| .triv (asT Int 10000 ≠ 0) zf <| .tt <| .lt ([Int.tmod i.2.2.1 10000] : List Int) fun z2 => .lt (w64 (Int.tdiv i.2.2.1 10000) : Int) fun z3 => .wZ (vj z3 <| (vu 5 0 1 true) ∧ (vj (decide (n < 0)) <| vP ∧ True)) <| .wZ (wY (vt 3 z2) <| wY vM True) <| .ok (.inl ((false, z2, z3, ())))))
 (.call (abG (decide (n < 0), [], ())) ai5 fun y =>
 .ok (.inr (((y.1.1, y.1.2.1, ()), ())))))
 (.ite (i.2.2.1 != 0)
 (.triv (asT Int 10000 ≠ 0) zf <| .ite (decide (Int.tmod i.2.2.1 10000 < 0))
 (.need ((List.length i.2.1 + 1) * 8 ≤ 140737488355328) <| .triv (asT Int 10000 ≠ 0) zf <| .tt <| .lt (List.take (List.length i.2.1) i.2.1 ++ [w64 (0 - Int.tmod i.2.2.1 10000)] : List Int) fun z4 => .lt (w64 (Int.tdiv i.2.2.1 10000) : Int) fun z5 => .need (((z5 : Int) = z5) ∧ (((5) = (5)) ∧ (((0) = (0)) ∧ ((List.length i.2.1 + 1 = List.length z4) ∧ ((true) = (true))))) ∧ ((decide (n < 0)) = (decide (n < 0))) ∧ (((0) = (0)) ∧ (((0) = (0)) ∧ ((true) = (true)))) ∧ True) <| .wZ (wY (vt 3 z4) <| wY vM True) <| .ok (.inl ((false, z4, z5, ()))))
 (.need ((List.length i.2.1 + 1) * 8 ≤ 140737488355328) <| .triv (asT Int 10000 ≠ 0) zf <| .tt <| .lt (List.take (List.length i.2.1) i.2.1 ++ [Int.tmod i.2.2.1 10000] : List Int) fun z6 => .lt (w64 (Int.tdiv i.2.2.1 10000) : Int) fun z7 => .need (((z7 : Int) = z7) ∧ (((5) = (5)) ∧ (((0) = (0)) ∧ ((List.length i.2.1 + 1 = List.length z6) ∧ ((true) = (true))))) ∧ ((decide (n < 0)) = (decide (n < 0))) ∧ (((0) = (0)) ∧ (((0) = (0)) ∧ ((true) = (true)))) ∧ True) <| .wZ (wY (vt 3 z6) <| wY vM True) <| .ok (.inl ((false, z6, z7, ())))))
 (.call (abG (decide (n < 0), List.take (List.length i.2.1) i.2.1, ())) ai5 fun y1 =>
 .ok (.inr (((y1.1.1, y1.1.2.1, ()), ())))))
def aoA (n : Int) : TT ud :=
 .loop 0 (.tt <| .wZ (vj n <| True ∧ (vj (decide (n < 0)) <| vP ∧ True)) <| .wZ uy <| .ok ((true, [], n, ()))) (aeK n)
def aFT : LTab := []
def ap7 (n : Int) : TT ub :=
 .triv (asT Int 1000 ≠ 0) zf <| .triv (asT Int 100 ≠ 0) zf <| .triv (asT Int 10 ≠ 0) zf <| .triv (asT Int 10 ≠ 0) zf <| .triv (asT Int 10 ≠ 0) zf <| .triv (asT Int 10 ≠ 0) zf <| .ok ((List.map (fun n => UInt8.ofNat (Int.toNat n)) (List.take 4 [wu8 (w64 (48 + w64 (Int.tdiv n 1000))), wu8 (w64 (48 + Int.tmod (w64 (Int.tdiv n 100)) 10)), wu8 (w64 (48 + Int.tmod (w64 (Int.tdiv n 10)) 10)), wu8 (w64 (48 + Int.tmod n 10))]), ()))
def aFV : LTab := [(86, 58, 8192, ⟨0, (Int) × (List UInt8) × Unit, .dat (.s 4) vG <| .dat (.s 3) (Ty.str) <| .nil, [2, 1], [0], 0⟩), (86, 124, 11264, ⟨1, (Int) × Unit, .dat (.s 5) vG <| .nil, [3, 2, 1], [0], 0⟩)]
def ahP (i1 : (Int) × Unit) (i : Int × List UInt8 × Unit) (a : Bool × List Int × Unit) : TT (vZ ⊕ um) :=
 .need (inc i1.1 (len i.2.1)) <| .ite (List.take (List.length i.2.1 - Int.toNat i1.1) (List.drop (Int.toNat i1.1) i.2.1) == #[].toList)
 (.ok (.inr (.inr ((#[48].toList, ())))))
 (.ite (a.1)
 (.need (List.length #[45].toList + List.length (List.take (List.length i.2.1 - Int.toNat i1.1) (List.drop (Int.toNat i1.1) i.2.1)) ≤ lim) <| .ok (.inr (.inr ((#[45].toList ++ List.take (List.length i.2.1 - Int.toNat i1.1) (List.drop (Int.toNat i1.1) i.2.1), ())))))
 (.ok (.inr (.inr ((List.take (List.length i.2.1 - Int.toNat i1.1) (List.drop (Int.toNat i1.1) i.2.1), ()))))))
def at2 (a : Bool × List Int × Unit) (i : Int × List UInt8 × Unit) (i1 : (Int) × Unit) : TT (vZ ⊕ um) :=
 .ite (decide (i1.1 < len i.2.1))
 (.need (inb i1.1 (len i.2.1)) <| .ite ((↑(UInt8.toNat (gi i.2.1 i1.1 0)) : Int) == 48)
  (.tt <| .lt (w64 (i1.1 + 1) : Int) fun z3 => .wZ (vl z3 i.2.1 (#[].toList : List UInt8) <| vP ∧ True) <| .wZ (wY (vq 138 a.1 a.2.1) True) <| .ok (.inl ((z3, ()))))
  (ahP i1 i a))
 (ahP i1 i a)
def am0 (a : Bool × List Int × Unit) (i : (Int) × (List UInt8) × Unit) : TT um :=
 .ite (decide (i.1 ≥ 0))
 (.need (inb i.1 (len a.2.1)) <| .call (amB (gi a.2.1 i.1 0, ())) Dd2 fun y =>
 .need (List.length i.2.1 + List.length y.1 ≤ lim) <| .tt <| .lt (w64 (i.1 - 1) : Int) fun z1 => .lt (i.2.1 ++ y.1 : List UInt8) fun z2 => .wZ (vl z2 z1 (#[].toList : List UInt8) <| vP ∧ True) <| .wZ (wY (vq 138 a.1 a.2.1) True) <| .ok (.inl ((z1, z2, ()))))
 (.loop 1 (.tt <| .wZ (vl (0 : Int) i.2.1 (#[].toList : List UInt8) <| vP ∧ True) <| .wZ (wY (vq 138 a.1 a.2.1) True) <| .ok ((0, ()))) (at2 a i))
def ap9 (a : Bool × List Int × Unit) : TT ub :=
 .loop 0 (.tt <| .lt (w64 (len a.2.1 - 1) : Int) fun z => .wZ (vl (#[].toList : List UInt8) z (#[].toList : List UInt8) <| vP ∧ True) <| .wZ (wY (vq 138 a.1 a.2.1) True) <| .ok ((z, #[].toList, ()))) (am0 a)
def aJi : LTab := []
def aCv (a : Bool × List Int × Unit) : TT (List UInt8 × Int × Unit) :=
 .call (aiZ ((a.1, a.2.1, ()), ())) Dd2 fun y =>
 .ite (a.1)
 (.ite (decide (w64 (len y.1 - 1) > 600))
 (.ok ((#[].toList, 6, ())))
 (.ok ((y.1, 0, ()))))
 (.ite (decide (len y.1 > 600))
 (.ok ((#[].toList, 6, ())))
 (.ok ((y.1, 0, ()))))
def aDH : LTab := [(191, 58, 10240, ⟨0, (Int) × Unit, .dat (.s 5) vG <| .nil, [0, 1], [], 0⟩)]
def ap5 (a : List Int) (b : List Int) (i : (Int) × Unit) : TT (vZ ⊕ vU) :=
 .ite (decide (i.1 ≥ 0))
 (.need (inb i.1 (len a)) <| .need (inb i.1 (len b)) <| .ite (gi a i.1 0 != gi b i.1 0)
 (.need (inb i.1 (len a)) <| .need (inb i.1 (len b)) <| .ok (.inr ((w64 (gi a i.1 0 - gi b i.1 0), ()))))
 (.tt <| .lt (w64 (i.1 - 1) : Int) fun z1 => .wZ (vq z1 a b) <| .tr <| .ok (.inl ((z1, ())))))
 (.ok (.inr ((0, ()))))
def amX (a : List Int) (b : List Int) : TT vU :=
 .ite (len a != len b)
 (.ok ((w64 (len a - len b), ())))
 (.loop 0 (.tt <| .lt (w64 (len a - 1) : Int) fun z => .wZ (vq z a b) <| .tr <| .ok ((z, ()))) (ap5 a b))
def aJg : LTab := [(193, 122, 4098, ⟨0, (Int) × (Int) × Bool × (List Int) × Unit, .dat (.s 7) vG <| .dat (.s 6) vG <| .appN (.s 5) 4 3 vG <| .nil, [4, 0, 1], [], 1⟩)]
def ac6 (i : (Int) × (Int) × Bool × (List Int) × Unit) (a : List Int) (b : List Int) : TT vY :=
 .ite (decide (i.1 < len a))
 (.need (inb i.1 (len a)) <| .ite (decide (i.1 < len b))
 (.need (inb i.1 (len b)) <| .triv (asT Int 10000 ≠ 0) zf <| .need ((List.length i.2.2.2.1 + 1) * 8 ≤ 140737488355328) <| .triv (asT Int 10000 ≠ 0) zf <| .tt <| .lt (w64 (i.1 + 1) : Int) fun z36 => .lt (w64 (Int.tdiv (w64 (w64 (i.2.1 + gi a i.1 0) + gi b i.1 0)) 10000) : Int) fun z37 => .lt (List.take (List.length i.2.2.2.1) i.2.2.2.1 ++ [Int.tmod (w64 (w64 (i.2.1 + gi a i.1 0) + gi b i.1 0)) 10000] : List Int) fun z38 => .need ((((4) = (4)) ∧ (((0) = (0)) ∧ ((List.length i.2.2.2.1 + 1 = List.length z38) ∧ ((true) = (true))))) ∧ ((z37 : Int) = z37) ∧ ((z36 : Int) = z36) ∧ True ∧ ((a) = (a)) ∧ ((b) = (b)) ∧ True) <| .wZ (wY (vt 3 z38) True) <| .ok (.inl ((z36, z37, false, z38, ()))))
 (.triv (asT Int 10000 ≠ 0) zf <| .need ((List.length i.2.2.2.1 + 1) * 8 ≤ 140737488355328) <| .triv (asT Int 10000 ≠ 0) zf <| .tt <| .lt (w64 (i.1 + 1) : Int) fun z39 => .lt (w64 (Int.tdiv (w64 (i.2.1 + gi a i.1 0)) 10000) : Int) fun z40 => .lt (List.take (List.length i.2.2.2.1) i.2.2.2.1 ++ [Int.tmod (w64 (i.2.1 + gi a i.1 0)) 10000] : List Int) fun z41 => .need ((((4) = (4)) ∧ (((0) = (0)) ∧ ((List.length i.2.2.2.1 + 1 = List.length z41) ∧ ((true) = (true))))) ∧ ((z40 : Int) = z40) ∧ ((z39 : Int) = z39) ∧ True ∧ ((a) = (a)) ∧ ((b) = (b)) ∧ True) <| .wZ (wY (vt 3 z41) True) <| .ok (.inl ((z39, z40, false, z41, ())))))
 (.ite (decide (i.1 < len b))
 (.need (inb i.1 (len b)) <| .triv (asT Int 10000 ≠ 0) zf <| .need ((List.length i.2.2.2.1 + 1) * 8 ≤ 140737488355328) <| .triv (asT Int 10000 ≠ 0) zf <| .tt <| .lt (w64 (i.1 + 1) : Int) fun z42 => .lt (w64 (Int.tdiv (w64 (i.2.1 + gi b i.1 0)) 10000) : Int) fun z43 => .lt (List.take (List.length i.2.2.2.1) i.2.2.2.1 ++ [Int.tmod (w64 (i.2.1 + gi b i.1 0)) 10000] : List Int) fun z44 => .need ((((4) = (4)) ∧ (((0) = (0)) ∧ ((List.length i.2.2.2.1 + 1 = List.length z44) ∧ ((true) = (true))))) ∧ ((z43 : Int) = z43) ∧ ((z42 : Int) = z42) ∧ True ∧ ((a) = (a)) ∧ ((b) = (b)) ∧ True) <| .wZ (wY (vt 3 z44) True) <| .ok (.inl ((z42, z43, false, z44, ()))))
 (.triv (asT Int 10000 ≠ 0) zf <| .need ((List.length i.2.2.2.1 + 1) * 8 ≤ 140737488355328) <| .triv (asT Int 10000 ≠ 0) zf <| .tt <| .lt (w64 (i.1 + 1) : Int) fun z45 => .lt (w64 (Int.tdiv i.2.1 10000) : Int) fun z46 => .lt (List.take (List.length i.2.2.2.1) i.2.2.2.1 ++ [Int.tmod i.2.1 10000] : List Int) fun z47 => .need ((((4) = (4)) ∧ (((0) = (0)) ∧ ((List.length i.2.2.2.1 + 1 = List.length z47) ∧ ((true) = (true))))) ∧ ((z46 : Int) = z46) ∧ ((z45 : Int) = z45) ∧ True ∧ ((a) = (a)) ∧ ((b) = (b)) ∧ True) <| .wZ (wY (vt 3 z47) True) <| .ok (.inl ((z45, z46, false, z47, ())))))
def ac5 (i : (Int) × (Int) × Bool × (List Int) × Unit) (a : List Int) (b : List Int) : TT vY :=
 .ite (decide (i.1 < len a))
 (.need (inb i.1 (len a)) <| .ite (decide (i.1 < len b))
 (.need (inb i.1 (len b)) <| .triv (asT Int 10000 ≠ 0) zf <| .need (1 * 8 ≤ 140737488355328) <| .triv (asT Int 10000 ≠ 0) zf <| .tt <| .lt (w64 (i.1 + 1) : Int) fun z => .lt (w64 (Int.tdiv (w64 (w64 (i.2.1 + gi a i.1 0) + gi b i.1 0)) 10000) : Int) fun z1 => .lt ([Int.tmod (w64 (w64 (i.2.1 + gi a i.1 0) + gi b i.1 0)) 10000] : List Int) fun z2 => .wZ (uj ∧ (vz z1 z <| True ∧ vB a b)) <| .wZ (wY (vt 3 z2) True) <| .ok (.inl ((z, z1, false, z2, ()))))
 (.triv (asT Int 10000 ≠ 0) zf <| .need (1 * 8 ≤ 140737488355328) <| .triv (asT Int 10000 ≠ 0) zf <| .tt <| .lt (w64 (i.1 + 1) : Int) fun z3 => .lt (w64 (Int.tdiv (w64 (i.2.1 + gi a i.1 0)) 10000) : Int) fun z4 => .lt ([Int.tmod (w64 (i.2.1 + gi a i.1 0)) 10000] : List Int) fun z5 => .wZ (uj ∧ (vz z4 z3 <| True ∧ vB a b)) <| .wZ (wY (vt 3 z5) True) <| .ok (.inl ((z3, z4, false, z5, ())))))
 (.ite (decide (i.1 < len b))
 (.need (inb i.1 (len b)) <| .triv (asT Int 10000 ≠ 0) zf <| .need (1 * 8 ≤ 140737488355328) <| .triv (asT Int 10000 ≠ 0) zf <| .tt <| .lt (w64 (i.1 + 1) : Int) fun z6 => .lt (w64 (Int.tdiv (w64 (i.2.1 + gi b i.1 0)) 10000) : Int) fun z7 => .lt ([Int.tmod (w64 (i.2.1 + gi b i.1 0)) 10000] : List Int) fun z8 => .wZ (uj ∧ (vz z7 z6 <| True ∧ vB a b)) <| .wZ (wY (vt 3 z8) True) <| .ok (.inl ((z6, z7, false, z8, ()))))
 (.triv (asT Int 10000 ≠ 0) zf <| .need (1 * 8 ≤ 140737488355328) <| .triv (asT Int 10000 ≠ 0) zf <| .tt <| .lt (w64 (i.1 + 1) : Int) fun z9 => .lt (w64 (Int.tdiv i.2.1 10000) : Int) fun z10 => .lt ([Int.tmod i.2.1 10000] : List Int) fun z11 => .wZ (uj ∧ (vz z10 z9 <| True ∧ vB a b)) <| .wZ (wY (vt 3 z11) True) <| .ok (.inl ((z9, z10, false, z11, ())))))
def aiH (a : List Int) (b : List Int) (i : (Int) × (Int) × Bool × (List Int) × Unit) : TT vY :=
 .ite (i.2.2.1)
 (.ite (decide (i.1 < len a))
  (ac5 i a b)
  (.ite (decide (i.1 < len b))
   (ac5 i a b)
   (.ite (decide (i.2.1 > 0))
    (ac5 i a b)
    (.ok (.inr (([], ())))))))
 (.ite (decide (i.1 < len a))
  (ac6 i a b)
  (.ite (decide (i.1 < len b))
   (ac6 i a b)
   (.ite (decide (i.2.1 > 0))
    (ac6 i a b)
    (.ok (.inr ((List.take (List.length i.2.2.2.1) i.2.2.2.1, ())))))))
def aCt (a : List Int) (b : List Int) : TT vL :=
 .loop 0 (.tt <| .wZ (True ∧ (vz (0 : Int) (0 : Int) <| True ∧ vB a b)) <| .tr <| .ok ((0, 0, true, [], ()))) (aiH a b)
def ap8 : LTab := [(192, 122, 4098, ⟨0, (Int) × (Int) × Bool × (List Int) × Unit, .dat (.s 7) vG <| .dat (.s 6) vG <| .appN (.s 5) 4 3 vG <| .nil, [4, 0, 1], [], 1⟩)]
def abT (a : List Int) (b : List Int) (i : (Int) × (Int) × Bool × (List Int) × Unit) : TT vY :=
 .ite (i.2.2.1)
 (.ite (decide (i.1 < len a))
 (.need (inb i.1 (len a)) <| .ite (decide (i.1 < len b))
 (.need (inb i.1 (len b)) <| .ite (decide (w64 (w64 (gi a i.1 0 - i.2.1) - gi b i.1 0) < 0))
 (.need (1 * 8 ≤ 140737488355328) <| .tt <| .lt (w64 (i.1 + 1) : Int) fun z => .lt ([w64 (w64 (w64 (gi a i.1 0 - i.2.1) - gi b i.1 0) + 10000)] : List Int) fun z1 => .wZ (uj ∧ (vz (1 : Int) z <| True ∧ vB a b)) <| .wZ (wY (vt 3 z1) True) <| .ok (.inl ((z, 1, false, z1, ()))))
 (.need (1 * 8 ≤ 140737488355328) <| .tt <| .lt (w64 (i.1 + 1) : Int) fun z2 => .lt ([w64 (w64 (gi a i.1 0 - i.2.1) - gi b i.1 0)] : List Int) fun z3 => .wZ (uj ∧ (vz (0 : Int) z2 <| True ∧ vB a b)) <| .wZ (wY (vt 3 z3) True) <| .ok (.inl ((z2, 0, false, z3, ())))))
 (.ite (decide (w64 (gi a i.1 0 - i.2.1) < 0))
 (.need (1 * 8 ≤ 140737488355328) <| .tt <| .lt (w64 (i.1 + 1) : Int) fun z4 => .lt ([w64 (w64 (gi a i.1 0 - i.2.1) + 10000)] : List Int) fun z5 => .wZ (uj ∧ (vz (1 : Int) z4 <| True ∧ vB a b)) <| .wZ (wY (vt 3 z5) True) <| .ok (.inl ((z4, 1, false, z5, ()))))
 (.need (1 * 8 ≤ 140737488355328) <| .tt <| .lt (w64 (i.1 + 1) : Int) fun z6 => .lt ([w64 (gi a i.1 0 - i.2.1)] : List Int) fun z7 => .wZ (uj ∧ (vz (0 : Int) z6 <| True ∧ vB a b)) <| .wZ (wY (vt 3 z7) True) <| .ok (.inl ((z6, 0, false, z7, ()))))))
 (.call (acL ([], ())) aAA fun y =>
 .ok (.inr ((y.1, ())))))
 (.ite (decide (i.1 < len a))
 (.need (inb i.1 (len a)) <| .ite (decide (i.1 < len b))
 (.need (inb i.1 (len b)) <| .ite (decide (w64 (w64 (gi a i.1 0 - i.2.1) - gi b i.1 0) < 0))
 (.need ((List.length i.2.2.2.1 + 1) * 8 ≤ 140737488355328) <| .tt <| .lt (w64 (i.1 + 1) : Int) fun z8 => .lt (List.take (List.length i.2.2.2.1) i.2.2.2.1 ++ [w64 (w64 (w64 (gi a i.1 0 - i.2.1) - gi b i.1 0) + 10000)] : List Int) fun z9 => .need ((((4) = (4)) ∧ (((0) = (0)) ∧ ((List.length i.2.2.2.1 + 1 = List.length z9) ∧ ((true) = (true))))) ∧ ((1 : Int) = 1) ∧ ((z8 : Int) = z8) ∧ True ∧ ((a) = (a)) ∧ ((b) = (b)) ∧ True) <| .wZ (wY (vt 3 z9) True) <| .ok (.inl ((z8, 1, false, z9, ()))))
 (.need ((List.length i.2.2.2.1 + 1) * 8 ≤ 140737488355328) <| .tt <| .lt (w64 (i.1 + 1) : Int) fun z10 => .lt (List.take (List.length i.2.2.2.1) i.2.2.2.1 ++ [w64 (w64 (gi a i.1 0 - i.2.1) - gi b i.1 0)] : List Int) fun z11 => .need ((((4) = (4)) ∧ (((0) = (0)) ∧ ((List.length i.2.2.2.1 + 1 = List.length z11) ∧ ((true) = (true))))) ∧ ((0 : Int) = 0) ∧ ((z10 : Int) = z10) ∧ True ∧ ((a) = (a)) ∧ ((b) = (b)) ∧ True) <| .wZ (wY (vt 3 z11) True) <| .ok (.inl ((z10, 0, false, z11, ())))))
 (.ite (decide (w64 (gi a i.1 0 - i.2.1) < 0))
 (.need ((List.length i.2.2.2.1 + 1) * 8 ≤ 140737488355328) <| .tt <| .lt (w64 (i.1 + 1) : Int) fun z12 => .lt (List.take (List.length i.2.2.2.1) i.2.2.2.1 ++ [w64 (w64 (gi a i.1 0 - i.2.1) + 10000)] : List Int) fun z13 => .need ((((4) = (4)) ∧ (((0) = (0)) ∧ ((List.length i.2.2.2.1 + 1 = List.length z13) ∧ ((true) = (true))))) ∧ ((1 : Int) = 1) ∧ ((z12 : Int) = z12) ∧ True ∧ ((a) = (a)) ∧ ((b) = (b)) ∧ True) <| .wZ (wY (vt 3 z13) True) <| .ok (.inl ((z12, 1, false, z13, ()))))
 (.need ((List.length i.2.2.2.1 + 1) * 8 ≤ 140737488355328) <| .tt <| .lt (w64 (i.1 + 1) : Int) fun z14 => .lt (List.take (List.length i.2.2.2.1) i.2.2.2.1 ++ [w64 (gi a i.1 0 - i.2.1)] : List Int) fun z15 => .need ((((4) = (4)) ∧ (((0) = (0)) ∧ ((List.length i.2.2.2.1 + 1 = List.length z15) ∧ ((true) = (true))))) ∧ ((0 : Int) = 0) ∧ ((z14 : Int) = z14) ∧ True ∧ ((a) = (a)) ∧ ((b) = (b)) ∧ True) <| .wZ (wY (vt 3 z15) True) <| .ok (.inl ((z14, 0, false, z15, ()))))))
 (.call (acL (List.take (List.length i.2.2.2.1) i.2.2.2.1, ())) aAA fun y1 =>
 .ok (.inr ((y1.1, ())))))
def aiI (a : List Int) (b : List Int) : TT vL :=
 .loop 0 (.tt <| .wZ (True ∧ (vz (0 : Int) (0 : Int) <| True ∧ vB a b)) <| .tr <| .ok ((0, 0, true, [], ()))) (abT a b)
def ayC : LTab := [(188, 58, 9217, ⟨0, (Int) × (List Int) × Unit, .dat (.s 6) vG <| .row 6 vG <| .nil, [5, 4, 0, 1], [6], 0⟩), (188, 14922, 15361, ⟨1, (Int) × (Int) × (List Int) × Unit, .dat (.s 8) vG <| .dat (.s 7) vG <| .row 6 vG <| .nil, [18, 17, 16, 15, 6, 5, 4, 0, 1], [6], 0⟩)]
def adI (a : List Int) (b : List Int) (i : Int × List Int × Unit) (i1 : (Int) × (Int) × (List Int) × Unit) : TT (vS ⊕ ug) :=
 .ite (decide (i1.1 < len b))
 (.need (inb (w64 (i.1 + i1.1)) (↑(Int.toNat (w64 (len a + len b))) : Int)) <| .need (inb i.1 (len a)) <| .need (inb i1.1 (len b)) <| .triv (asT Int 10000 ≠ 0) zf <| .need (inb (w64 (i.1 + i1.1)) (↑(Int.toNat (w64 (len a + len b))) : Int)) <| .triv (asT Int 10000 ≠ 0) zf <| .tt <| .lt (w64 (i1.1 + 1) : Int) fun z2 => .lt (w64 (Int.tdiv (w64 (w64 (i1.2.1 + List.getD i1.2.2.1 (0 + Int.toNat (w64 (i.1 + i1.1))) 0) + w64 (gi a i.1 0 * gi b i1.1 0))) 10000) : Int) fun z3 => .lt (List.set i1.2.2.1 (0 + Int.toNat (w64 (i.1 + i1.1))) (Int.tmod (w64 (w64 (i1.2.1 + List.getD i1.2.2.1 (0 + Int.toNat (w64 (i.1 + i1.1))) 0) + w64 (gi a i.1 0 * gi b i1.1 0))) 10000) : List Int) fun z4 => .wZ (vC z3 z2 (decide (i.1 < len a)) (len a) a i.1 i.1 <| (vu 6 0 (Int.toNat (w64 (len a + len b))) true) ∧ True ∧ vB a b) <| .wZ (wY (vt 3 z4) True) <| .ok (.inl ((z2, z3, z4, ()))))
 (.need (inb (w64 (i.1 + len b)) (↑(Int.toNat (w64 (len a + len b))) : Int)) <| .tt <| .lt (w64 (i.1 + 1) : Int) fun z5 => .lt (List.set i1.2.2.1 (0 + Int.toNat (w64 (i.1 + len b))) i1.2.1 : List Int) fun z6 => .wZ (vj z5 <| (vu 6 0 (Int.toNat (w64 (len a + len b))) true) ∧ True ∧ vB a b) <| .wZ (wY (vt 3 z6) True) <| .ok (.inr (.inl ((z5, z6, ())))))
def ahO (a : List Int) (b : List Int) (i : (Int) × (List Int) × Unit) : TT ug :=
 .ite (decide (i.1 < len a))
 (.loop 1 (.tt <| .lt (i.2.1 : List Int) fun z1 => .wZ (vC (0 : Int) (0 : Int) (decide (i.1 < len a)) (len a) a i.1 i.1 <| (vu 6 0 (Int.toNat (w64 (len a + len b))) true) ∧ True ∧ vB a b) <| .wZ (wY (vt 3 z1) True) <| .ok ((0, 0, z1, ()))) (adI a b i))
 (.call (acL (List.take (Int.toNat (w64 (len a + len b))) i.2.1, ())) aAA fun y =>
 .ok (.inr ((y.1, ()))))
def ad8 (a : List Int) (b : List Int) : TT vL :=
 .need (0 ≤ w64 (len a + len b) ∧ w64 (len a + len b) ≤ w64 (len a + len b) ∧ w64 (len a + len b) * (↑8 : Int) ≤ 140737488355328) <| .loop 0 (.tt <| .lt (List.replicate (Int.toNat (w64 (len a + len b))) 0 : List Int) fun z => .wZ (vj (0 : Int) <| (vu 6 0 (Int.toNat (w64 (len a + len b))) true) ∧ True ∧ vB a b) <| .wZ (wY (vt 3 z) True) <| .ok ((0, z, ()))) (ahO a b)
def aFR : LTab := [(190, 122, 11265, ⟨0, (Int) × (Int) × (List Int) × Unit, .dat (.s 8) vG <| .dat (.s 7) vG <| .row 4 vG <| .nil, [6, 5, 4, 0, 1], [4], 0⟩)]
def amY (a : List Int) (d : Int) (i : (Int) × (Int) × (List Int) × Unit) : TT (vS ⊕ ur) :=
 .ite (decide (i.1 ≥ 0))
 (.need (inb i.1 (len a)) <| .need (d ≠ 0) <| .need (inb i.1 (↑(Int.toNat (len a)) : Int)) <| .need (d ≠ 0) <| .tt <| .lt (w64 (i.1 - 1) : Int) fun z2 => .lt (Int.tmod (w64 (w64 (i.2.1 * 10000) + gi a i.1 0)) d : Int) fun z3 => .lt (List.set i.2.2.1 (0 + Int.toNat i.1) (w64 (Int.tdiv (w64 (w64 (i.2.1 * 10000) + gi a i.1 0)) d)) : List Int) fun z4 => .wZ (vz z3 z2 <| (vu 4 0 (Int.toNat (len a)) true) ∧ (vj (0 : Int) <| True ∧ vB a d)) <| .wZ (wY (vt 3 z4) True) <| .ok (.inl ((z2, z3, z4, ()))))
 (.call (acL (List.take (Int.toNat (len a)) i.2.2.1, ())) aAA fun y =>
 .ok (.inr ((y.1, i.2.1, ()))))
def ap6 (a : List Int) (d : Int) : TT ur :=
 .need (0 ≤ len a ∧ len a ≤ len a ∧ len a * (↑8 : Int) ≤ 140737488355328) <| .loop 0 (.tt <| .lt (w64 (len a - 1) : Int) fun z => .lt (List.replicate (Int.toNat (len a)) 0 : List Int) fun z1 => .wZ (vz (0 : Int) z <| (vu 4 0 (Int.toNat (len a)) true) ∧ (vj (0 : Int) <| True ∧ vB a d)) <| .wZ (wY (vt 3 z1) True) <| .ok ((z, 0, z1, ()))) (amY a d)
end
open Go Go.Vg
theorem ae6 {l : List Int} (h : Dg 10000 l) (hl : l.length ≤ 1000000000000) {n : Nat} (hv : V 10000 l = n) : acL (l, ()) = some (dig n, ()) := by
 unfold acL
 rw [if_pos ⟨h, hl⟩]
 simp only [hv, zj]
theorem aDI (d : List Int) (y) (h : acL (d, ()) = some y) : (aCu d).toO = some y := by
 unfold acL at h
 split at h
 case isFalse => cases h
 case isTrue hp =>
 obtain ⟨hd, hl⟩ := hp
 dsimp only at hd hl h
 injection h with h
 subst h
 refine uO ((d.length : Int), ()) rfl ?_
 refine aaW (fun i : Int × Unit => ∃ k : Nat, k ≤ d.length ∧ i = ((k : Int), ()) ∧ V 10000 (d.take k) = V 10000 d) (fun i => i.1.toNat) (fun _ => (dig (V 10000 d).toNat, ())) ?_ _ ⟨_, zi _, rfl, by rw [zq]⟩
 rintro i ⟨k, h1, rfl, h2⟩
 have hn := aaL zb hd
 have fin : Cn (d.take k) → d.take k = dig (V 10000 d).toNat := fun hc => awW (ab5 hd k) hc (by rw [h2]; omega)
 unfold ayG
 rcases zy k with h0 | h0
 ·right
  subst h0
  refine uF sd (uN sd ?_)
  show some (Sum.inr (d.take (Int.toNat (0 : Nat)), ())) = _
  rw [zj, fin (by simp [Cn])]
 ·have hw : w64 ((k : Int) - 1) = ((k - 1 : Nat) : Int) := by rw [aaA (x := (k : Int) - 1) zb]; omega
  have hg : d.getD (k - 1) 0 = d[k - 1] := by simp [show k - 1 < d.length by omega]
  have ht := ah3 10000 (l := d) (i := k - 1) zb
  rw [show k - 1 + 1 = k by omega] at ht
  simp only [hw, aaN, hg]
  by_cases c : d[k - 1] = 0
  ·left
   refine ⟨(((k - 1 : Nat) : Int), ()), ?_, ⟨k - 1, by omega, rfl, ?_⟩, by dsimp only; omega, zd⟩
   ·refine uT sd (uN sd (uT (by rw [c]; rfl) ?_))
    repeat refine za ?_
    rfl
   ·rw [← h2, ht, c]; simp
  ·right
   refine uT sd (uN sd (uF (by simpa using c) (uN sd ?_)))
   show some (Sum.inr (d.take (Int.toNat (k : Int)), ())) = _
   rw [zj, fin ?_]
   unfold Cn
   rw [yG, ye, ym h1, zU, if_pos zb, zI zb]
   simpa using c
theorem aAV (b : Bool) (d : List Int) (y) (h : abG (b, d, ()) = some y) : (ayF b d).toO = some y := by
 unfold abG at h
 split at h
 case isFalse => cases h
 case isTrue hp =>
 obtain ⟨hd, hl⟩ := hp
 dsimp only at hd hl h
 injection h with h
 subst h
 obtain ⟨n, hn⟩ := zG (aaL zb hd)
 rw [hn, zj]
 refine uC _ (ae6 hd hl hn) ?_
 have e : decide (len (dig n) > 0) = decide ((n : Int) ≠ 0) := by
  refine decide_eq_decide.2 ?_
  have := dig_nil_iff (n := n)
  rw [aaI]
  constructor
  ·intro h h2
   rw [this.2 zb] at h
   simp at h
  ·intro h
   rcases zy (dig n).length with h3 | h3
   ·have := this.1 (zS.1 h3); omega
   ·omega
 cases b
 ·exact uF rfl rfl
 ·refine uT rfl ?_
  show some ((decide (len (dig n) > 0), dig n, ()), ()) = _
  rw [e]; rfl
theorem asM {l : List Int} {b : Bool} {z : Int} (h : Dg 10000 l) (hl : l.length ≤ 1000000000000) (hv : V 10000 l = z.natAbs) (hb : z = 0 ∨ b = decide (z < 0)) : abG (b, l, ()) = some (pl z, ()) := by
 unfold abG
 rw [if_pos ⟨h, hl⟩]
 simp only [hv, zj]
 congr 2
 unfold pl
 congr 1
 by_cases h0 : z = 0
 ·subst h0; simp
 ·rw [zm (show ((z.natAbs : Int) ≠ 0) by omega), Bool.and_true]
  rcases hb with h2 | h2
  ·exact absurd h2 h0
  ·exact h2
theorem ae2 {n : Nat} {b : Bool} {z : Int} (hl : (dig n).length ≤ 1000000000000) (hv : n = z.natAbs) (hb : z = 0 ∨ b = decide (z < 0)) : abG (b, dig n, ()) = some (pl z, ()) := asM (ac3 n) hl (by rw [agG, hv]) hb
theorem aIu {n : Nat} (h : n < 10000) : amB ((n : Int), ()) = some (atA n, ()) := aaR (enc := fun x : Nat => ((x : Int), ())) n h (fun b hb => Int.ofNat.inj (Prod.mk.inj hb).1)
theorem aAW (n : Int) (y) (h : amB (n, ()) = some y) : (ap7 n).toO = some y := by
 obtain ⟨k, hk, hx, rfl⟩ := aaH h
 obtain ⟨rfl, -⟩ := Prod.mk.inj hx
 have d1 : ∀ m : Nat, 0 < m → Int.tdiv (k : Int) m = ((k / m : Nat) : Int) := fun m hm => by rw [zK zb]; simp
 have e1 := d1 1000 zb
 have e2 := d1 100 zb
 have e3 := d1 10 zb
 have m1 : ∀ j : Nat, Int.tmod (j : Int) 10 = ((j % 10 : Nat) : Int) := fun j => by rw [zV zb]; omega
 have w1 : ∀ j : Nat, j < 10000 → w64 (j : Int) = j := fun j hj => aaA zb
 have w2 : ∀ j : Nat, j < 10 → wu8 (w64 (48 + (j : Int))) = ((48 + j : Nat) : Int) := fun j hj => by rw [aaA (x := 48 + (j : Int)) zb, abZ zb]; omega
 unfold ap7
 have f1 : Int.tdiv (k : Int) 1000 = ((k / 1000 : Nat) : Int) := e1
 have f2 : Int.tdiv (k : Int) 100 = ((k / 100 : Nat) : Int) := e2
 have f3 : Int.tdiv (k : Int) 10 = ((k / 10 : Nat) : Int) := e3
 refine uV (uV (uV (uV (uV (uV ?_)))))
 rw [aaP, f1, f2, f3, w1 (k / 1000) zb, w1 (k / 100) zb, w1 (k / 10) zb, m1, m1, m1, w2 _ zb, w2 _ zb, w2 _ zb, w2 _ zb]
 rfl
theorem an3 (a b : List Int) (h1 : Dg 10000 a) (h2 : Dg 10000 b) (h3 : a.length ≤ 1000000000000) (h4 : b.length ≤ 1000000000000) : aeW (a, b, ()) = some (aLk a b, ()) := by unfold aeW; rw [if_pos ⟨h1, h2, h3, h4⟩]
theorem ayE (a b : List Int) (y) (h : aeW (a, b, ()) = some y) : (amX a b).toO = some y := by
 unfold aeW at h
 split at h
 case isFalse => cases h
 case isTrue hp =>
 obtain ⟨ha, hb, hl, hl2⟩ := hp
 dsimp only at ha hb hl hl2 h
 injection h with h
 subst h
 unfold amX aLk
 by_cases c : a.length = b.length
 case neg =>
  rw [if_pos c]
  refine uT sd ?_
  rw [aaP, aaI, aaI, aaA zb]
 rw [if_neg (fun h => h c)]
 refine uF sd ?_
 refine uO ((a.length : Int) - 1, ()) ?_ ?_
 ·repeat refine za ?_
  rw [aaP, aaI, aaA zb]
 refine aaW (fun i : Int × Unit => ∃ k : Nat, k ≤ a.length ∧ i = ((k : Int) - 1, ()) ∧ aIV a b a.length = aIV a b k) (fun i => (i.1 + 1).toNat) (fun _ => (aIV a b a.length, ())) ?_ _ ⟨_, zi _, rfl, rfl⟩
 rintro i ⟨k, h1, rfl, h2⟩
 unfold ap5
 dsimp only
 cases k with
 | zero =>
  right
  refine uF sd ?_
  rw [h2]; rfl
 | succ j =>
  have e6 : ((j + 1 : Nat) : Int) - 1 = (j : Int) := zb
  simp only [e6, aaN]
  have da := aaY zb ha j
  have db := aaY zb hb j
  by_cases c2 : a.getD j 0 = b.getD j 0
  ·left
   refine ⟨((j : Int) - 1, ()), ?_, ⟨j, by omega, rfl, ?_⟩, by dsimp only; omega, zd⟩
   ·refine uT sd (uN sd (uN sd (uF (by rw [c2]; simp) ?_)))
    repeat refine za ?_
    rw [aaP, aaA zb]
   ·rw [h2]; show (if _ then _ else _) = _; rw [if_neg (fun h => h c2)]
  ·right
   refine uT sd (uN sd (uN sd (uT (by simpa using c2) (uN sd (uN sd ?_)))))
   rw [aaP, aaA zb, h2]
   show _ = some (Sum.inr (if _ then _ else _, ()))
   rw [if_pos c2]
theorem axT {a b : List Int} (ha : Dg 10000 a) (hb : Dg 10000 b) : ∀ k, (aIV a b k < 0 ↔ V 10000 (a.take k) < V 10000 (b.take k)) ∧ (aIV a b k = 0 ↔ V 10000 (a.take k) = V 10000 (b.take k))
 | 0 => by simp [aIV]
 | k + 1 => by
  obtain ⟨i1, i2⟩ := axT ha hb k
  have ea := aa4 10000 a k
  have eb := aa4 10000 b k
  have la := acY zb ha k
  have lb := acY zb hb k
  have na := aaL zb (ab5 ha k)
  have nb := aaL zb (ab5 hb k)
  unfold aIV
  rw [ea, eb]
  by_cases c : a.getD k 0 = b.getD k 0
  ·rw [if_neg (fun h => h c), c]
   omega
  ·rw [if_pos c]
   rcases zN (a.getD k 0) (b.getD k 0) with h | h
   ·have h5 : (10000 : Int) ^ k * (a.getD k 0 + 1) ≤ 10000 ^ k * b.getD k 0 := zv zb zb
    rw [xS] at h5
    omega
   ·have h5 : (10000 : Int) ^ k * (b.getD k 0 + 1) ≤ 10000 ^ k * a.getD k 0 := zv zb zb
    rw [xS] at h5
    omega
theorem aCy (m n : Nat) : (aLk (dig m) (dig n) < 0 ↔ m < n) ∧ (aLk (dig m) (dig n) = 0 ↔ m = n) := by
 unfold aLk
 by_cases c : (dig m).length = (dig n).length
 ·rw [if_neg (fun h => h c)]
  obtain ⟨h1, h2⟩ := axT (ac3 m) (ac3 n) (dig m).length
  rw [abF _ (zi _), abF _ zb, agG, agG] at h1 h2
  omega
 ·rw [if_pos c]
  rcases zt (dig m).length (dig n).length with h | h
  ·have := aj8 h; omega
  ·have := aj8 (m := n) (n := m) zb; omega
theorem aI2 {a b s : List Int} {k : Nat} {c x c' : Int} (h5 : s.length = k) (h7 : V 10000 s + 10000 ^ k * c = V 10000 (a.take k) + V 10000 (b.take k)) (hx : x + 10000 * c' = a.getD k 0 + b.getD k 0 + c) : V 10000 (s ++ [x]) + 10000 ^ (k + 1) * c' = V 10000 (a.take (k + 1)) + V 10000 (b.take (k + 1)) := by
 rw [adL, atK, h5, aa4, aa4, yi]
 have : (10000 : Int) ^ k * (x + 10000 * c') = 10000 ^ k * (a.getD k 0 + b.getD k 0 + c) := by rw [hx]
 grind
theorem aI1 {x : Int} (h : 0 ≤ x) : Int.tdiv x 10000 = x / 10000 := zK h
theorem aI0 {x : Int} (h : 0 ≤ x) : Int.tmod x 10000 = x % 10000 := zV h
theorem aDF (m o : List Int) (y) (h : apK (m, o, ()) = some y) : (aCt m o).toO = some y := by
 obtain ⟨⟨a, b⟩, hn, hx, rfl⟩ := aaH h
 obtain ⟨rfl, hx2⟩ := Prod.mk.inj hx; obtain ⟨rfl, -⟩ := Prod.mk.inj hx2; dsimp only
 obtain ⟨la, lb⟩ := hn
 simp only at la lb
 have hda := ac3 a
 have hdb := ac3 b
 have hVa := agG a
 have hVb := agG b
 clear hx hx2 h
 have hca := aC4 a
 have hcb := aC4 b
 generalize dig a = A at *
 generalize dig b = B at *
 refine uO (0, 0, true, [], ()) rfl ?_
 refine aaW (fun i : Int × Int × Bool × List Int × Unit => ∃ k : Nat, k ≤ A.length + B.length + 1 ∧ i.1 = (k : Int) ∧ 0 ≤ i.2.1 ∧ i.2.1 ≤ 1 ∧ i.2.2.2.1.length = k ∧ Dg 10000 i.2.2.2.1 ∧ V 10000 i.2.2.2.1 + 10000 ^ k * i.2.1 = V 10000 (A.take k) + V 10000 (B.take k) ∧ (i.2.2.1 = true → i.2.2.2.1 = []) ∧ (A.length ≤ k → B.length ≤ k → i.2.1 = 0 → Cn i.2.2.2.1) ∧ (i.2.1 = 0 ∨ k ≤ A.length ∨ k ≤ B.length)) (fun i => (((A.length + B.length + 2 : Nat) : Int) - i.1).toNat) (fun _ => (dig (a + b), ())) ?_ _ ⟨0, by omega, rfl, by simp, by simp, rfl, aoX _, by simp [V], fun _ => rfl, fun _ _ _ => aoZ, Or.inl rfl⟩
 rintro ⟨i, c, f, s, u⟩ ⟨k, h1, h2, h3, h4, h5, h6, h7, h8, h9, h10⟩
 dsimp only at h2 h3 h4 h5 h6 h7 h8 h9 h10
 subst h2
 have da := aaY zb hda k
 have db := aaY zb hdb k
 have hS : 0 ≤ A.getD k 0 + B.getD k 0 + c := zb
 by_cases hgo : k < A.length ∨ k < B.length ∨ 0 < c
 ·left
  have e1 := yc (A.getD k 0 + B.getD k 0 + c) 10000
  refine ⟨(((k + 1 : Nat) : Int), (A.getD k 0 + B.getD k 0 + c) / 10000, false, s ++ [(A.getD k 0 + B.getD k 0 + c) % 10000], ()), ?_, ⟨k + 1, by omega, rfl, by dsimp only; omega, by dsimp only; omega, by simp; omega, ad1 h6 (ai4 zb zb), aI2 h5 h7 e1, by simp, ?_, ?_⟩, by dsimp only; omega, zd⟩
  ·have zA : ¬ k < A.length → A.getD k 0 = 0 := fun h => af8 zb 0
   have zB : ¬ k < B.length → B.getD k 0 = 0 := fun h => af8 zb 0
   have eD : ∀ x : Int, x = A.getD k 0 + B.getD k 0 + c → Int.tdiv x 10000 = (A.getD k 0 + B.getD k 0 + c) / 10000 ∧ Int.tmod x 10000 = (A.getD k 0 + B.getD k 0 + c) % 10000 := fun x hx => by rw [hx]; exact ⟨aI1 hS, aI0 hS⟩
   have w1 : w64 (c + A.getD k 0) = c + A.getD k 0 := aaA zb
   have w2 : w64 (c + A.getD k 0 + B.getD k 0) = c + A.getD k 0 + B.getD k 0 := aaA zb
   have w3 : w64 (c + B.getD k 0) = c + B.getD k 0 := aaA zb
   have w4 : w64 ((A.getD k 0 + B.getD k 0 + c) / 10000) = (A.getD k 0 + B.getD k 0 + c) / 10000 := aaA zb
   have w5 : w64 ((k : Int) + 1) = ((k + 1 : Nat) : Int) := by rw [aaA (x := (k : Int) + 1) zb]; omega
   cases f with
   | true =>
    obtain rfl := h8 rfl
    simp only [aiH, ac5, ac6, aaN, w1, w2, w3, w5]
    by_cases cA : k < A.length <;> by_cases cB : k < B.length
    ·obtain ⟨q1, q2⟩ := eD (c + A.getD k 0 + B.getD k 0) zb
     simp only [q1, q2, w4]
     repeat refine za ?_
     rfl
    ·obtain ⟨q1, q2⟩ := eD (c + A.getD k 0) (by have := zB cB; omega)
     simp only [q1, q2, w4]
     repeat refine za ?_
     rfl
    ·obtain ⟨q1, q2⟩ := eD (c + B.getD k 0) (by have := zA cA; omega)
     simp only [q1, q2, w4]
     repeat refine za ?_
     rfl
    ·obtain ⟨q1, q2⟩ := eD c (by have := zA cA; have := zB cB; omega)
     have hc0 : 0 < c := zb
     simp only [q1, q2, w4]
     repeat refine za ?_
     rfl
   | false =>
    simp only [aiH, ac5, ac6, aaN, w1, w2, w3, w5, zq]
    by_cases cA : k < A.length <;> by_cases cB : k < B.length
    ·obtain ⟨q1, q2⟩ := eD (c + A.getD k 0 + B.getD k 0) zb
     simp only [q1, q2, w4]
     repeat refine za ?_
     rfl
    ·obtain ⟨q1, q2⟩ := eD (c + A.getD k 0) (by have := zB cB; omega)
     simp only [q1, q2, w4]
     repeat refine za ?_
     rfl
    ·obtain ⟨q1, q2⟩ := eD (c + B.getD k 0) (by have := zA cA; omega)
     simp only [q1, q2, w4]
     repeat refine za ?_
     rfl
    ·obtain ⟨q1, q2⟩ := eD c (by have := zA cA; have := zB cB; omega)
     have hc0 : 0 < c := zb
     simp only [q1, q2, w4]
     repeat refine za ?_
     rfl
  ·intro g1 g2 g3
   dsimp only at g3 ⊢
   unfold Cn
   simp only [List.getLast?_concat, ne_eq, Option.some.injEq]
   intro g4
   have hz : A.getD k 0 + B.getD k 0 + c = 0 := zb
   have ca : ¬ k < A.length := by
    intro hk
    have : k = A.length - 1 := zb
    unfold Cn at hca
    rw [yG, ← this, zI hk] at hca
    rw [ahV hk] at *
    exact hca (by congr 1; omega)
   have cb : ¬ k < B.length := by
    intro hk
    have : k = B.length - 1 := zb
    unfold Cn at hcb
    rw [yG, ← this, zI hk] at hcb
    rw [ahV hk] at *
    exact hcb (by congr 1; omega)
   omega
  ·dsimp only
   by_cases cA : k < A.length
   ·right; left; omega
   ·by_cases cB : k < B.length
    ·right; right; omega
    ·left
     have := af8 (l := A) (k := k) zb 0
     have := af8 (l := B) (k := k) zb 0
     omega
 ·right
  have hc : c = 0 := zb
  subst hc
  rw [abF _ zb, abF _ zb, hVa, hVb] at h7
  have hs : s = dig (a + b) := awW h6 (h9 zb zb rfl) zb
  cases f with
  | true =>
   obtain rfl := h8 rfl
   unfold aiH ac5 ac6
   repeat refine za ?_
   rw [← hs]; rfl
  | false =>
   unfold aiH ac5 ac6
   repeat refine za ?_
   rw [← hs, aaP, zq]
theorem ai2 {a b : List Int} (h1 : Dg 10000 a) (h2 : Dg 10000 b) (h3 : a.length ≤ 1000000000000) (h4 : b.length ≤ a.length) (h5 : V 10000 b ≤ V 10000 a) {n : Nat} (hn : V 10000 a - V 10000 b = n) : abB (a, b, ()) = some (dig n, ()) := by
 unfold abB
 rw [if_pos ⟨h1, h2, h3, h4, h5⟩]
 simp only [hn, zj]
theorem aHM {a b s : List Int} {k : Nat} {c x c' : Int} (h5 : s.length = k) (h7 : V 10000 s = V 10000 (a.take k) - V 10000 (b.take k) + 10000 ^ k * c) (hx : x = a.getD k 0 - b.getD k 0 - c + 10000 * c') : V 10000 (s ++ [x]) = V 10000 (a.take (k + 1)) - V 10000 (b.take (k + 1)) + 10000 ^ (k + 1) * c' := by
 rw [adL, atK, h5, aa4, aa4, yi, h7, hx]
 grind
theorem amZ (A B : List Int) (y) (h : abB (A, B, ()) = some y) : (aiI A B).toO = some y := by
 unfold abB at h
 split at h
 case isFalse => cases h
 case isTrue hp =>
 obtain ⟨hda, hdb, la, lb, hle⟩ := hp
 dsimp only at hda hdb la lb hle h
 injection h with h
 subst h
 refine uO (0, 0, true, [], ()) rfl ?_
 refine aaW (fun i : Int × Int × Bool × List Int × Unit => ∃ k : Nat, k ≤ A.length ∧ i.1 = (k : Int) ∧ 0 ≤ i.2.1 ∧ i.2.1 ≤ 1 ∧ i.2.2.2.1.length = k ∧ Dg 10000 i.2.2.2.1 ∧ V 10000 i.2.2.2.1 = V 10000 (A.take k) - V 10000 (B.take k) + 10000 ^ k * i.2.1 ∧ (i.2.2.1 = true → i.2.2.2.1 = [])) (fun i => ((A.length : Int) - i.1).toNat) (fun _ => (dig (V 10000 A - V 10000 B).toNat, ())) ?_ _ ⟨0, by omega, rfl, by simp, by simp, rfl, aoX _, by simp [V], fun _ => rfl⟩
 rintro ⟨i, c, f, s, u⟩ ⟨k, h1, h2, h3, h4, h5, h6, h7, h8⟩
 dsimp only at h2 h3 h4 h5 h6 h7 h8
 subst h2
 have da := aaY zb hda k
 have db := aaY zb hdb k
 have w5 : w64 ((k : Int) + 1) = ((k + 1 : Nat) : Int) := by rw [aaA (x := (k : Int) + 1) zb]; omega
 have w1 : w64 (A.getD k 0 - c) = A.getD k 0 - c := aaA zb
 have w2 : w64 (A.getD k 0 - c - B.getD k 0) = A.getD k 0 - c - B.getD k 0 := aaA zb
 have w3 : w64 (A.getD k 0 - c + 10000) = A.getD k 0 - c + 10000 := aaA zb
 have w4 : w64 (A.getD k 0 - c - B.getD k 0 + 10000) = A.getD k 0 - c - B.getD k 0 + 10000 := aaA zb
 rcases zt k A.length with hk | hk
 ·left
  have fin : ∀ x c' : Int, 0 ≤ x ∧ x < 10000 → 0 ≤ c' ∧ c' ≤ 1 → x = A.getD k 0 - B.getD k 0 - c + 10000 * c' → (∃ k_1 : Nat, k_1 ≤ A.length ∧ ((k + 1 : Nat) : Int) = (k_1 : Int) ∧ 0 ≤ c' ∧ c' ≤ 1 ∧ (s ++ [x]).length = k_1 ∧ Dg 10000 (s ++ [x]) ∧ V 10000 (s ++ [x]) = V 10000 (A.take k_1) - V 10000 (B.take k_1) + 10000 ^ k_1 * c' ∧ (false = true → (s ++ [x]) = [])) ∧ ((A.length : Int) - ((k + 1 : Nat) : Int)).toNat < ((A.length : Int) - (k : Int)).toNat :=
   fun x c' hx hc he => ⟨⟨k + 1, by omega, rfl, hc.1, hc.2, by simp; omega, ad1 h6 (ai4 hx.1 hx.2), aHM h5 h7 he, by simp⟩, by omega⟩
  have zB : ¬ k < B.length → B.getD k 0 = 0 := fun h => af8 zb 0
  by_cases cn : A.getD k 0 - c - B.getD k 0 < 0
  ·obtain ⟨g1, g2⟩ := fin (A.getD k 0 - c - B.getD k 0 + 10000) 1 zb zb zb
   refine ⟨(((k + 1 : Nat) : Int), 1, false, s ++ [A.getD k 0 - c - B.getD k 0 + 10000], ()), ?_, g1, g2, zd⟩
   cases f with
   | true =>
    obtain rfl := h8 rfl
    simp only [abT, aaN, w1, w2, w3, w4, w5]
    by_cases cB : k < B.length
    ·repeat refine za ?_
     rfl
    ·have := zB cB
     rw [this, wJ] at *
     repeat refine za ?_
     rfl
   | false =>
    simp only [abT, aaN, w1, w2, w3, w4, w5, zq]
    by_cases cB : k < B.length
    ·repeat refine za ?_
     rfl
    ·have := zB cB
     rw [this, wJ] at *
     repeat refine za ?_
     rfl
  ·obtain ⟨g1, g2⟩ := fin (A.getD k 0 - c - B.getD k 0) 0 zb zb zb
   refine ⟨(((k + 1 : Nat) : Int), 0, false, s ++ [A.getD k 0 - c - B.getD k 0], ()), ?_, g1, g2, zd⟩
   cases f with
   | true =>
    obtain rfl := h8 rfl
    simp only [abT, aaN, w1, w2, w3, w4, w5]
    by_cases cB : k < B.length
    ·repeat refine za ?_
     rfl
    ·have := zB cB
     rw [this, wJ] at *
     repeat refine za ?_
     rfl
   | false =>
    simp only [abT, aaN, w1, w2, w3, w4, w5, zq]
    by_cases cB : k < B.length
    ·repeat refine za ?_
     rfl
    ·have := zB cB
     rw [this, wJ] at *
     repeat refine za ?_
     rfl
 ·right
  have hkk : k = A.length := zb
  subst hkk
  rw [abF _ (zi _), abF _ lb] at h7
  have hlt := aE1 zb h6
  rw [h5] at hlt
  have hc : c = 0 := by
   rcases zN 0 c with hc | hc
   ·have hc1 : c = 1 := zb
    subst hc1
    omega
   ·omega
  subst hc
  cases f with
  | true =>
   obtain rfl := h8 rfl
   unfold abT
   refine uT rfl (uF sd (uC (dig (V 10000 A - V 10000 B).toNat, ()) (ae6 h6 zh zb) rfl))
  | false =>
   unfold abT
   dsimp only
   rw [zq]
   refine uF rfl (uF sd (uC (dig (V 10000 A - V 10000 B).toNat, ()) (ae6 h6 zb zb) rfl))
theorem aEX (Vs P c A K x T X Y d e Q B : Int) (h : Vs + P * c = A + K * (x * T)) (h2 : X + B * Y = c + d + x * e) (hP : P = K * Q) : Vs + P * (X - d) + P * B * Y = A + K * (x * (T + Q * e)) := by
 subst hP
 have h3 : K * Q * (X + B * Y) = K * Q * (c + d + x * e) := by rw [h2]
 grind
theorem aEa {a b B : Int} (ha : 0 ≤ a ∧ a < B) (hb : 0 ≤ b ∧ b < B) : 0 ≤ a * b ∧ a * b ≤ (B - 1) * (B - 1) := by
 refine ⟨xn ha.1 hb.1, ?_⟩
 have h1 : a * b ≤ a * (B - 1) := zv zb ha.1
 have h2 : a * (B - 1) ≤ (B - 1) * (B - 1) := zD zb zb
 omega
theorem ai1 {a b : List Int} (h1 : Dg 10000 a) (h2 : Dg 10000 b ∨ b = [10000]) (h3 : a.length ≤ 400000000000) (h4 : b.length ≤ 400000000000) {n : Nat} (hn : V 10000 a * V 10000 b = n) : abO (a, b, ()) = some (dig n, ()) := by
 unfold abO
 rw [if_pos ⟨h1, h2, h3, h4⟩]
 simp only [hn, zj]
theorem av0 (A D : List Int) (hda : Dg 10000 A) (hdb : Dg 10000 D) (la : A.length ≤ 400000000000) (lb : D.length ≤ 400000000000) : (ad8 A D).toO = some (dig (V 10000 A * V 10000 D).toNat, ()) := by
 have nb := aaL zb hdb
 have hw : w64 (len A + len D) = ((A.length + D.length : Nat) : Int) := by
  simp only [aaI]; rw [aaA (x := (A.length : Int) + D.length) zb]; omega
 unfold ad8
 simp only [hw]
 refine uN zb ?_
 refine uO (0, List.replicate (A.length + D.length) 0, ()) ?_ ?_
 ·repeat refine za ?_
  simp (disch := omega) only [aaP, aaA, aaK, aaX, abZ, aaN, zn, zj, aaI, zq]
 have hBb : V 10000 D < 10000 ^ D.length := aE1 zb hdb
 refine aaW (fun i => ∃ k : Nat, k ≤ A.length ∧ i.1 = (k : Int) ∧ i.2.1.length = A.length + D.length ∧ Dg 10000 i.2.1 ∧ V 10000 i.2.1 = V 10000 (A.take k) * V 10000 D) (fun i => ((A.length : Int) - i.1).toNat) (fun _ => (dig (V 10000 A * V 10000 D).toNat, ())) ?_ _ ⟨0, zR _, rfl, by simp, afX zb _, by simp [V, asG]⟩
 rintro ⟨i, s, u⟩ ⟨k, h1, h2, h3, h4, h5⟩
 simp only at h2 h3 h4 h5
 subst h2
 simp only [ahO, aaN, hw]
 have ea := aa4 10000 A k
 have da := aaY zb hda k
 rcases zt k A.length with hk | hk
 ·left
  have hs : V 10000 s < 10000 ^ (k + D.length) := by
   rw [h5, xI]
   have e1 := acY zb hda k
   have e2 := aaL zb (ab5 hda k)
   have e3 : V 10000 (A.take k) * V 10000 D ≤ V 10000 (A.take k) * 10000 ^ D.length := zv zb e2
   have e4 : V 10000 (A.take k) * 10000 ^ D.length < 10000 ^ k * 10000 ^ D.length := Int.mul_lt_mul_of_pos_right e1 (yB zb)
   omega
  have hz := aiP zb h4 hs
  obtain ⟨r, hin, s', rfl, q1, q2, q3⟩ : ∃ r : ((Int × List Int × Unit) ⊕ (List Int × Unit)), adP (fun i1 => (adI A D ((k : Int), s, ()) i1).toO) (0, 0, s, ()) = some r ∧ ∃ s', r = Sum.inl (((k + 1 : Nat) : Int), s', ()) ∧ s'.length = A.length + D.length ∧ Dg 10000 s' ∧ V 10000 s' = V 10000 (A.take (k + 1)) * V 10000 D := by
   refine ahA (fun j => ∃ q : Nat, q ≤ D.length ∧ j.1 = (q : Int) ∧ 0 ≤ j.2.1 ∧ j.2.1 < 10000 ∧ j.2.2.1.length = A.length + D.length ∧ Dg 10000 j.2.2.1 ∧ (∀ t, k + D.length ≤ t → j.2.2.1.getD t 0 = 0) ∧ V 10000 j.2.2.1 + 10000 ^ (k + q) * j.2.1 = V 10000 (A.take k) * V 10000 D + 10000 ^ k * (A.getD k 0 * V 10000 (D.take q))) (fun j => ((D.length : Int) - j.1).toNat) _ ?_ _ ⟨0, zR _, rfl, by simp, by simp, h3, h4, hz, by simp [V, h5]⟩
   rintro ⟨j, c, s1, u1⟩ ⟨q, g1, g2, g3, g4, g5, g6, g7, g8⟩
   simp only at g2 g3 g4 g5 g6 g7 g8
   subst g2
   have hkq : w64 ((k : Int) + q) = ((k + q : Nat) : Int) := by rw [aaA (x := (k : Int) + q) zb]; omega
   have hkl : w64 ((k : Int) + len D) = ((k + D.length : Nat) : Int) := by rw [aaI, aaA (x := (k : Int) + (D.length : Int)) zb]; omega
   simp only [adI, aaN, hw, hkq, hkl, zj, zn]
   have eb := aa4 10000 D q
   have db := aaY zb hdb q
   have ds := aaY zb g6 (k + q)
   have hm := aEa da db
   rcases zt q D.length with hq | hq
   ·left
    have hsum : 0 ≤ c + s1.getD (k + q) 0 + A.getD k 0 * D.getD q 0 := zb
    have e1 := yc (c + s1.getD (k + q) 0 + A.getD k 0 * D.getD q 0) 10000
    have ww : w64 (w64 (c + s1.getD (k + q) 0) + w64 (A.getD k 0 * D.getD q 0)) = c + s1.getD (k + q) 0 + A.getD k 0 * D.getD q 0 := by
     rw [aaA (x := c + s1.getD (k + q) 0) zb, aaA (x := A.getD k 0 * D.getD q 0) zb, aaA zb]
    simp only [ww]
    have e2 : 0 ≤ (c + s1.getD (k + q) 0 + A.getD k 0 * D.getD q 0) % 10000 ∧ (c + s1.getD (k + q) 0 + A.getD k 0 * D.getD q 0) % 10000 < 10000 := zb
    have e3 : 0 ≤ (c + s1.getD (k + q) 0 + A.getD k 0 * D.getD q 0) / 10000 ∧ (c + s1.getD (k + q) 0 + A.getD k 0 * D.getD q 0) / 10000 < 10000 := zb
    refine ⟨(((q + 1 : Nat) : Int), (c + s1.getD (k + q) 0 + A.getD k 0 * D.getD q 0) / 10000, s1.set (k + q) ((c + s1.getD (k + q) 0 + A.getD k 0 * D.getD q 0) % 10000), ()), ?_, ⟨q + 1, by omega, rfl, e3.1, e3.2, by simp; omega, ahM g6 e2 _, ?_, ?_⟩, by simp only; omega⟩
    ·repeat refine za ?_
     rw [zV hsum, zK hsum, aaA (x := (q : Int) + 1) zb, aaA (x := (c + s1.getD (k + q) 0 + A.getD k 0 * D.getD q 0) / 10000) zb]
     rfl
    ·intro t ht
     rw [akO _ zb]; exact g7 t ht
    ·simp only
     rw [atJ _ zb, eb, show k + (q + 1) = k + q + 1 by omega, yi]
     exact aEX _ _ _ _ _ _ _ _ _ _ _ _ _ g8 e1 (xI _ _ _)
   ·right
    have hqq : q = D.length := zb
    subst hqq
    rw [abF _ (zi _)] at g8
    refine ⟨.inl (((k + 1 : Nat) : Int), s1.set (k + D.length) c, ()), ?_, _, rfl, by simp; omega, ahM g6 ⟨g3, g4⟩ _, ?_⟩
    ·repeat refine za ?_
     rw [aaA (x := (k : Int) + 1) zb]
     rfl
    ·rw [atJ _ zb, g7 _ zb, ea, Int.add_mul]
     simp only [wJ]
     rw [g8]
     grind
  refine ⟨(((k + 1 : Nat) : Int), s', ()), ?_, ⟨k + 1, by omega, rfl, q1, q2, q3⟩, by simp only; omega, zd⟩
  refine uT sd ?_
  refine uO (0, 0, s, ()) ?_ ?_
  ·repeat refine za ?_
   rfl
  ·exact hin
 ·right
  have hkk : k = A.length := zb
  rw [hkk, abF _ (zi _)] at h5
  have hnn := aaL zb h4
  refine uF sd ?_
  refine uC (dig (V 10000 A * V 10000 D).toNat, ()) ?_ ?_
  ·rw [zp zg]
   exact ae6 h4 zb zb
  ·rfl
theorem ap3 (A : List Int) (hda : Dg 10000 A) (la : A.length ≤ 400000000000) : (ad8 A [10000]).toO = some (dig (V 10000 A * V 10000 [10000]).toNat, ()) := by
 have na := aaL zb hda
 have hV1 : V 10000 [10000] = 10000 := by simp [V]
 have hw : w64 (len A + len [(10000 : Int)]) = ((A.length + 1 : Nat) : Int) := by
  simp only [aaI, yb]; rw [aaA zb]; omega
 unfold ad8
 simp only [hw]
 refine uN zb ?_
 refine uO (0, List.replicate (A.length + 1) 0, ()) ?_ ?_
 ·repeat refine za ?_
  simp (disch := omega) only [aaP, aaA, aaK, aaX, abZ, aaN, zn, zj, aaI, zq]
 refine aaW (fun i => ∃ k : Nat, k ≤ A.length ∧ i.1 = (k : Int) ∧ i.2.1 = ((0 :: A.take k) ++ List.replicate (A.length - k) 0)) (fun i => ((A.length : Int) - i.1).toNat) (fun _ => (dig (V 10000 A * V 10000 [10000]).toNat, ())) ?_ _ ⟨0, zR _, rfl, by simp [wy]⟩
 rintro ⟨i, s, u⟩ ⟨k, h1, h2, h3⟩
 simp only at h2 h3
 subst h2 h3
 simp only [ahO, aaN, hw]
 have da := aaY zb hda k
 rcases zt k A.length with hk | hk
 ·left
  have hrep : List.replicate (A.length - k) (0 : Int) = 0 :: List.replicate (A.length - (k + 1)) 0 := by
   rw [show A.length - k = (A.length - (k + 1)) + 1 by omega, wy]
  have hset : ((0 :: A.take k) ++ List.replicate (A.length - k) 0).set (k + 1) A[k] = ((0 :: A.take (k + 1)) ++ List.replicate (A.length - (k + 1)) 0) := by
   rw [hrep, List.set_append_right _ _ zg]
   have : k + 1 - (0 :: A.take k).length = 0 := zg
   rw [this, List.set_cons_zero]
   simp only [xK, zP hk, yU, yV]
  have hcur : 0 ≤ ((0 :: A.take k) ++ List.replicate (A.length - k) 0).getD k 0 ∧ ((0 :: A.take k) ++ List.replicate (A.length - k) 0).getD k 0 < 10000 := by
   refine aaY zb (ad1 (axL zb (ab5 hda k)) (afX zb _)) k
  have hlen : ((0 :: A.take k) ++ List.replicate (A.length - k) 0).length = A.length + 1 := zg
  generalize ((0 :: A.take k) ++ List.replicate (A.length - k) 0) = s at *
  generalize hd : s.getD k 0 = d at hcur
  have hg : A.getD k 0 = A[k] := by simp [hk]
  rw [hg] at da
  refine ⟨(((k + 1 : Nat) : Int), ((0 :: A.take (k + 1)) ++ List.replicate (A.length - (k + 1)) 0), ()), ?_, ⟨k + 1, by omega, rfl, rfl⟩, by simp only; omega, zd⟩
  refine uT sd ?_
  refine uO (0, 0, s, ()) ?_ ?_
  ·repeat refine za ?_
   rfl
  have hk0 : w64 ((k : Int) + 0) = ((k : Nat) : Int) := by rw [aaA zb]; omega
  have hkl : w64 ((k : Int) + len [(10000 : Int)]) = ((k + 1 : Nat) : Int) := by rw [aaI, yb, aaA zb]; omega
  have hsum : w64 (w64 (0 + d) + w64 (A[k] * 10000)) = d + A[k] * 10000 := by
   rw [aaA (x := 0 + d) zb, aaA (x := A[k] * 10000) zb, aaA zb]; omega
  have s1 : (adI A [10000] ((k : Int), s, ()) (0, 0, s, ())).toO = some (.inl (1, A[k], s, ())) := by
   simp only [adI, aaN, hw, hk0, zj, zn, hd, hg]
   have hgi : gi [(10000 : Int)] 0 0 = 10000 := rfl
   simp only [hgi, hsum]
   refine uT (by (try simp only [zH, xa, yQ, xp, beq_eq_false_iff_ne, bne_eq_false_iff_eq, zZ, xw]) <;> (try simp only [aaI, inb, inc, ge_iff_le, gt_iff_lt, zj, asT, ne_eq]) <;> simp) (uN sd (uN sd (uN (by (try simp only [aaI, inb, inc, ge_iff_le, gt_iff_lt, zj, asT, ne_eq]); simp) ?_)))
   repeat refine za ?_
   rw [zV zb, zK zb]
   have m1 : (d + A[k] * 10000) % 10000 = d := zb
   have m2 : (d + A[k] * 10000) / 10000 = A[k] := zb
   have m3 : s.set k d = s := by
    rw [← hd, ahV zb]
    exact List.set_getElem_self zb
   rw [m1, m2, m3, aaA (x := A[k]) zb]
   rfl
  rw [aeS s1]
  refine aeB ?_
  simp only [adI, hw, hkl, zj, zn]
  refine uF (by (try simp only [zH, xa, yQ, xp, beq_eq_false_iff_ne, bne_eq_false_iff_eq, zZ, xw]) <;> (try simp only [aaI, inb, inc, ge_iff_le, gt_iff_lt, zj, asT, ne_eq]) <;> simp) (uN sd ?_)
  repeat refine za ?_
  rw [hset, aaA (x := (k : Int) + 1) zb]
  rfl
 ·right
  have hkk : k = A.length := zb
  subst hkk
  rw [Nat.sub_self, List.replicate_zero, xc, zq]
  refine uF sd ?_
  refine uC (dig (V 10000 A * V 10000 [10000]).toNat, ()) ?_ ?_
  ·rw [zp zh]
   refine ae6 (axL zb hda) zg ?_
   rw [hV1]
   show 0 + 10000 * V 10000 A = _
   omega
  ·rfl
theorem as2 (A D : List Int) (y) (h : abO (A, D, ()) = some y) : (ad8 A D).toO = some y := by
 unfold abO at h
 split at h
 case isFalse => cases h
 case isTrue hp =>
 obtain ⟨hda, hdb, la, lb⟩ := hp
 dsimp only at hda hdb la lb h
 injection h with h
 subst h
 rcases hdb with hdb | rfl
 ·exact av0 A D hda hdb la lb
 ·exact ap3 A hda la
theorem aIt {a d : Nat} (h1 : (dig a).length ≤ 1000000000000) (h2 : 0 < d) (h3 : d < 10000) : amA (dig a, (d : Int), ()) = some (dig (a / d), ((a % d : Nat) : Int), ()) := by
 refine aaR (enc := fun p : Nat × Nat => (dig p.1, (p.2 : Int), ())) (a, d) ⟨h1, h2, h3⟩ (fun b hb => ?_)
 obtain ⟨e1, e2⟩ := Prod.mk.inj hb
 obtain ⟨e2, -⟩ := Prod.mk.inj e2
 exact Prod.ext (arU e1) (Int.ofNat.inj e2)
theorem aEY (Vm Vq P d R m X Y B W : Int) (h : Vm = Vq * d + R) (h2 : Y + d * X = R * B + m) (hW : W = m + B * Vm) (hP : P = X + B * Vq) : W = P * d + Y := by
 subst hW hP h
 grind
theorem aAU (m : List Int) (d : Int) (y) (h : amA (m, d, ()) = some y) : (ap6 m d).toO = some y := by
 obtain ⟨⟨a, e⟩, hn, hx, rfl⟩ := aaH h
 obtain ⟨rfl, hx2⟩ := Prod.mk.inj hx; obtain ⟨rfl, -⟩ := Prod.mk.inj hx2; dsimp only
 obtain ⟨la, he, he2⟩ := hn
 simp only at la he he2
 have hda := ac3 a
 have hVa := agG a
 unfold ap6
 refine uN sn ?_
 refine uO (((dig a).length : Int) - 1, 0, List.replicate (dig a).length 0, ()) ?_ ?_
 ·repeat refine za ?_
  simp only [aaI]
  rw [aaA (x := ((dig a).length : Int) - 1) zb]
  rfl
 refine aaW (fun i : Int × Int × List Int × Unit => ∃ k : Nat, k ≤ (dig a).length ∧ i.1 = (k : Int) - 1 ∧ 0 ≤ i.2.1 ∧ i.2.1 < e ∧ i.2.2.1.length = (dig a).length ∧ Dg 10000 i.2.2.1 ∧ V 10000 ((dig a).drop k) = V 10000 (i.2.2.1.drop k) * e + i.2.1) (fun i => (i.1 + 1).toNat) (fun _ => (dig (a / e), ((a % e : Nat) : Int), ())) ?_ _ ⟨_, zi _, rfl, by simp, by simp; omega, by simp, afX zb _, by rw [acS _ (zi _), acS _ zh]; simp⟩
 rintro ⟨i, r, q, u⟩ ⟨k, h1, h2, h3, h4, h5, h6, h7⟩
 simp only at h2 h3 h4 h5 h6 h7
 subst h2
 rcases zy k with h0 | h0
 ·subst h0
  right
  simp only [yC, hVa] at h7
  obtain ⟨v, hv⟩ := zG (aaL zb h6)
  obtain ⟨r', rfl⟩ := zG h3
  rw [hv] at h7
  have h8 : a = v * e + r' := by
   have : (a : Int) = ((v * e + r' : Nat) : Int) := by simpa using h7
   exact Int.ofNat.inj this
  have h9 : a / e = v := by rw [h8, yD, xZ _ _ he, yS zb, zn]
  have h10 : a % e = r' := by rw [h8, yD, xG, yp zb]
  simp only [amY]
  refine uF sd ?_
  refine uC (dig v, ()) ?_ ?_
  ·rw [zp (by simp [len]; omega)]
   exact ae6 h6 zb hv
  ·rw [aaP, h9, h10]
 ·left
  obtain ⟨j, rfl⟩ : ∃ j, k = j + 1 := ⟨k - 1, by omega⟩
  have e6 : ((j + 1 : Nat) : Int) - 1 = (j : Int) := zb
  rw [e6]
  simp only [amY, aaN]
  have e1 := aaO 10000 (dig a) j
  have e2 := aaY zb hda j
  have g1 : 0 ≤ r * 10000 + (dig a).getD j 0 := zb
  have g0 : (0 : Int) < e := zb
  have g2 := yc (r * 10000 + (dig a).getD j 0) e
  have g3 := xB (r * 10000 + (dig a).getD j 0) (show (e : Int) ≠ 0 by omega)
  have g4 := xv (r * 10000 + (dig a).getD j 0) g0
  have g5 : 0 ≤ (r * 10000 + (dig a).getD j 0) / e := xE g1 zb
  have g6 : (r * 10000 + (dig a).getD j 0) / e < 10000 := by
   refine Int.ediv_lt_of_lt_mul g0 ?_
   have : (r + 1) * 10000 ≤ e * 10000 := zD zb zb
   omega
  have hw1 : w64 (w64 (r * 10000) + (dig a).getD j 0) = r * 10000 + (dig a).getD j 0 := by
   rw [aaA (x := r * 10000) zb, aaA zb]
  simp only [hw1]
  refine ⟨((j : Int) - 1, (r * 10000 + (dig a).getD j 0) % e, q.set j ((r * 10000 + (dig a).getD j 0) / e), ()), ?_, ⟨j, by omega, rfl, g3, g4, by simp; omega, ahM h6 ⟨g5, g6⟩ _, ?_⟩, by simp only; omega, zd⟩
  ·repeat refine za ?_
   rw [zV g1, zK g1]
   rw [aaA (x := (r * 10000 + (dig a).getD j 0) / e) zb]
   simp (disch := omega) only [aaP, aaA, aaK, aaX, abZ, aaN, zn, zj, aaI, zq]
  ·simp only
   refine aEY _ _ _ _ _ _ _ _ 10000 _ h7 g2 e1 ?_
   rw [aaO 10000 (q.set j _) j, akP zb, agB _ zb]
theorem apB {s : List UInt8} (h : isD s) (i : Nat) : isD (s.take i) := fun c hc => h c (yE hc)
theorem alY {s : List UInt8} (h : isD s) (i : Nat) : isD (s.drop i) := fun c hc => h c (yZ hc)
theorem aCm {s : List UInt8} {a i : Nat} (h1 : a ≤ i) (h2 : i < s.length) : (s.take (i + 1)).drop a = (s.take i).drop a ++ [s[i]] := by
 rw [zP h2, List.drop_append_of_le_length zg]
theorem apX {s : List UInt8} {a i : Nat} (h1 : a ≤ i) (h2 : i ≤ s.length) : ((s.take i).drop a).length = i - a := zg
theorem aGM {s : List UInt8} {a e : Nat} (h1 : a ≤ e) (h2 : e ≤ s.length) : num (s.take e) = num (s.take a) * 10 ^ (e - a) + num ((s.take e).drop a) := by
 conv => lhs; rw [← xh a (s.take e)]
 rw [ajD, apX h1 h2, yJ, ym h1]
theorem aBc : num [] = 0 := rfl
theorem auM {s : List UInt8} (hd : isD s) {a i e : Nat} (h1 : a ≤ i) (h2 : i < e) (h3 : e ≤ s.length) (h4 : e - a ≤ 9) : adR (adR ((num ((s.take i).drop a) : Int) * 10) + adR (wu8 (((s.getD i 0).toNat : Int) - 48))) = (num ((s.take (i + 1)).drop a) : Int) := by
 have hi : i < s.length := zb
 have e1 : s.getD i 0 = s[i] := by simp [hi]
 have e2 := hd s[i] (yy hi)
 have e3 := ay0 (alY (apB hd i) a)
 rw [apX h1 zb] at e3
 have e4 : (10 : Nat) ^ (i - a) ≤ 10 ^ 8 := zQ zb zb
 have e5 : dv s[i] = s[i].toNat - 48 := rfl
 rw [aCm h1 hi, ajC, e1, e5]
 rw [abZ (x := (s[i].toNat : Int) - 48) zb, aaX (x := (s[i].toNat : Int) - 48) zb, aaX (x := (num ((s.take i).drop a) : Int) * 10) zb, aaX zb]
 omega
theorem aoN (digits : List UInt8) (y) (h : af0 (digits, ()) = some y) : (anL digits).toO = some y := by
 unfold af0 at h
 split at h
 case isFalse => cases h
 case isTrue hp =>
  obtain ⟨hd, hne, hl⟩ := hp
  simp only at hd hne hl
  injection h with h
  subst h
  generalize digits = s at *
  have hlen : 1 ≤ s.length := zL.2 hne
  refine uO ((s.length : Int), true, [], ()) rfl ?_
  refine aaW (fun i : Int × Bool × List Int × Unit => ∃ e : Nat, i.1 = (e : Int) ∧ 1 ≤ e ∧ e ≤ s.length ∧ Dg 1000000000 i.2.2.1 ∧ V 1000000000 i.2.2.1 + 1000000000 ^ i.2.2.1.length * num (s.take e) = num s ∧ i.2.2.1.length + e ≤ s.length ∧ (i.2.1 = true → i.2.2.1 = [])) (fun i => i.1.toNat) (fun _ => (mag (num s), ())) ?_ _ ⟨s.length, rfl, hlen, zi _, aoX _, by simp [V], by simp, fun _ => rfl⟩
  rintro ⟨e', f, l, u⟩ ⟨e, g1, g2, g3, g4, g5, g6, g7⟩
  simp only at g1 g4 g5 g6 g7
  subst g1
  obtain ⟨a, ha, ha1, ha2, ha3⟩ : ∃ a : Nat, (if 0 > w64 ((e : Int) - 9) then 0 else w64 ((e : Int) - 9)) = (a : Int) ∧ a ≤ e ∧ e - a ≤ 9 ∧ (a = 0 ∨ a + 9 = e) := by
   rw [aaA (x := (e : Int) - 9) zb]
   rcases zt e 9 with h9 | h9
   ·exact ⟨0, by rw [if_pos zb]; rfl, by omega, by omega, Or.inl rfl⟩
   ·exact ⟨e - 9, by rw [if_neg zb]; omega, by omega, by omega, Or.inr zb⟩
  have hseg := aGM (s := s) ha1 g3
  have hv := ay0 (alY (apB hd e) a)
  rw [apX ha1 g3] at hv
  have hv9 : (10 : Nat) ^ (e - a) ≤ 10 ^ 9 := zQ zb ha2
  generalize hX : num ((s.take e).drop a) = X at hseg hv
  have hD : Dg 1000000000 (l ++ [(X : Int)]) := ad1 g4 (ai4 zb zb)
  have hw9 : w64 ((e : Int) - 9) = (e : Int) - 9 := aaA zb
  have hV0 : a = 0 → V 1000000000 (l ++ [(X : Int)]) = num s := by
   intro h0
   subst h0
   rw [adL, atK, ← g5]
   rw [hseg]
   simp [aBc]
  have hV1 : a + 9 = e → V 1000000000 (l ++ [(X : Int)]) + 1000000000 ^ (l ++ [(X : Int)]).length * (num (s.take a) : Int) = num s := by
   intro h0
   rw [adL, atK, ← g5, hseg, show e - a = 9 by omega, zF, yb, yi]
   have : (((num (s.take a) * 10 ^ 9 + X : Nat)) : Int) = (num (s.take a) : Int) * 1000000000 + X := zh
   rw [this]
   grind
  cases f
  ·-- not the first group
   simp only [akW, ha]
   have hin : adP (fun i1 => (ahX s ((e : Int), false, l, ()) i1).toO) ((a : Int), 0, ()) = some (if a = 0 then Sum.inr (mag (num s), ()) else Sum.inl ((a : Int), false, l ++ [(X : Int)], ())) := by
    refine aaW (fun j : Int × Int × Unit => ∃ i : Nat, a ≤ i ∧ i ≤ e ∧ j = ((i : Int), (num ((s.take i).drop a) : Int), ())) (fun j => ((e : Int) - j.1).toNat) (fun _ => (if a = 0 then Sum.inr (mag (num s), ()) else Sum.inl ((a : Int), false, l ++ [(X : Int)], ()))) ?_ _ ⟨a, zi _, ha1, by rw [yd zg]; rfl⟩
    rintro j ⟨i, h1, h2, rfl⟩
    rcases zt i e with hi | hi
    ·left
     refine ⟨(((i + 1 : Nat) : Int), (num ((s.take (i + 1)).drop a) : Int), ()), ?_, ⟨i + 1, by omega, by omega, rfl⟩, by simp only; omega, zd⟩
     simp only [ahX, aaN, auM hd h1 hi g3 ha2]
     repeat refine za ?_
     simp (disch := omega) only [aaP, aaA, aaK, aaX, abZ, aaN, zn, zj, aaI, zq]
     rfl
    ·right
     have hie : i = e := zb
     subst hie
     simp only [ahX, ha, hX, zq]
     refine uF sd ?_
     refine uN zb ?_
     by_cases h0 : a = 0
     ·rw [if_pos h0]
      refine uT (by simp [h0]) ?_
      refine uC (mag (num s), ()) ?_ rfl
      rw [zp zh]
      exact apP hD zg (hV0 h0)
     ·rw [if_neg h0]
      refine uF zg ?_
      repeat refine za ?_
      have : w64 ((i : Int) - 9) = (a : Int) := by rw [hw9]; omega
      rw [this]
      rfl
   by_cases h0 : a = 0
   ·right
    rw [if_pos h0] at hin
    refine uF rfl ?_
    refine uO ((a : Int), 0, ()) ?_ hin
    repeat refine za ?_
    rfl
   ·left
    rw [if_neg h0] at hin
    refine ⟨((a : Int), false, l ++ [(X : Int)], ()), ?_, ⟨a, rfl, by omega, by omega, hD, hV1 zb, by simp; omega, by simp⟩, by simp only; omega, zd⟩
    refine uF rfl ?_
    refine uO ((a : Int), 0, ()) ?_ hin
    repeat refine za ?_
    rfl
  ·-- the first group
   obtain rfl := g7 rfl
   simp only [yV] at hD hV0 hV1
   simp only [akW, ha]
   have hin : adP (fun i1 => (ahY s ((e : Int), true, [], ()) i1).toO) ((a : Int), 0, ()) = some (if a = 0 then Sum.inr (mag (num s), ()) else Sum.inl ((a : Int), false, [(X : Int)], ())) := by
    refine aaW (fun j : Int × Int × Unit => ∃ i : Nat, a ≤ i ∧ i ≤ e ∧ j = ((i : Int), (num ((s.take i).drop a) : Int), ())) (fun j => ((e : Int) - j.1).toNat) (fun _ => (if a = 0 then Sum.inr (mag (num s), ()) else Sum.inl ((a : Int), false, [(X : Int)], ()))) ?_ _ ⟨a, zi _, ha1, by rw [yd zg]; rfl⟩
    rintro j ⟨i, h1, h2, rfl⟩
    rcases zt i e with hi | hi
    ·left
     refine ⟨(((i + 1 : Nat) : Int), (num ((s.take (i + 1)).drop a) : Int), ()), ?_, ⟨i + 1, by omega, by omega, rfl⟩, by simp only; omega, zd⟩
     simp only [ahY, aaN, auM hd h1 hi g3 ha2]
     repeat refine za ?_
     simp (disch := omega) only [aaP, aaA, aaK, aaX, abZ, aaN, zn, zj, aaI, zq]
     rfl
    ·right
     have hie : i = e := zb
     subst hie
     simp only [ahY, ha, hX]
     refine uF sd ?_
     refine uN zh ?_
     by_cases h0 : a = 0
     ·rw [if_pos h0]
      refine uT (by simp [h0]) ?_
      refine uC (mag (num s), ()) ?_ rfl
      exact apP hD zh (hV0 h0)
     ·rw [if_neg h0]
      refine uF zg ?_
      repeat refine za ?_
      have : w64 ((i : Int) - 9) = (a : Int) := by rw [hw9]; omega
      rw [this]
      rfl
   by_cases h0 : a = 0
   ·right
    rw [if_pos h0] at hin
    refine uT rfl ?_
    refine uO ((a : Int), 0, ()) ?_ hin
    repeat refine za ?_
    rfl
   ·left
    rw [if_neg h0] at hin
    refine ⟨((a : Int), false, [(X : Int)], ()), ?_, ⟨a, rfl, by omega, by omega, hD, hV1 zb, by simp; omega, by simp⟩, by simp only; omega, zd⟩
    refine uT rfl ?_
    refine uO ((a : Int), 0, ()) ?_ hin
    repeat refine za ?_
    rfl
end Go.Vs
