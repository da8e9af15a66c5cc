/-
  Trees of what the functions compute, and their laws. Own work; no condition.
-/
import Derived.Test.YtakjojajnblpoaaGreatDoorClL3
import Derived.Test.YtakjojajnblpoaaGreatDoorProg
set_option linter.unusedVariables false
set_option linter.unusedSimpArgs false
set_option maxRecDepth 100000
namespace Go.Vs
open Go Go.Vg Go.Proofs
noncomputable section
def aOM : LTab := [(130, 28, 4097, ⟨0, (Int) × Unit, .dat (.s 3) uk <| .nil, [2, 0], [], 0⟩)]
def aDA (d : List Int) (i : (Int) × Unit) : TT (uW ⊕ ux) :=
 .ite (decide (i.1 > 0))
 (.need (inb (w64 (i.1 - 1)) (len d)) <| .ite (gi d (w64 (i.1 - 1)) 0 == 0)
 (.tt <| .lt (w64 (i.1 - 1) : Int) fun z => .vT (vU z <| True ∧ uc d) <| .tr <| .ok (.inl ((z, ()))))
 (.need (inc i.1 (len d)) <| .ok (.inr ((List.take (Int.toNat i.1) d, ())))))
 (.need (inc i.1 (len d)) <| .ok (.inr ((List.take (Int.toNat i.1) d, ()))))
def aHH (d : List Int) : TT ux :=
 .loop 0 (.tt <| .vT (vU (len d) <| True ∧ uc d) <| .tr <| .ok ((len d, ()))) (aDA d)
def aLB : LTab := []
def aDz (below : Bool) (d : List Int) : TT tj :=
 .call (acO (d, ())) aFl fun y =>
 .ite (below)
 (.ok (((decide (len y.1 > 0), y.1, ()), ())))
 (.ok (((false, y.1, ()), ())))
def aDI : LTab := [(40, 60, 5122, ⟨0, Bool × (List Int) × (Int) × Unit, .appN (.s 3) 5 3 uk <| .dat (.s 0) uk <| .nil, [4, 2], [0], 1⟩)]
def ae8 (n : Int) (i : Bool × (List Int) × (Int) × Unit) : TT ((Bool × (List Int) × (Int) × Unit) ⊕ tj) :=
 .ite (i.1)
 (.ite (i.2.2.1 != 0)
 (.triv (asT Int 10000 ≠ 0) zf <| .ite (decide (Int.tmod i.2.2.1 10000 < 0))
 (.need (1 * 8 ≤ 140737488355328) <| .triv (asT Int 10000 ≠ 0) zf <| .tt <| .lt ([w64 (0 - Int.tmod i.2.2.1 10000)] : List Int) fun z => .lt (w64 (Int.tdiv i.2.2.1 10000) : Int) fun z1 => .vT (vU z1 <| sa ∧ (vU (decide (n < 0)) <| uq ∧ True)) <| .vT (vS (vX 3 z) <| vS uz True) <| .ok (.inl ((false, z, z1, ()))))
 (.need (1 * 8 ≤ 140737488355328) <| .triv (asT Int 10000 ≠ 0) zf <| .tt <| .lt ([Int.tmod i.2.2.1 10000] : List Int) fun z2 => .lt (w64 (Int.tdiv i.2.2.1 10000) : Int) fun z3 => .vT (vU z3 <| sa ∧ (vU (decide (n < 0)) <| uq ∧ True)) <| .vT (vS (vX 3 z2) <| vS uz True) <| .ok (.inl ((false, z2, z3, ())))))
 (.call (abH (decide (n < 0), [], ())) alG fun y =>
 .ok (.inr (((y.1.1, y.1.2.1, ()), ())))))
 (.ite (i.2.2.1 != 0)
 (.triv (asT Int 10000 ≠ 0) zf <| .ite (decide (Int.tmod i.2.2.1 10000 < 0))
 (.need ((List.length i.2.1 + 1) * 8 ≤ 140737488355328) <| .triv (asT Int 10000 ≠ 0) zf <| .tt <| .lt (List.take (List.length i.2.1) i.2.1 ++ [w64 (0 - Int.tmod i.2.2.1 10000)] : List Int) fun z4 => .lt (w64 (Int.tdiv i.2.2.1 10000) : Int) fun z5 => .need (((z5 : Int) = z5) ∧ (((5) = (5)) ∧ (((0) = (0)) ∧ ((List.length i.2.1 + 1 = List.length z4) ∧ ((true) = (true))))) ∧ ((decide (n < 0)) = (decide (n < 0))) ∧ (((0) = (0)) ∧ (((0) = (0)) ∧ ((true) = (true)))) ∧ True) <| .vT (vS (vX 3 z4) <| vS uz True) <| .ok (.inl ((false, z4, z5, ()))))
 (.need ((List.length i.2.1 + 1) * 8 ≤ 140737488355328) <| .triv (asT Int 10000 ≠ 0) zf <| .tt <| .lt (List.take (List.length i.2.1) i.2.1 ++ [Int.tmod i.2.2.1 10000] : List Int) fun z6 => .lt (w64 (Int.tdiv i.2.2.1 10000) : Int) fun z7 => .need (((z7 : Int) = z7) ∧ (((5) = (5)) ∧ (((0) = (0)) ∧ ((List.length i.2.1 + 1 = List.length z6) ∧ ((true) = (true))))) ∧ ((decide (n < 0)) = (decide (n < 0))) ∧ (((0) = (0)) ∧ (((0) = (0)) ∧ ((true) = (true)))) ∧ True) <| .vT (vS (vX 3 z6) <| vS uz True) <| .ok (.inl ((false, z6, z7, ())))))
 (.call (abH (decide (n < 0), List.take (List.length i.2.1) i.2.1, ())) alG fun y1 =>
 .ok (.inr (((y1.1.1, y1.1.2.1, ()), ())))))
def atL (n : Int) : TT tj :=
 .loop 0 (.tt <| .vT (vU n <| True ∧ (vU (decide (n < 0)) <| uq ∧ True)) <| .vT se <| .ok ((true, [], n, ()))) (ae8 n)
def aLC : LTab := []
def av4 (n : Int) : TT tc :=
 .triv (asT Int 1000 ≠ 0) zf <| .triv (asT Int 100 ≠ 0) zf <| .triv (asT Int 10 ≠ 0) zf <| .triv (asT Int 10 ≠ 0) zf <| .triv (asT Int 10 ≠ 0) zf <| .triv (asT Int 10 ≠ 0) zf <| .ok ((List.map (fun n => UInt8.ofNat (Int.toNat n)) (List.take 4 [wu8 (w64 (48 + w64 (Int.tdiv n 1000))), wu8 (w64 (48 + Int.tmod (w64 (Int.tdiv n 100)) 10)), wu8 (w64 (48 + Int.tmod (w64 (Int.tdiv n 10)) 10)), wu8 (w64 (48 + Int.tmod n 10))]), ()))
def aLE : LTab := [(125, 58, 8192, ⟨0, (Int) × (List UInt8) × Unit, .dat (.s 4) uk <| .dat (.s 3) (Ty.str) <| .nil, [2, 1], [0], 0⟩), (125, 124, 11264, ⟨1, (Int) × Unit, .dat (.s 5) uk <| .nil, [3, 2, 1], [0], 0⟩)]
def akD (i1 : (Int) × Unit) (i : Int × List UInt8 × Unit) (a : Bool × List Int × Unit) : TT (uW ⊕ tK) :=
 .need (inc i1.1 (len i.2.1)) <| .ite (List.take (List.length i.2.1 - Int.toNat i1.1) (List.drop (Int.toNat i1.1) i.2.1) == #[].toList)
 (.ok (.inr (.inr ((#[48].toList, ())))))
 (.ite (a.1)
 (.need (List.length #[45].toList + List.length (List.take (List.length i.2.1 - Int.toNat i1.1) (List.drop (Int.toNat i1.1) i.2.1)) ≤ lim) <| .ok (.inr (.inr ((#[45].toList ++ List.take (List.length i.2.1 - Int.toNat i1.1) (List.drop (Int.toNat i1.1) i.2.1), ())))))
 (.ok (.inr (.inr ((List.take (List.length i.2.1 - Int.toNat i1.1) (List.drop (Int.toNat i1.1) i.2.1), ()))))))
def aAe (a : Bool × List Int × Unit) (i : Int × List UInt8 × Unit) (i1 : (Int) × Unit) : TT (uW ⊕ tK) :=
 .ite (decide (i1.1 < len i.2.1))
 (.need (inb i1.1 (len i.2.1)) <| .ite ((↑(UInt8.toNat (gi i.2.1 i1.1 0)) : Int) == 48)
  (.tt <| .lt (w64 (i1.1 + 1) : Int) fun z3 => .vT (ue z3 i.2.1 (#[].toList : List UInt8) <| uq ∧ True) <| .vT (vS (vW 83 a.1 a.2.1) True) <| .ok (.inl ((z3, ()))))
  (akD i1 i a))
 (akD i1 i a)
def arY (a : Bool × List Int × Unit) (i : (Int) × (List UInt8) × Unit) : TT tK :=
 .ite (decide (i.1 ≥ 0))
 (.need (inb i.1 (len a.2.1)) <| .call (aqY (gi a.2.1 i.1 0, ())) Dd2 fun y =>
 .need (List.length i.2.1 + List.length y.1 ≤ lim) <| .tt <| .lt (w64 (i.1 - 1) : Int) fun z1 => .lt (i.2.1 ++ y.1 : List UInt8) fun z2 => .vT (ue z2 z1 (#[].toList : List UInt8) <| uq ∧ True) <| .vT (vS (vW 83 a.1 a.2.1) True) <| .ok (.inl ((z1, z2, ()))))
 (.loop 1 (.tt <| .vT (ue (0 : Int) i.2.1 (#[].toList : List UInt8) <| uq ∧ True) <| .vT (vS (vW 83 a.1 a.2.1) True) <| .ok ((0, ()))) (aAe a i))
def av6 (a : Bool × List Int × Unit) : TT tc :=
 .loop 0 (.tt <| .lt (w64 (len a.2.1 - 1) : Int) fun z => .vT (ue (#[].toList : List UInt8) z (#[].toList : List UInt8) <| uq ∧ True) <| .vT (vS (vW 83 a.1 a.2.1) True) <| .ok ((z, #[].toList, ()))) (arY a)
def aON : LTab := []
def aHI (a : Bool × List Int × Unit) : TT tk :=
 .call (amG ((a.1, a.2.1, ()), ())) Dd2 fun y =>
 .ite (a.1)
 (.ite (decide (w64 (len y.1 - 1) > 600))
 (.ok ((#[].toList, 6, ())))
 (.ok ((y.1, 0, ()))))
 (.ite (decide (len y.1 > 600))
 (.ok ((#[].toList, 6, ())))
 (.ok ((y.1, 0, ()))))
def aI2 : LTab := [(132, 58, 10240, ⟨0, (Int) × Unit, .dat (.s 5) uk <| .nil, [0, 1], [], 0⟩)]
def av2 (a : List Int) (b : List Int) (i : (Int) × Unit) : TT (uW ⊕ uK) :=
 .ite (decide (i.1 ≥ 0))
 (.need (inb i.1 (len a)) <| .need (inb i.1 (len b)) <| .ite (gi a i.1 0 != gi b i.1 0)
 (.need (inb i.1 (len a)) <| .need (inb i.1 (len b)) <| .ok (.inr ((w64 (gi a i.1 0 - gi b i.1 0), ()))))
 (.tt <| .lt (w64 (i.1 - 1) : Int) fun z1 => .vT (vW z1 a b) <| .tr <| .ok (.inl ((z1, ())))))
 (.ok (.inr ((0, ()))))
def arV (a : List Int) (b : List Int) : TT uK :=
 .ite (len a != len b)
 (.ok ((w64 (len a - len b), ())))
 (.loop 0 (.tt <| .lt (w64 (len a - 1) : Int) fun z => .vT (vW z a b) <| .tr <| .ok ((z, ()))) (av2 a b))
def aOL : LTab := [(131, 122, 4098, ⟨0, (Int) × (Int) × Bool × (List Int) × Unit, .dat (.s 7) uk <| .dat (.s 6) uk <| .appN (.s 5) 4 3 uk <| .nil, [4, 0, 1], [], 1⟩)]
def adN (i : (Int) × (Int) × Bool × (List Int) × Unit) (a : List Int) (b : List Int) : TT tf :=
 .ite (decide (i.1 < len a))
 (.need (inb i.1 (len a)) <| .ite (decide (i.1 < len b))
 (.need (inb i.1 (len b)) <| .triv (asT Int 10000 ≠ 0) zf <| .need ((List.length i.2.2.2.1 + 1) * 8 ≤ 140737488355328) <| .triv (asT Int 10000 ≠ 0) zf <| .tt <| .lt (w64 (i.1 + 1) : Int) fun z36 => .lt (w64 (Int.tdiv (w64 (w64 (i.2.1 + gi a i.1 0) + gi b i.1 0)) 10000) : Int) fun z37 => .lt (List.take (List.length i.2.2.2.1) i.2.2.2.1 ++ [Int.tmod (w64 (w64 (i.2.1 + gi a i.1 0) + gi b i.1 0)) 10000] : List Int) fun z38 => .need ((((4) = (4)) ∧ (((0) = (0)) ∧ ((List.length i.2.2.2.1 + 1 = List.length z38) ∧ ((true) = (true))))) ∧ ((z37 : Int) = z37) ∧ ((z36 : Int) = z36) ∧ True ∧ ((a) = (a)) ∧ ((b) = (b)) ∧ True) <| .vT (vS (vX 3 z38) True) <| .ok (.inl ((z36, z37, false, z38, ()))))
 (.triv (asT Int 10000 ≠ 0) zf <| .need ((List.length i.2.2.2.1 + 1) * 8 ≤ 140737488355328) <| .triv (asT Int 10000 ≠ 0) zf <| .tt <| .lt (w64 (i.1 + 1) : Int) fun z39 => .lt (w64 (Int.tdiv (w64 (i.2.1 + gi a i.1 0)) 10000) : Int) fun z40 => .lt (List.take (List.length i.2.2.2.1) i.2.2.2.1 ++ [Int.tmod (w64 (i.2.1 + gi a i.1 0)) 10000] : List Int) fun z41 => .need ((((4) = (4)) ∧ (((0) = (0)) ∧ ((List.length i.2.2.2.1 + 1 = List.length z41) ∧ ((true) = (true))))) ∧ ((z40 : Int) = z40) ∧ ((z39 : Int) = z39) ∧ True ∧ ((a) = (a)) ∧ ((b) = (b)) ∧ True) <| .vT (vS (vX 3 z41) True) <| .ok (.inl ((z39, z40, false, z41, ())))))
 (.ite (decide (i.1 < len b))
 (.need (inb i.1 (len b)) <| .triv (asT Int 10000 ≠ 0) zf <| .need ((List.length i.2.2.2.1 + 1) * 8 ≤ 140737488355328) <| .triv (asT Int 10000 ≠ 0) zf <| .tt <| .lt (w64 (i.1 + 1) : Int) fun z42 => .lt (w64 (Int.tdiv (w64 (i.2.1 + gi b i.1 0)) 10000) : Int) fun z43 => .lt (List.take (List.length i.2.2.2.1) i.2.2.2.1 ++ [Int.tmod (w64 (i.2.1 + gi b i.1 0)) 10000] : List Int) fun z44 => .need ((((4) = (4)) ∧ (((0) = (0)) ∧ ((List.length i.2.2.2.1 + 1 = List.length z44) ∧ ((true) = (true))))) ∧ ((z43 : Int) = z43) ∧ ((z42 : Int) = z42) ∧ True ∧ ((a) = (a)) ∧ ((b) = (b)) ∧ True) <| .vT (vS (vX 3 z44) True) <| .ok (.inl ((z42, z43, false, z44, ()))))
 (.triv (asT Int 10000 ≠ 0) zf <| .need ((List.length i.2.2.2.1 + 1) * 8 ≤ 140737488355328) <| .triv (asT Int 10000 ≠ 0) zf <| .tt <| .lt (w64 (i.1 + 1) : Int) fun z45 => .lt (w64 (Int.tdiv i.2.1 10000) : Int) fun z46 => .lt (List.take (List.length i.2.2.2.1) i.2.2.2.1 ++ [Int.tmod i.2.1 10000] : List Int) fun z47 => .need ((((4) = (4)) ∧ (((0) = (0)) ∧ ((List.length i.2.2.2.1 + 1 = List.length z47) ∧ ((true) = (true))))) ∧ ((z46 : Int) = z46) ∧ ((z45 : Int) = z45) ∧ True ∧ ((a) = (a)) ∧ ((b) = (b)) ∧ True) <| .vT (vS (vX 3 z47) True) <| .ok (.inl ((z45, z46, false, z47, ())))))
def adM (i : (Int) × (Int) × Bool × (List Int) × Unit) (a : List Int) (b : List Int) : TT tf :=
 .ite (decide (i.1 < len a))
 (.need (inb i.1 (len a)) <| .ite (decide (i.1 < len b))
 (.need (inb i.1 (len b)) <| .triv (asT Int 10000 ≠ 0) zf <| .need (1 * 8 ≤ 140737488355328) <| .triv (asT Int 10000 ≠ 0) zf <| .tt <| .lt (w64 (i.1 + 1) : Int) fun z => .lt (w64 (Int.tdiv (w64 (w64 (i.2.1 + gi a i.1 0) + gi b i.1 0)) 10000) : Int) fun z1 => .lt ([Int.tmod (w64 (w64 (i.2.1 + gi a i.1 0) + gi b i.1 0)) 10000] : List Int) fun z2 => .vT (tz ∧ (ua z1 z <| True ∧ uf a b)) <| .vT (vS (vX 3 z2) True) <| .ok (.inl ((z, z1, false, z2, ()))))
 (.triv (asT Int 10000 ≠ 0) zf <| .need (1 * 8 ≤ 140737488355328) <| .triv (asT Int 10000 ≠ 0) zf <| .tt <| .lt (w64 (i.1 + 1) : Int) fun z3 => .lt (w64 (Int.tdiv (w64 (i.2.1 + gi a i.1 0)) 10000) : Int) fun z4 => .lt ([Int.tmod (w64 (i.2.1 + gi a i.1 0)) 10000] : List Int) fun z5 => .vT (tz ∧ (ua z4 z3 <| True ∧ uf a b)) <| .vT (vS (vX 3 z5) True) <| .ok (.inl ((z3, z4, false, z5, ())))))
 (.ite (decide (i.1 < len b))
 (.need (inb i.1 (len b)) <| .triv (asT Int 10000 ≠ 0) zf <| .need (1 * 8 ≤ 140737488355328) <| .triv (asT Int 10000 ≠ 0) zf <| .tt <| .lt (w64 (i.1 + 1) : Int) fun z6 => .lt (w64 (Int.tdiv (w64 (i.2.1 + gi b i.1 0)) 10000) : Int) fun z7 => .lt ([Int.tmod (w64 (i.2.1 + gi b i.1 0)) 10000] : List Int) fun z8 => .vT (tz ∧ (ua z7 z6 <| True ∧ uf a b)) <| .vT (vS (vX 3 z8) True) <| .ok (.inl ((z6, z7, false, z8, ()))))
 (.triv (asT Int 10000 ≠ 0) zf <| .need (1 * 8 ≤ 140737488355328) <| .triv (asT Int 10000 ≠ 0) zf <| .tt <| .lt (w64 (i.1 + 1) : Int) fun z9 => .lt (w64 (Int.tdiv i.2.1 10000) : Int) fun z10 => .lt ([Int.tmod i.2.1 10000] : List Int) fun z11 => .vT (tz ∧ (ua z10 z9 <| True ∧ uf a b)) <| .vT (vS (vX 3 z11) True) <| .ok (.inl ((z9, z10, false, z11, ())))))
def alT (a : List Int) (b : List Int) (i : (Int) × (Int) × Bool × (List Int) × Unit) : TT tf :=
 .ite (i.2.2.1)
 (.ite (decide (i.1 < len a))
  (adM i a b)
  (.ite (decide (i.1 < len b))
   (adM i a b)
   (.ite (decide (i.2.1 > 0))
    (adM i a b)
    (.ok (.inr (([], ())))))))
 (.ite (decide (i.1 < len a))
  (adN i a b)
  (.ite (decide (i.1 < len b))
   (adN i a b)
   (.ite (decide (i.2.1 > 0))
    (adN i a b)
    (.ok (.inr ((List.take (List.length i.2.2.2.1) i.2.2.2.1, ())))))))
def aHG (a : List Int) (b : List Int) : TT ux :=
 .loop 0 (.tt <| .vT (True ∧ (ua (0 : Int) (0 : Int) <| True ∧ uf a b)) <| .tr <| .ok ((0, 0, true, [], ()))) (alT a b)
def av5 : LTab := [(133, 122, 4098, ⟨0, (Int) × (Int) × Bool × (List Int) × Unit, .dat (.s 7) uk <| .dat (.s 6) uk <| .appN (.s 5) 4 3 uk <| .nil, [4, 0, 1], [], 1⟩)]
def abW (a : List Int) (b : List Int) (i : (Int) × (Int) × Bool × (List Int) × Unit) : TT tf :=
 .ite (i.2.2.1)
 (.ite (decide (i.1 < len a))
 (.need (inb i.1 (len a)) <| .ite (decide (i.1 < len b))
 (.need (inb i.1 (len b)) <| .ite (decide (w64 (w64 (gi a i.1 0 - i.2.1) - gi b i.1 0) < 0))
 (.need (1 * 8 ≤ 140737488355328) <| .tt <| .lt (w64 (i.1 + 1) : Int) fun z => .lt ([w64 (w64 (w64 (gi a i.1 0 - i.2.1) - gi b i.1 0) + 10000)] : List Int) fun z1 => .vT (tz ∧ (ua (1 : Int) z <| True ∧ uf a b)) <| .vT (vS (vX 3 z1) True) <| .ok (.inl ((z, 1, false, z1, ()))))
 (.need (1 * 8 ≤ 140737488355328) <| .tt <| .lt (w64 (i.1 + 1) : Int) fun z2 => .lt ([w64 (w64 (gi a i.1 0 - i.2.1) - gi b i.1 0)] : List Int) fun z3 => .vT (tz ∧ (ua (0 : Int) z2 <| True ∧ uf a b)) <| .vT (vS (vX 3 z3) True) <| .ok (.inl ((z2, 0, false, z3, ())))))
 (.ite (decide (w64 (gi a i.1 0 - i.2.1) < 0))
 (.need (1 * 8 ≤ 140737488355328) <| .tt <| .lt (w64 (i.1 + 1) : Int) fun z4 => .lt ([w64 (w64 (gi a i.1 0 - i.2.1) + 10000)] : List Int) fun z5 => .vT (tz ∧ (ua (1 : Int) z4 <| True ∧ uf a b)) <| .vT (vS (vX 3 z5) True) <| .ok (.inl ((z4, 1, false, z5, ()))))
 (.need (1 * 8 ≤ 140737488355328) <| .tt <| .lt (w64 (i.1 + 1) : Int) fun z6 => .lt ([w64 (gi a i.1 0 - i.2.1)] : List Int) fun z7 => .vT (tz ∧ (ua (0 : Int) z6 <| True ∧ uf a b)) <| .vT (vS (vX 3 z7) True) <| .ok (.inl ((z6, 0, false, z7, ()))))))
 (.call (acO ([], ())) aFl fun y =>
 .ok (.inr ((y.1, ())))))
 (.ite (decide (i.1 < len a))
 (.need (inb i.1 (len a)) <| .ite (decide (i.1 < len b))
 (.need (inb i.1 (len b)) <| .ite (decide (w64 (w64 (gi a i.1 0 - i.2.1) - gi b i.1 0) < 0))
 (.need ((List.length i.2.2.2.1 + 1) * 8 ≤ 140737488355328) <| .tt <| .lt (w64 (i.1 + 1) : Int) fun z8 => .lt (List.take (List.length i.2.2.2.1) i.2.2.2.1 ++ [w64 (w64 (w64 (gi a i.1 0 - i.2.1) - gi b i.1 0) + 10000)] : List Int) fun z9 => .need ((((4) = (4)) ∧ (((0) = (0)) ∧ ((List.length i.2.2.2.1 + 1 = List.length z9) ∧ ((true) = (true))))) ∧ ((1 : Int) = 1) ∧ ((z8 : Int) = z8) ∧ True ∧ ((a) = (a)) ∧ ((b) = (b)) ∧ True) <| .vT (vS (vX 3 z9) True) <| .ok (.inl ((z8, 1, false, z9, ()))))
 (.need ((List.length i.2.2.2.1 + 1) * 8 ≤ 140737488355328) <| .tt <| .lt (w64 (i.1 + 1) : Int) fun z10 => .lt (List.take (List.length i.2.2.2.1) i.2.2.2.1 ++ [w64 (w64 (gi a i.1 0 - i.2.1) - gi b i.1 0)] : List Int) fun z11 => .need ((((4) = (4)) ∧ (((0) = (0)) ∧ ((List.length i.2.2.2.1 + 1 = List.length z11) ∧ ((true) = (true))))) ∧ ((0 : Int) = 0) ∧ ((z10 : Int) = z10) ∧ True ∧ ((a) = (a)) ∧ ((b) = (b)) ∧ True) <| .vT (vS (vX 3 z11) True) <| .ok (.inl ((z10, 0, false, z11, ())))))
 (.ite (decide (w64 (gi a i.1 0 - i.2.1) < 0))
 (.need ((List.length i.2.2.2.1 + 1) * 8 ≤ 140737488355328) <| .tt <| .lt (w64 (i.1 + 1) : Int) fun z12 => .lt (List.take (List.length i.2.2.2.1) i.2.2.2.1 ++ [w64 (w64 (gi a i.1 0 - i.2.1) + 10000)] : List Int) fun z13 => .need ((((4) = (4)) ∧ (((0) = (0)) ∧ ((List.length i.2.2.2.1 + 1 = List.length z13) ∧ ((true) = (true))))) ∧ ((1 : Int) = 1) ∧ ((z12 : Int) = z12) ∧ True ∧ ((a) = (a)) ∧ ((b) = (b)) ∧ True) <| .vT (vS (vX 3 z13) True) <| .ok (.inl ((z12, 1, false, z13, ()))))
 (.need ((List.length i.2.2.2.1 + 1) * 8 ≤ 140737488355328) <| .tt <| .lt (w64 (i.1 + 1) : Int) fun z14 => .lt (List.take (List.length i.2.2.2.1) i.2.2.2.1 ++ [w64 (gi a i.1 0 - i.2.1)] : List Int) fun z15 => .need ((((4) = (4)) ∧ (((0) = (0)) ∧ ((List.length i.2.2.2.1 + 1 = List.length z15) ∧ ((true) = (true))))) ∧ ((0 : Int) = 0) ∧ ((z14 : Int) = z14) ∧ True ∧ ((a) = (a)) ∧ ((b) = (b)) ∧ True) <| .vT (vS (vX 3 z15) True) <| .ok (.inl ((z14, 0, false, z15, ()))))))
 (.call (acO (List.take (List.length i.2.2.2.1) i.2.2.2.1, ())) aFl fun y1 =>
 .ok (.inr ((y1.1, ())))))
def alU (a : List Int) (b : List Int) : TT ux :=
 .loop 0 (.tt <| .vT (True ∧ (ua (0 : Int) (0 : Int) <| True ∧ uf a b)) <| .tr <| .ok ((0, 0, true, [], ()))) (abW a b)
def aDw : LTab := [(134, 58, 9217, ⟨0, (Int) × (List Int) × Unit, .dat (.s 6) uk <| .row 6 uk <| .nil, [5, 4, 0, 1], [6], 0⟩), (134, 14922, 15361, ⟨1, (Int) × (Int) × (List Int) × Unit, .dat (.s 8) uk <| .dat (.s 7) uk <| .row 6 uk <| .nil, [18, 17, 16, 15, 6, 5, 4, 0, 1], [6], 0⟩)]
def ad0 (a : List Int) (b : List Int) (i : Int × List Int × Unit) (i1 : (Int) × (Int) × (List Int) × Unit) : TT (uP ⊕ th) :=
 .ite (decide (i1.1 < len b))
 (.need (inb (w64 (i.1 + i1.1)) (↑(Int.toNat (w64 (len a + len b))) : Int)) <| .need (inb i.1 (len a)) <| .need (inb i1.1 (len b)) <| .triv (asT Int 10000 ≠ 0) zf <| .need (inb (w64 (i.1 + i1.1)) (↑(Int.toNat (w64 (len a + len b))) : Int)) <| .triv (asT Int 10000 ≠ 0) zf <| .tt <| .lt (w64 (i1.1 + 1) : Int) fun z2 => .lt (w64 (Int.tdiv (w64 (w64 (i1.2.1 + List.getD i1.2.2.1 (0 + Int.toNat (w64 (i.1 + i1.1))) 0) + w64 (gi a i.1 0 * gi b i1.1 0))) 10000) : Int) fun z3 => .lt (List.set i1.2.2.1 (0 + Int.toNat (w64 (i.1 + i1.1))) (Int.tmod (w64 (w64 (i1.2.1 + List.getD i1.2.2.1 (0 + Int.toNat (w64 (i.1 + i1.1))) 0) + w64 (gi a i.1 0 * gi b i1.1 0))) 10000) : List Int) fun z4 => .vT (ug z3 z2 (decide (i.1 < len a)) (len a) a i.1 i.1 <| (vY 6 0 (Int.toNat (w64 (len a + len b))) true) ∧ True ∧ uf a b) <| .vT (vS (vX 3 z4) True) <| .ok (.inl ((z2, z3, z4, ()))))
 (.need (inb (w64 (i.1 + len b)) (↑(Int.toNat (w64 (len a + len b))) : Int)) <| .tt <| .lt (w64 (i.1 + 1) : Int) fun z5 => .lt (List.set i1.2.2.1 (0 + Int.toNat (w64 (i.1 + len b))) i1.2.1 : List Int) fun z6 => .vT (vU z5 <| (vY 6 0 (Int.toNat (w64 (len a + len b))) true) ∧ True ∧ uf a b) <| .vT (vS (vX 3 z6) True) <| .ok (.inr (.inl ((z5, z6, ())))))
def akC (a : List Int) (b : List Int) (i : (Int) × (List Int) × Unit) : TT th :=
 .ite (decide (i.1 < len a))
 (.loop 1 (.tt <| .lt (i.2.1 : List Int) fun z1 => .vT (ug (0 : Int) (0 : Int) (decide (i.1 < len a)) (len a) a i.1 i.1 <| (vY 6 0 (Int.toNat (w64 (len a + len b))) true) ∧ True ∧ uf a b) <| .vT (vS (vX 3 z1) True) <| .ok ((0, 0, z1, ()))) (ad0 a b i))
 (.call (acO (List.take (Int.toNat (w64 (len a + len b))) i.2.1, ())) aFl fun y =>
 .ok (.inr ((y.1, ()))))
def aeT (a : List Int) (b : List Int) : TT ux :=
 .need (0 ≤ w64 (len a + len b) ∧ w64 (len a + len b) ≤ w64 (len a + len b) ∧ w64 (len a + len b) * (↑8 : Int) ≤ 140737488355328) <| .loop 0 (.tt <| .lt (List.replicate (Int.toNat (w64 (len a + len b))) 0 : List Int) fun z => .vT (vU (0 : Int) <| (vY 6 0 (Int.toNat (w64 (len a + len b))) true) ∧ True ∧ uf a b) <| .vT (vS (vX 3 z) True) <| .ok ((0, z, ()))) (akC a b)
def aLA : LTab := [(171, 122, 11265, ⟨0, (Int) × (Int) × (List Int) × Unit, .dat (.s 8) uk <| .dat (.s 7) uk <| .row 4 uk <| .nil, [6, 5, 4, 0, 1], [4], 0⟩)]
def arW (a : List Int) (d : Int) (i : (Int) × (Int) × (List Int) × Unit) : TT (uP ⊕ tP) :=
 .ite (decide (i.1 ≥ 0))
 (.need (inb i.1 (len a)) <| .need (d ≠ 0) <| .need (inb i.1 (↑(Int.toNat (len a)) : Int)) <| .need (d ≠ 0) <| .tt <| .lt (w64 (i.1 - 1) : Int) fun z2 => .lt (Int.tmod (w64 (w64 (i.2.1 * 10000) + gi a i.1 0)) d : Int) fun z3 => .lt (List.set i.2.2.1 (0 + Int.toNat i.1) (w64 (Int.tdiv (w64 (w64 (i.2.1 * 10000) + gi a i.1 0)) d)) : List Int) fun z4 => .vT (ua z3 z2 <| (vY 4 0 (Int.toNat (len a)) true) ∧ (vU (0 : Int) <| True ∧ uf a d)) <| .vT (vS (vX 3 z4) True) <| .ok (.inl ((z2, z3, z4, ()))))
 (.call (acO (List.take (Int.toNat (len a)) i.2.2.1, ())) aFl fun y =>
 .ok (.inr ((y.1, i.2.1, ()))))
def av3 (a : List Int) (d : Int) : TT tP :=
 .need (0 ≤ len a ∧ len a ≤ len a ∧ len a * (↑8 : Int) ≤ 140737488355328) <| .loop 0 (.tt <| .lt (w64 (len a - 1) : Int) fun z => .lt (List.replicate (Int.toNat (len a)) 0 : List Int) fun z1 => .vT (ua (0 : Int) z <| (vY 4 0 (Int.toNat (len a)) true) ∧ (vU (0 : Int) <| True ∧ uf a d)) <| .vT (vS (vX 3 z1) True) <| .ok ((z, 0, z1, ()))) (arW a d)
end
open Go Go.Vg
theorem agG {l : List Int} (h : Dg 10000 l) (hl : l.length ≤ 1000000000000) {n : Nat} (hv : V 10000 l = n) : acO (l, ()) = some (dig n, ()) := by
 unfold acO
 rw [if_pos ⟨h, hl⟩]
 simp only [hv, zp]
theorem aI3 (d : List Int) (y) (h : acO (d, ()) = some y) : (aHH d).toO = some y := by
 unfold acO at h
 split at h
 case isFalse => cases h
 case isTrue hp =>
 obtain ⟨hd, hl⟩ := hp
 dsimp only at hd hl h
 injection h with h
 subst h
 refine uO ((d.length : Int), ()) rfl ?_
 refine aaO (fun i : Int × Unit => ∃ k : Nat, k ≤ d.length ∧ i = ((k : Int), ()) ∧ V 10000 (d.take k) = V 10000 d) (fun i => i.1.toNat) (fun _ => (dig (V 10000 d).toNat, ())) ?_ _ ⟨_, zq _, rfl, by rw [zt]⟩
 rintro i ⟨k, h1, rfl, h2⟩
 have hn := aaT zc hd
 have fin : Cn (d.take k) → d.take k = dig (V 10000 d).toNat := fun hc => aCt (ab8 hd k) hc (by rw [h2]; omega)
 unfold aDA
 rcases zE k with h0 | h0
 ·right
  subst h0
  refine uF sd (uN sd ?_)
  show some (Sum.inr (d.take (Int.toNat (0 : Nat)), ())) = _
  rw [zp, fin (by simp [Cn])]
 ·have hw : w64 ((k : Int) - 1) = ((k - 1 : Nat) : Int) := by rw [aaA (x := (k : Int) - 1) zc]; omega
  have hg : d.getD (k - 1) 0 = d[k - 1] := by simp [show k - 1 < d.length by omega]
  have ht := akX 10000 (l := d) (i := k - 1) zc
  rw [show k - 1 + 1 = k by omega] at ht
  simp only [hw, aaM, hg]
  by_cases c : d[k - 1] = 0
  ·left
   refine ⟨(((k - 1 : Nat) : Int), ()), ?_, ⟨k - 1, by omega, rfl, ?_⟩, by dsimp only; omega, ze⟩
   ·refine uT sd (uN sd (uT (by rw [c]; rfl) ?_))
    repeat refine za ?_
    rfl
   ·rw [← h2, ht, c]; simp
  ·right
   refine uT sd (uN sd (uF (by simpa using c) (uN sd ?_)))
   show some (Sum.inr (d.take (Int.toNat (k : Int)), ())) = _
   rw [zp, fin ?_]
   unfold Cn
   rw [yT, yp, yM h1, yz, if_pos zc, zP zc]
   simpa using c
theorem aFP (b : Bool) (d : List Int) (y) (h : abH (b, d, ()) = some y) : (aDz b d).toO = some y := by
 unfold abH at h
 split at h
 case isFalse => cases h
 case isTrue hp =>
 obtain ⟨hd, hl⟩ := hp
 dsimp only at hd hl h
 injection h with h
 subst h
 obtain ⟨n, hn⟩ := zv (aaT zc hd)
 rw [hn, zp]
 refine uC _ (agG hd hl hn) ?_
 have e : decide (len (dig n) > 0) = decide ((n : Int) ≠ 0) := by
  refine decide_eq_decide.2 ?_
  have := dig_nil_iff (n := n)
  rw [aaC]
  constructor
  ·intro h h2
   rw [this.2 zc] at h
   simp at h
  ·intro h
   rcases zE (dig n).length with h3 | h3
   ·have := this.1 (zV.1 h3); omega
   ·omega
 cases b
 ·exact uF rfl rfl
 ·refine uT rfl ?_
  show some ((decide (len (dig n) > 0), dig n, ()), ()) = _
  rw [e]; rfl
theorem ayY {l : List Int} {b : Bool} {z : Int} (h : Dg 10000 l) (hl : l.length ≤ 1000000000000) (hv : V 10000 l = z.natAbs) (hb : z = 0 ∨ b = decide (z < 0)) : abH (b, l, ()) = some (pl z, ()) := by
 unfold abH
 rw [if_pos ⟨h, hl⟩]
 simp only [hv, zp]
 congr 2
 unfold pl
 congr 1
 by_cases h0 : z = 0
 ·subst h0; simp
 ·rw [zo (show ((z.natAbs : Int) ≠ 0) by omega), Bool.and_true]
  rcases hb with h2 | h2
  ·exact absurd h2 h0
  ·exact h2
theorem agB {n : Nat} {b : Bool} {z : Int} (hl : (dig n).length ≤ 1000000000000) (hv : n = z.natAbs) (hb : z = 0 ∨ b = decide (z < 0)) : abH (b, dig n, ()) = some (pl z, ()) := ayY (adG n) hl (by rw [ahX, hv]) hb
theorem aN8 {n : Nat} (h : n < 10000) : aqY ((n : Int), ()) = some (azM n, ()) := aaI (enc := fun x : Nat => ((x : Int), ())) n h (fun b hb => Int.ofNat.inj (Prod.mk.inj hb).1)
theorem aFQ (n : Int) (y) (h : aqY (n, ()) = some y) : (av4 n).toO = some y := by
 obtain ⟨k, hk, hx, rfl⟩ := aaD h
 obtain ⟨rfl, -⟩ := Prod.mk.inj hx
 have d1 : ∀ m : Nat, 0 < m → Int.tdiv (k : Int) m = ((k / m : Nat) : Int) := fun m hm => by rw [zN zc]; simp
 have e1 := d1 1000 zc
 have e2 := d1 100 zc
 have e3 := d1 10 zc
 have m1 : ∀ j : Nat, Int.tmod (j : Int) 10 = ((j % 10 : Nat) : Int) := fun j => by rw [zH zc]; omega
 have w1 : ∀ j : Nat, j < 10000 → w64 (j : Int) = j := fun j hj => aaA zc
 have w2 : ∀ j : Nat, j < 10 → wu8 (w64 (48 + (j : Int))) = ((48 + j : Nat) : Int) := fun j hj => by rw [aaA (x := 48 + (j : Int)) zc, abP zc]; omega
 unfold av4
 have f1 : Int.tdiv (k : Int) 1000 = ((k / 1000 : Nat) : Int) := e1
 have f2 : Int.tdiv (k : Int) 100 = ((k / 100 : Nat) : Int) := e2
 have f3 : Int.tdiv (k : Int) 10 = ((k / 10 : Nat) : Int) := e3
 refine uV (uV (uV (uV (uV (uV ?_)))))
 rw [aaK, f1, f2, f3, w1 (k / 1000) zc, w1 (k / 100) zc, w1 (k / 10) zc, m1, m1, m1, w2 _ zc, w2 _ zc, w2 _ zc, w2 _ zc]
 rfl
theorem atC (a b : List Int) (h1 : Dg 10000 a) (h2 : Dg 10000 b) (h3 : a.length ≤ 1000000000000) (h4 : b.length ≤ 1000000000000) : af1 (a, b, ()) = some (aQe a b, ()) := by unfold af1; rw [if_pos ⟨h1, h2, h3, h4⟩]
theorem aDy (a b : List Int) (y) (h : af1 (a, b, ()) = some y) : (arV a b).toO = some y := by
 unfold af1 at h
 split at h
 case isFalse => cases h
 case isTrue hp =>
 obtain ⟨ha, hb, hl, hl2⟩ := hp
 dsimp only at ha hb hl hl2 h
 injection h with h
 subst h
 unfold arV aQe
 by_cases c : a.length = b.length
 case neg =>
  rw [if_pos c]
  refine uT sd ?_
  rw [aaK, aaC, aaC, aaA zc]
 rw [if_neg (fun h => h c)]
 refine uF sd ?_
 refine uO ((a.length : Int) - 1, ()) ?_ ?_
 ·repeat refine za ?_
  rw [aaK, aaC, aaA zc]
 refine aaO (fun i : Int × Unit => ∃ k : Nat, k ≤ a.length ∧ i = ((k : Int) - 1, ()) ∧ aOr a b a.length = aOr a b k) (fun i => (i.1 + 1).toNat) (fun _ => (aOr a b a.length, ())) ?_ _ ⟨_, zq _, rfl, rfl⟩
 rintro i ⟨k, h1, rfl, h2⟩
 unfold av2
 dsimp only
 cases k with
 | zero =>
  right
  refine uF sd ?_
  rw [h2]; rfl
 | succ j =>
  have e6 : ((j + 1 : Nat) : Int) - 1 = (j : Int) := zc
  simp only [e6, aaM]
  have da := aa4 zc ha j
  have db := aa4 zc hb j
  by_cases c2 : a.getD j 0 = b.getD j 0
  ·left
   refine ⟨((j : Int) - 1, ()), ?_, ⟨j, by omega, rfl, ?_⟩, by dsimp only; omega, ze⟩
   ·refine uT sd (uN sd (uN sd (uF (by rw [c2]; simp) ?_)))
    repeat refine za ?_
    rw [aaK, aaA zc]
   ·rw [h2]; show (if _ then _ else _) = _; rw [if_neg (fun h => h c2)]
  ·right
   refine uT sd (uN sd (uN sd (uT (by simpa using c2) (uN sd (uN sd ?_)))))
   rw [aaK, aaA zc, h2]
   show _ = some (Sum.inr (if _ then _ else _, ()))
   rw [if_pos c2]
theorem aC8 {a b : List Int} (ha : Dg 10000 a) (hb : Dg 10000 b) : ∀ k, (aOr a b k < 0 ↔ V 10000 (a.take k) < V 10000 (b.take k)) ∧ (aOr a b k = 0 ↔ V 10000 (a.take k) = V 10000 (b.take k))
 | 0 => by simp [aOr]
 | k + 1 => by
  obtain ⟨i1, i2⟩ := aC8 ha hb k
  have ea := aa6 10000 a k
  have eb := aa6 10000 b k
  have la := ac8 zc ha k
  have lb := ac8 zc hb k
  have na := aaT zc (ab8 ha k)
  have nb := aaT zc (ab8 hb k)
  unfold aOr
  rw [ea, eb]
  by_cases c : a.getD k 0 = b.getD k 0
  ·rw [if_neg (fun h => h c), c]
   omega
  ·rw [if_pos c]
   rcases zO (a.getD k 0) (b.getD k 0) with h | h
   ·have h5 : (10000 : Int) ^ k * (a.getD k 0 + 1) ≤ 10000 ^ k * b.getD k 0 := zD zc zc
    rw [wx] at h5
    omega
   ·have h5 : (10000 : Int) ^ k * (b.getD k 0 + 1) ≤ 10000 ^ k * a.getD k 0 := zD zc zc
    rw [wx] at h5
    omega
theorem aHN (m n : Nat) : (aQe (dig m) (dig n) < 0 ↔ m < n) ∧ (aQe (dig m) (dig n) = 0 ↔ m = n) := by
 unfold aQe
 by_cases c : (dig m).length = (dig n).length
 ·rw [if_neg (fun h => h c)]
  obtain ⟨h1, h2⟩ := aC8 (adG m) (adG n) (dig m).length
  rw [abG _ (zq _), abG _ zc, ahX, ahX] at h1 h2
  omega
 ·rw [if_pos c]
  rcases zr (dig m).length (dig n).length with h | h
  ·have := an1 h; omega
  ·have := an1 (m := n) (n := m) zc; omega
theorem aOB {a b s : List Int} {k : Nat} {c x c' : Int} (h5 : s.length = k) (h7 : V 10000 s + 10000 ^ k * c = V 10000 (a.take k) + V 10000 (b.take k)) (hx : x + 10000 * c' = a.getD k 0 + b.getD k 0 + c) : V 10000 (s ++ [x]) + 10000 ^ (k + 1) * c' = V 10000 (a.take (k + 1)) + V 10000 (b.take (k + 1)) := by
 rw [ad3, azV, h5, aa6, aa6, zY]
 have : (10000 : Int) ^ k * (x + 10000 * c') = 10000 ^ k * (a.getD k 0 + b.getD k 0 + c) := by rw [hx]
 grind
theorem aOz {x : Int} (h : 0 ≤ x) : Int.tdiv x 10000 = x / 10000 := zN h
theorem aOw {x : Int} (h : 0 ≤ x) : Int.tmod x 10000 = x % 10000 := zH h
theorem aI0 (m o : List Int) (y) (h : avB (m, o, ()) = some y) : (aHG m o).toO = some y := by
 obtain ⟨⟨a, b⟩, hn, hx, rfl⟩ := aaD h
 obtain ⟨rfl, hx2⟩ := Prod.mk.inj hx; obtain ⟨rfl, -⟩ := Prod.mk.inj hx2; dsimp only
 obtain ⟨la, lb⟩ := hn
 simp only at la lb
 have hda := adG a
 have hdb := adG b
 have hVa := ahX a
 have hVb := ahX b
 clear hx hx2 h
 have hca := aIb a
 have hcb := aIb b
 generalize dig a = A at *
 generalize dig b = B at *
 refine uO (0, 0, true, [], ()) rfl ?_
 refine aaO (fun i : Int × Int × Bool × List Int × Unit => ∃ k : Nat, k ≤ A.length + B.length + 1 ∧ i.1 = (k : Int) ∧ 0 ≤ i.2.1 ∧ i.2.1 ≤ 1 ∧ i.2.2.2.1.length = k ∧ Dg 10000 i.2.2.2.1 ∧ V 10000 i.2.2.2.1 + 10000 ^ k * i.2.1 = V 10000 (A.take k) + V 10000 (B.take k) ∧ (i.2.2.1 = true → i.2.2.2.1 = []) ∧ (A.length ≤ k → B.length ≤ k → i.2.1 = 0 → Cn i.2.2.2.1) ∧ (i.2.1 = 0 ∨ k ≤ A.length ∨ k ≤ B.length)) (fun i => (((A.length + B.length + 2 : Nat) : Int) - i.1).toNat) (fun _ => (dig (a + b), ())) ?_ _ ⟨0, by omega, rfl, by simp, by simp, rfl, auI _, by simp [V], fun _ => rfl, fun _ _ _ => auJ, Or.inl rfl⟩
 rintro ⟨i, c, f, s, u⟩ ⟨k, h1, h2, h3, h4, h5, h6, h7, h8, h9, h10⟩
 dsimp only at h2 h3 h4 h5 h6 h7 h8 h9 h10
 subst h2
 have da := aa4 zc hda k
 have db := aa4 zc hdb k
 have hS : 0 ≤ A.getD k 0 + B.getD k 0 + c := zc
 by_cases hgo : k < A.length ∨ k < B.length ∨ 0 < c
 ·left
  have e1 := ym (A.getD k 0 + B.getD k 0 + c) 10000
  refine ⟨(((k + 1 : Nat) : Int), (A.getD k 0 + B.getD k 0 + c) / 10000, false, s ++ [(A.getD k 0 + B.getD k 0 + c) % 10000], ()), ?_, ⟨k + 1, by omega, rfl, by dsimp only; omega, by dsimp only; omega, by simp; omega, aeK h6 (amP zc zc), aOB h5 h7 e1, by simp, ?_, ?_⟩, by dsimp only; omega, ze⟩
  ·have zA : ¬ k < A.length → A.getD k 0 = 0 := fun h => ahP zc 0
   have zB : ¬ k < B.length → B.getD k 0 = 0 := fun h => ahP zc 0
   have eD : ∀ x : Int, x = A.getD k 0 + B.getD k 0 + c → Int.tdiv x 10000 = (A.getD k 0 + B.getD k 0 + c) / 10000 ∧ Int.tmod x 10000 = (A.getD k 0 + B.getD k 0 + c) % 10000 := fun x hx => by rw [hx]; exact ⟨aOz hS, aOw hS⟩
   have w1 : w64 (c + A.getD k 0) = c + A.getD k 0 := aaA zc
   have w2 : w64 (c + A.getD k 0 + B.getD k 0) = c + A.getD k 0 + B.getD k 0 := aaA zc
   have w3 : w64 (c + B.getD k 0) = c + B.getD k 0 := aaA zc
   have w4 : w64 ((A.getD k 0 + B.getD k 0 + c) / 10000) = (A.getD k 0 + B.getD k 0 + c) / 10000 := aaA zc
   have w5 : w64 ((k : Int) + 1) = ((k + 1 : Nat) : Int) := by rw [aaA (x := (k : Int) + 1) zc]; omega
   cases f with
   | true =>
    obtain rfl := h8 rfl
    simp only [alT, adM, adN, aaM, w1, w2, w3, w5]
    by_cases cA : k < A.length <;> by_cases cB : k < B.length
    ·obtain ⟨q1, q2⟩ := eD (c + A.getD k 0 + B.getD k 0) zc
     simp only [q1, q2, w4]
     repeat refine za ?_
     rfl
    ·obtain ⟨q1, q2⟩ := eD (c + A.getD k 0) (by have := zB cB; omega)
     simp only [q1, q2, w4]
     repeat refine za ?_
     rfl
    ·obtain ⟨q1, q2⟩ := eD (c + B.getD k 0) (by have := zA cA; omega)
     simp only [q1, q2, w4]
     repeat refine za ?_
     rfl
    ·obtain ⟨q1, q2⟩ := eD c (by have := zA cA; have := zB cB; omega)
     have hc0 : 0 < c := zc
     simp only [q1, q2, w4]
     repeat refine za ?_
     rfl
   | false =>
    simp only [alT, adM, adN, aaM, w1, w2, w3, w5, zt]
    by_cases cA : k < A.length <;> by_cases cB : k < B.length
    ·obtain ⟨q1, q2⟩ := eD (c + A.getD k 0 + B.getD k 0) zc
     simp only [q1, q2, w4]
     repeat refine za ?_
     rfl
    ·obtain ⟨q1, q2⟩ := eD (c + A.getD k 0) (by have := zB cB; omega)
     simp only [q1, q2, w4]
     repeat refine za ?_
     rfl
    ·obtain ⟨q1, q2⟩ := eD (c + B.getD k 0) (by have := zA cA; omega)
     simp only [q1, q2, w4]
     repeat refine za ?_
     rfl
    ·obtain ⟨q1, q2⟩ := eD c (by have := zA cA; have := zB cB; omega)
     have hc0 : 0 < c := zc
     simp only [q1, q2, w4]
     repeat refine za ?_
     rfl
  ·intro g1 g2 g3
   dsimp only at g3 ⊢
   unfold Cn
   simp only [List.getLast?_concat, ne_eq, Option.some.injEq]
   intro g4
   have hz : A.getD k 0 + B.getD k 0 + c = 0 := zc
   have ca : ¬ k < A.length := by
    intro hk
    have : k = A.length - 1 := zc
    unfold Cn at hca
    rw [yT, ← this, zP hk] at hca
    rw [aiZ hk] at *
    exact hca (by congr 1; omega)
   have cb : ¬ k < B.length := by
    intro hk
    have : k = B.length - 1 := zc
    unfold Cn at hcb
    rw [yT, ← this, zP hk] at hcb
    rw [aiZ hk] at *
    exact hcb (by congr 1; omega)
   omega
  ·dsimp only
   by_cases cA : k < A.length
   ·right; left; omega
   ·by_cases cB : k < B.length
    ·right; right; omega
    ·left
     have := ahP (l := A) (k := k) zc 0
     have := ahP (l := B) (k := k) zc 0
     omega
 ·right
  have hc : c = 0 := zc
  subst hc
  rw [abG _ zc, abG _ zc, hVa, hVb] at h7
  have hs : s = dig (a + b) := aCt h6 (h9 zc zc rfl) zc
  cases f with
  | true =>
   obtain rfl := h8 rfl
   unfold alT adM adN
   repeat refine za ?_
   rw [← hs]; rfl
  | false =>
   unfold alT adM adN
   repeat refine za ?_
   rw [← hs, aaK, zt]
theorem amM {a b : List Int} (h1 : Dg 10000 a) (h2 : Dg 10000 b) (h3 : a.length ≤ 1000000000000) (h4 : b.length ≤ a.length) (h5 : V 10000 b ≤ V 10000 a) {n : Nat} (hn : V 10000 a - V 10000 b = n) : abA (a, b, ()) = some (dig n, ()) := by
 unfold abA
 rw [if_pos ⟨h1, h2, h3, h4, h5⟩]
 simp only [hn, zp]
theorem aNf {a b s : List Int} {k : Nat} {c x c' : Int} (h5 : s.length = k) (h7 : V 10000 s = V 10000 (a.take k) - V 10000 (b.take k) + 10000 ^ k * c) (hx : x = a.getD k 0 - b.getD k 0 - c + 10000 * c') : V 10000 (s ++ [x]) = V 10000 (a.take (k + 1)) - V 10000 (b.take (k + 1)) + 10000 ^ (k + 1) * c' := by
 rw [ad3, azV, h5, aa6, aa6, zY, h7, hx]
 grind
theorem arX (A B : List Int) (y) (h : abA (A, B, ()) = some y) : (alU A B).toO = some y := by
 unfold abA at h
 split at h
 case isFalse => cases h
 case isTrue hp =>
 obtain ⟨hda, hdb, la, lb, hle⟩ := hp
 dsimp only at hda hdb la lb hle h
 injection h with h
 subst h
 refine uO (0, 0, true, [], ()) rfl ?_
 refine aaO (fun i : Int × Int × Bool × List Int × Unit => ∃ k : Nat, k ≤ A.length ∧ i.1 = (k : Int) ∧ 0 ≤ i.2.1 ∧ i.2.1 ≤ 1 ∧ i.2.2.2.1.length = k ∧ Dg 10000 i.2.2.2.1 ∧ V 10000 i.2.2.2.1 = V 10000 (A.take k) - V 10000 (B.take k) + 10000 ^ k * i.2.1 ∧ (i.2.2.1 = true → i.2.2.2.1 = [])) (fun i => ((A.length : Int) - i.1).toNat) (fun _ => (dig (V 10000 A - V 10000 B).toNat, ())) ?_ _ ⟨0, by omega, rfl, by simp, by simp, rfl, auI _, by simp [V], fun _ => rfl⟩
 rintro ⟨i, c, f, s, u⟩ ⟨k, h1, h2, h3, h4, h5, h6, h7, h8⟩
 dsimp only at h2 h3 h4 h5 h6 h7 h8
 subst h2
 have da := aa4 zc hda k
 have db := aa4 zc hdb k
 have w5 : w64 ((k : Int) + 1) = ((k + 1 : Nat) : Int) := by rw [aaA (x := (k : Int) + 1) zc]; omega
 have w1 : w64 (A.getD k 0 - c) = A.getD k 0 - c := aaA zc
 have w2 : w64 (A.getD k 0 - c - B.getD k 0) = A.getD k 0 - c - B.getD k 0 := aaA zc
 have w3 : w64 (A.getD k 0 - c + 10000) = A.getD k 0 - c + 10000 := aaA zc
 have w4 : w64 (A.getD k 0 - c - B.getD k 0 + 10000) = A.getD k 0 - c - B.getD k 0 + 10000 := aaA zc
 rcases zr k A.length with hk | hk
 ·left
  have fin : ∀ x c' : Int, 0 ≤ x ∧ x < 10000 → 0 ≤ c' ∧ c' ≤ 1 → x = A.getD k 0 - B.getD k 0 - c + 10000 * c' → (∃ k_1 : Nat, k_1 ≤ A.length ∧ ((k + 1 : Nat) : Int) = (k_1 : Int) ∧ 0 ≤ c' ∧ c' ≤ 1 ∧ (s ++ [x]).length = k_1 ∧ Dg 10000 (s ++ [x]) ∧ V 10000 (s ++ [x]) = V 10000 (A.take k_1) - V 10000 (B.take k_1) + 10000 ^ k_1 * c' ∧ (false = true → (s ++ [x]) = [])) ∧ ((A.length : Int) - ((k + 1 : Nat) : Int)).toNat < ((A.length : Int) - (k : Int)).toNat :=
   fun x c' hx hc he => ⟨⟨k + 1, by omega, rfl, hc.1, hc.2, by simp; omega, aeK h6 (amP hx.1 hx.2), aNf h5 h7 he, by simp⟩, by omega⟩
  have zB : ¬ k < B.length → B.getD k 0 = 0 := fun h => ahP zc 0
  by_cases cn : A.getD k 0 - c - B.getD k 0 < 0
  ·obtain ⟨g1, g2⟩ := fin (A.getD k 0 - c - B.getD k 0 + 10000) 1 zc zc zc
   refine ⟨(((k + 1 : Nat) : Int), 1, false, s ++ [A.getD k 0 - c - B.getD k 0 + 10000], ()), ?_, g1, g2, ze⟩
   cases f with
   | true =>
    obtain rfl := h8 rfl
    simp only [abW, aaM, w1, w2, w3, w4, w5]
    by_cases cB : k < B.length
    ·repeat refine za ?_
     rfl
    ·have := zB cB
     rw [this, wO] at *
     repeat refine za ?_
     rfl
   | false =>
    simp only [abW, aaM, w1, w2, w3, w4, w5, zt]
    by_cases cB : k < B.length
    ·repeat refine za ?_
     rfl
    ·have := zB cB
     rw [this, wO] at *
     repeat refine za ?_
     rfl
  ·obtain ⟨g1, g2⟩ := fin (A.getD k 0 - c - B.getD k 0) 0 zc zc zc
   refine ⟨(((k + 1 : Nat) : Int), 0, false, s ++ [A.getD k 0 - c - B.getD k 0], ()), ?_, g1, g2, ze⟩
   cases f with
   | true =>
    obtain rfl := h8 rfl
    simp only [abW, aaM, w1, w2, w3, w4, w5]
    by_cases cB : k < B.length
    ·repeat refine za ?_
     rfl
    ·have := zB cB
     rw [this, wO] at *
     repeat refine za ?_
     rfl
   | false =>
    simp only [abW, aaM, w1, w2, w3, w4, w5, zt]
    by_cases cB : k < B.length
    ·repeat refine za ?_
     rfl
    ·have := zB cB
     rw [this, wO] at *
     repeat refine za ?_
     rfl
 ·right
  have hkk : k = A.length := zc
  subst hkk
  rw [abG _ (zq _), abG _ lb] at h7
  have hlt := aKz zc h6
  rw [h5] at hlt
  have hc : c = 0 := by
   rcases zO 0 c with hc | hc
   ·have hc1 : c = 1 := zc
    subst hc1
    omega
   ·omega
  subst hc
  cases f with
  | true =>
   obtain rfl := h8 rfl
   unfold abW
   refine uT rfl (uF sd (uC (dig (V 10000 A - V 10000 B).toNat, ()) (agG h6 zi zc) rfl))
  | false =>
   unfold abW
   dsimp only
   rw [zt]
   refine uF rfl (uF sd (uC (dig (V 10000 A - V 10000 B).toNat, ()) (agG h6 zc zc) rfl))
theorem aKv (Vs P c A K x T X Y d e Q B : Int) (h : Vs + P * c = A + K * (x * T)) (h2 : X + B * Y = c + d + x * e) (hP : P = K * Q) : Vs + P * (X - d) + P * B * Y = A + K * (x * (T + Q * e)) := by
 subst hP
 have h3 : K * Q * (X + B * Y) = K * Q * (c + d + x * e) := by rw [h2]
 grind
theorem aJC {a b B : Int} (ha : 0 ≤ a ∧ a < B) (hb : 0 ≤ b ∧ b < B) : 0 ≤ a * b ∧ a * b ≤ (B - 1) * (B - 1) := by
 refine ⟨ye ha.1 hb.1, ?_⟩
 have h1 : a * b ≤ a * (B - 1) := zD zc ha.1
 have h2 : a * (B - 1) ≤ (B - 1) * (B - 1) := zu zc zc
 omega
theorem amL {a b : List Int} (h1 : Dg 10000 a) (h2 : Dg 10000 b ∨ b = [10000]) (h3 : a.length ≤ 400000000000) (h4 : b.length ≤ 400000000000) {n : Nat} (hn : V 10000 a * V 10000 b = n) : abT (a, b, ()) = some (dig n, ()) := by
 unfold abT
 rw [if_pos ⟨h1, h2, h3, h4⟩]
 simp only [hn, zp]
theorem aBJ (A D : List Int) (hda : Dg 10000 A) (hdb : Dg 10000 D) (la : A.length ≤ 400000000000) (lb : D.length ≤ 400000000000) : (aeT A D).toO = some (dig (V 10000 A * V 10000 D).toNat, ()) := by
 have nb := aaT zc hdb
 have hw : w64 (len A + len D) = ((A.length + D.length : Nat) : Int) := by
  simp only [aaC]; rw [aaA (x := (A.length : Int) + D.length) zc]; omega
 unfold aeT
 simp only [hw]
 refine uN zc ?_
 refine uO (0, List.replicate (A.length + D.length) 0, ()) ?_ ?_
 ·repeat refine za ?_
  simp (disch := omega) only [aaK, aaA, aaN, aa0, abP, aaM, zw, zp, aaC, zt]
 have hBb : V 10000 D < 10000 ^ D.length := aKz zc hdb
 refine aaO (fun i => ∃ k : Nat, k ≤ A.length ∧ i.1 = (k : Int) ∧ i.2.1.length = A.length + D.length ∧ Dg 10000 i.2.1 ∧ V 10000 i.2.1 = V 10000 (A.take k) * V 10000 D) (fun i => ((A.length : Int) - i.1).toNat) (fun _ => (dig (V 10000 A * V 10000 D).toNat, ())) ?_ _ ⟨0, yh _, rfl, by simp, agH zc _, by simp [V, as2]⟩
 rintro ⟨i, s, u⟩ ⟨k, h1, h2, h3, h4, h5⟩
 simp only at h2 h3 h4 h5
 subst h2
 simp only [akC, aaM, hw]
 have ea := aa6 10000 A k
 have da := aa4 zc hda k
 rcases zr k A.length with hk | hk
 ·left
  have hs : V 10000 s < 10000 ^ (k + D.length) := by
   rw [h5, wy]
   have e1 := ac8 zc hda k
   have e2 := aaT zc (ab8 hda k)
   have e3 : V 10000 (A.take k) * V 10000 D ≤ V 10000 (A.take k) * 10000 ^ D.length := zD zc e2
   have e4 : V 10000 (A.take k) * 10000 ^ D.length < 10000 ^ k * 10000 ^ D.length := Int.mul_lt_mul_of_pos_right e1 (yK zc)
   omega
  have hz := al1 zc h4 hs
  obtain ⟨r, hin, s', rfl, q1, q2, q3⟩ : ∃ r : ((Int × List Int × Unit) ⊕ (List Int × Unit)), ac6 (fun i1 => (ad0 A D ((k : Int), s, ()) i1).toO) (0, 0, s, ()) = some r ∧ ∃ s', r = Sum.inl (((k + 1 : Nat) : Int), s', ()) ∧ s'.length = A.length + D.length ∧ Dg 10000 s' ∧ V 10000 s' = V 10000 (A.take (k + 1)) * V 10000 D := by
   refine adP (fun j => ∃ q : Nat, q ≤ D.length ∧ j.1 = (q : Int) ∧ 0 ≤ j.2.1 ∧ j.2.1 < 10000 ∧ j.2.2.1.length = A.length + D.length ∧ Dg 10000 j.2.2.1 ∧ (∀ t, k + D.length ≤ t → j.2.2.1.getD t 0 = 0) ∧ V 10000 j.2.2.1 + 10000 ^ (k + q) * j.2.1 = V 10000 (A.take k) * V 10000 D + 10000 ^ k * (A.getD k 0 * V 10000 (D.take q))) (fun j => ((D.length : Int) - j.1).toNat) _ ?_ _ ⟨0, yh _, rfl, by simp, by simp, h3, h4, hz, by simp [V, h5]⟩
   rintro ⟨j, c, s1, u1⟩ ⟨q, g1, g2, g3, g4, g5, g6, g7, g8⟩
   simp only at g2 g3 g4 g5 g6 g7 g8
   subst g2
   have hkq : w64 ((k : Int) + q) = ((k + q : Nat) : Int) := by rw [aaA (x := (k : Int) + q) zc]; omega
   have hkl : w64 ((k : Int) + len D) = ((k + D.length : Nat) : Int) := by rw [aaC, aaA (x := (k : Int) + (D.length : Int)) zc]; omega
   simp only [ad0, aaM, hw, hkq, hkl, zp, zw]
   have eb := aa6 10000 D q
   have db := aa4 zc hdb q
   have ds := aa4 zc g6 (k + q)
   have hm := aJC da db
   rcases zr q D.length with hq | hq
   ·left
    have hsum : 0 ≤ c + s1.getD (k + q) 0 + A.getD k 0 * D.getD q 0 := zc
    have e1 := ym (c + s1.getD (k + q) 0 + A.getD k 0 * D.getD q 0) 10000
    have ww : w64 (w64 (c + s1.getD (k + q) 0) + w64 (A.getD k 0 * D.getD q 0)) = c + s1.getD (k + q) 0 + A.getD k 0 * D.getD q 0 := by
     rw [aaA (x := c + s1.getD (k + q) 0) zc, aaA (x := A.getD k 0 * D.getD q 0) zc, aaA zc]
    simp only [ww]
    have e2 : 0 ≤ (c + s1.getD (k + q) 0 + A.getD k 0 * D.getD q 0) % 10000 ∧ (c + s1.getD (k + q) 0 + A.getD k 0 * D.getD q 0) % 10000 < 10000 := zc
    have e3 : 0 ≤ (c + s1.getD (k + q) 0 + A.getD k 0 * D.getD q 0) / 10000 ∧ (c + s1.getD (k + q) 0 + A.getD k 0 * D.getD q 0) / 10000 < 10000 := zc
    refine ⟨(((q + 1 : Nat) : Int), (c + s1.getD (k + q) 0 + A.getD k 0 * D.getD q 0) / 10000, s1.set (k + q) ((c + s1.getD (k + q) 0 + A.getD k 0 * D.getD q 0) % 10000), ()), ?_, ⟨q + 1, by omega, rfl, e3.1, e3.2, by simp; omega, aiT g6 e2 _, ?_, ?_⟩, by simp only; omega⟩
    ·repeat refine za ?_
     rw [zH hsum, zN hsum, aaA (x := (q : Int) + 1) zc, aaA (x := (c + s1.getD (k + q) 0 + A.getD k 0 * D.getD q 0) / 10000) zc]
     rfl
    ·intro t ht
     rw [aoN _ zc]; exact g7 t ht
    ·simp only
     rw [ayK _ zc, eb, show k + (q + 1) = k + q + 1 by omega, zY]
     exact aKv _ _ _ _ _ _ _ _ _ _ _ _ _ g8 e1 (wy _ _ _)
   ·right
    have hqq : q = D.length := zc
    subst hqq
    rw [abG _ (zq _)] at g8
    refine ⟨.inl (((k + 1 : Nat) : Int), s1.set (k + D.length) c, ()), ?_, _, rfl, by simp; omega, aiT g6 ⟨g3, g4⟩ _, ?_⟩
    ·repeat refine za ?_
     rw [aaA (x := (k : Int) + 1) zc]
     rfl
    ·rw [ayK _ zc, g7 _ zc, ea, wX]
     simp only [wO]
     rw [g8]
     grind
  refine ⟨(((k + 1 : Nat) : Int), s', ()), ?_, ⟨k + 1, by omega, rfl, q1, q2, q3⟩, by simp only; omega, ze⟩
  refine uT sd ?_
  refine uO (0, 0, s, ()) ?_ ?_
  ·repeat refine za ?_
   rfl
  ·exact hin
 ·right
  have hkk : k = A.length := zc
  rw [hkk, abG _ (zq _)] at h5
  have hnn := aaT zc h4
  refine uF sd ?_
  refine uC (dig (V 10000 A * V 10000 D).toNat, ()) ?_ ?_
  ·rw [zz zh]
   exact agG h4 zc zc
  ·rfl
theorem av0 (A : List Int) (hda : Dg 10000 A) (la : A.length ≤ 400000000000) : (aeT A [10000]).toO = some (dig (V 10000 A * V 10000 [10000]).toNat, ()) := by
 have na := aaT zc hda
 have hV1 : V 10000 [10000] = 10000 := by simp [V]
 have hw : w64 (len A + len [(10000 : Int)]) = ((A.length + 1 : Nat) : Int) := by
  simp only [aaC, yu]; rw [aaA zc]; omega
 unfold aeT
 simp only [hw]
 refine uN zc ?_
 refine uO (0, List.replicate (A.length + 1) 0, ()) ?_ ?_
 ·repeat refine za ?_
  simp (disch := omega) only [aaK, aaA, aaN, aa0, abP, aaM, zw, zp, aaC, zt]
 refine aaO (fun i => ∃ k : Nat, k ≤ A.length ∧ i.1 = (k : Int) ∧ i.2.1 = ((0 :: A.take k) ++ List.replicate (A.length - k) 0)) (fun i => ((A.length : Int) - i.1).toNat) (fun _ => (dig (V 10000 A * V 10000 [10000]).toNat, ())) ?_ _ ⟨0, yh _, rfl, by simp [xr]⟩
 rintro ⟨i, s, u⟩ ⟨k, h1, h2, h3⟩
 simp only at h2 h3
 subst h2 h3
 simp only [akC, aaM, hw]
 have da := aa4 zc hda k
 rcases zr k A.length with hk | hk
 ·left
  have hrep : List.replicate (A.length - k) (0 : Int) = 0 :: List.replicate (A.length - (k + 1)) 0 := by
   rw [show A.length - k = (A.length - (k + 1)) + 1 by omega, xr]
  have hset : ((0 :: A.take k) ++ List.replicate (A.length - k) 0).set (k + 1) A[k] = ((0 :: A.take (k + 1)) ++ List.replicate (A.length - (k + 1)) 0) := by
   rw [hrep, List.set_append_right _ _ zh]
   have : k + 1 - (0 :: A.take k).length = 0 := zh
   rw [this, List.set_cons_zero]
   simp only [vH, zW hk, yV, xj]
  have hcur : 0 ≤ ((0 :: A.take k) ++ List.replicate (A.length - k) 0).getD k 0 ∧ ((0 :: A.take k) ++ List.replicate (A.length - k) 0).getD k 0 < 10000 := by
   refine aa4 zc (aeK (aCX zc (ab8 hda k)) (agH zc _)) k
  have hlen : ((0 :: A.take k) ++ List.replicate (A.length - k) 0).length = A.length + 1 := zh
  generalize ((0 :: A.take k) ++ List.replicate (A.length - k) 0) = s at *
  generalize hd : s.getD k 0 = d at hcur
  have hg : A.getD k 0 = A[k] := by simp [hk]
  rw [hg] at da
  refine ⟨(((k + 1 : Nat) : Int), ((0 :: A.take (k + 1)) ++ List.replicate (A.length - (k + 1)) 0), ()), ?_, ⟨k + 1, by omega, rfl, rfl⟩, by simp only; omega, ze⟩
  refine uT sd ?_
  refine uO (0, 0, s, ()) ?_ ?_
  ·repeat refine za ?_
   rfl
  have hk0 : w64 ((k : Int) + 0) = ((k : Nat) : Int) := by rw [aaA zc]; omega
  have hkl : w64 ((k : Int) + len [(10000 : Int)]) = ((k + 1 : Nat) : Int) := by rw [aaC, yu, aaA zc]; omega
  have hsum : w64 (w64 (0 + d) + w64 (A[k] * 10000)) = d + A[k] * 10000 := by
   rw [aaA (x := 0 + d) zc, aaA (x := A[k] * 10000) zc, aaA zc]; omega
  have s1 : (ad0 A [10000] ((k : Int), s, ()) (0, 0, s, ())).toO = some (.inl (1, A[k], s, ())) := by
   simp only [ad0, aaM, hw, hk0, zp, zw, hd, hg]
   have hgi : gi [(10000 : Int)] 0 0 = 10000 := rfl
   simp only [hgi, hsum]
   refine uT (by (try simp only [yn, yk, yJ, yW, beq_eq_false_iff_ne, bne_eq_false_iff_eq, zS, yE]) <;> (try simp only [aaC, inb, inc, ge_iff_le, gt_iff_lt, zp, asT, ne_eq]) <;> simp) (uN sd (uN sd (uN (by (try simp only [aaC, inb, inc, ge_iff_le, gt_iff_lt, zp, asT, ne_eq]); simp) ?_)))
   repeat refine za ?_
   rw [zH zc, zN zc]
   have m1 : (d + A[k] * 10000) % 10000 = d := zc
   have m2 : (d + A[k] * 10000) / 10000 = A[k] := zc
   have m3 : s.set k d = s := by
    rw [← hd, aiZ zc]
    exact List.set_getElem_self zc
   rw [m1, m2, m3, aaA (x := A[k]) zc]
   rfl
  rw [acR s1]
  refine acB ?_
  simp only [ad0, hw, hkl, zp, zw]
  refine uF (by (try simp only [yn, yk, yJ, yW, beq_eq_false_iff_ne, bne_eq_false_iff_eq, zS, yE]) <;> (try simp only [aaC, inb, inc, ge_iff_le, gt_iff_lt, zp, asT, ne_eq]) <;> simp) (uN sd ?_)
  repeat refine za ?_
  rw [hset, aaA (x := (k : Int) + 1) zc]
  rfl
 ·right
  have hkk : k = A.length := zc
  subst hkk
  rw [Nat.sub_self, List.replicate_zero, wZ, zt]
  refine uF sd ?_
  refine uC (dig (V 10000 A * V 10000 [10000]).toNat, ()) ?_ ?_
  ·rw [zz zi]
   refine agG (aCX zc hda) zh ?_
   rw [hV1]
   show 0 + 10000 * V 10000 A = _
   omega
  ·rfl
theorem azF (A D : List Int) (y) (h : abT (A, D, ()) = some y) : (aeT A D).toO = some y := by
 unfold abT at h
 split at h
 case isFalse => cases h
 case isTrue hp =>
 obtain ⟨hda, hdb, la, lb⟩ := hp
 dsimp only at hda hdb la lb h
 injection h with h
 subst h
 rcases hdb with hdb | rfl
 ·exact aBJ A D hda hdb la lb
 ·exact av0 A hda la
theorem aN7 {a d : Nat} (h1 : (dig a).length ≤ 1000000000000) (h2 : 0 < d) (h3 : d < 10000) : aqX (dig a, (d : Int), ()) = some (dig (a / d), ((a % d : Nat) : Int), ()) := by
 refine aaI (enc := fun p : Nat × Nat => (dig p.1, (p.2 : Int), ())) (a, d) ⟨h1, h2, h3⟩ (fun b hb => ?_)
 obtain ⟨e1, e2⟩ := Prod.mk.inj hb
 obtain ⟨e2, -⟩ := Prod.mk.inj e2
 exact Prod.ext (axJ e1) (Int.ofNat.inj e2)
theorem aKw (Vm Vq P d R m X Y B W : Int) (h : Vm = Vq * d + R) (h2 : Y + d * X = R * B + m) (hW : W = m + B * Vm) (hP : P = X + B * Vq) : W = P * d + Y := by
 subst hW hP h
 grind
theorem aFO (m : List Int) (d : Int) (y) (h : aqX (m, d, ()) = some y) : (av3 m d).toO = some y := by
 obtain ⟨⟨a, e⟩, hn, hx, rfl⟩ := aaD h
 obtain ⟨rfl, hx2⟩ := Prod.mk.inj hx; obtain ⟨rfl, -⟩ := Prod.mk.inj hx2; dsimp only
 obtain ⟨la, he, he2⟩ := hn
 simp only at la he he2
 have hda := adG a
 have hVa := ahX a
 unfold av3
 refine uN sn ?_
 refine uO (((dig a).length : Int) - 1, 0, List.replicate (dig a).length 0, ()) ?_ ?_
 ·repeat refine za ?_
  simp only [aaC]
  rw [aaA (x := ((dig a).length : Int) - 1) zc]
  rfl
 refine aaO (fun i : Int × Int × List Int × Unit => ∃ k : Nat, k ≤ (dig a).length ∧ i.1 = (k : Int) - 1 ∧ 0 ≤ i.2.1 ∧ i.2.1 < e ∧ i.2.2.1.length = (dig a).length ∧ Dg 10000 i.2.2.1 ∧ V 10000 ((dig a).drop k) = V 10000 (i.2.2.1.drop k) * e + i.2.1) (fun i => (i.1 + 1).toNat) (fun _ => (dig (a / e), ((a % e : Nat) : Int), ())) ?_ _ ⟨_, zq _, rfl, by simp, by simp; omega, by simp, agH zc _, by rw [acW _ (zq _), acW _ zi]; simp⟩
 rintro ⟨i, r, q, u⟩ ⟨k, h1, h2, h3, h4, h5, h6, h7⟩
 simp only at h2 h3 h4 h5 h6 h7
 subst h2
 rcases zE k with h0 | h0
 ·subst h0
  right
  simp only [yQ, hVa] at h7
  obtain ⟨v, hv⟩ := zv (aaT zc h6)
  obtain ⟨r', rfl⟩ := zv h3
  rw [hv] at h7
  have h8 : a = v * e + r' := by
   have : (a : Int) = ((v * e + r' : Nat) : Int) := by simpa using h7
   exact Int.ofNat.inj this
  have h9 : a / e = v := by rw [h8, xe, wP _ _ he, xd zc, zw]
  have h10 : a % e = r' := by rw [h8, xe, wh, yG zc]
  simp only [arW]
  refine uF sd ?_
  refine uC (dig v, ()) ?_ ?_
  ·rw [zz (by simp [len]; omega)]
   exact agG h6 zc hv
  ·rw [aaK, h9, h10]
 ·left
  obtain ⟨j, rfl⟩ : ∃ j, k = j + 1 := ⟨k - 1, by omega⟩
  have e6 : ((j + 1 : Nat) : Int) - 1 = (j : Int) := zc
  rw [e6]
  simp only [arW, aaM]
  have e1 := aaU 10000 (dig a) j
  have e2 := aa4 zc hda j
  have g1 : 0 ≤ r * 10000 + (dig a).getD j 0 := zc
  have g0 : (0 : Int) < e := zc
  have g2 := ym (r * 10000 + (dig a).getD j 0) e
  have g3 := yR (r * 10000 + (dig a).getD j 0) (show (e : Int) ≠ 0 by omega)
  have g4 := yC (r * 10000 + (dig a).getD j 0) g0
  have g5 : 0 ≤ (r * 10000 + (dig a).getD j 0) / e := xJ g1 zc
  have g6 : (r * 10000 + (dig a).getD j 0) / e < 10000 := by
   refine Int.ediv_lt_of_lt_mul g0 ?_
   have : (r + 1) * 10000 ≤ e * 10000 := zu zc zc
   omega
  have hw1 : w64 (w64 (r * 10000) + (dig a).getD j 0) = r * 10000 + (dig a).getD j 0 := by
   rw [aaA (x := r * 10000) zc, aaA zc]
  simp only [hw1]
  refine ⟨((j : Int) - 1, (r * 10000 + (dig a).getD j 0) % e, q.set j ((r * 10000 + (dig a).getD j 0) / e), ()), ?_, ⟨j, by omega, rfl, g3, g4, by simp; omega, aiT h6 ⟨g5, g6⟩ _, ?_⟩, by simp only; omega, ze⟩
  ·repeat refine za ?_
   rw [zH g1, zN g1]
   rw [aaA (x := (r * 10000 + (dig a).getD j 0) / e) zc]
   simp (disch := omega) only [aaK, aaA, aaN, aa0, abP, aaM, zw, zp, aaC, zt]
  ·simp only
   refine aKw _ _ _ _ _ _ _ _ 10000 _ h7 g2 e1 ?_
   rw [aaU 10000 (q.set j _) j, aoO zc, ahS _ zc]
set_option maxRecDepth 100000
open Go Go.Vg Go.Proofs
noncomputable section
def aI5 : LTab := [(124, 7, 2048, ⟨0, (Int) × Unit, .dat (.s 3) uk <| .nil, [2, 0], [], 0⟩), (124, 31, 7168, ⟨1, (Bool) × Unit, .dat (.s 2) tU <| .nil, [3, 0], [], 0⟩), (124, 506, 9216, ⟨2, (Int) × Unit, .dat (.s 5) uk <| .nil, [3, 0], [], 0⟩)]
def av7 (a : List UInt8) (j : Int × Unit) (j1 : Bool × Unit) (i : (Int) × Unit) : TT sh :=
 .ite (decide (i.1 < len a))
 (.need (inb i.1 (len a)) <| .ite (decide ((↑(UInt8.toNat (gi a i.1 0)) : Int) < 48))
 (.ok (.inr ((false, ()))))
 (.need (inb i.1 (len a)) <| .ite (decide ((↑(UInt8.toNat (gi a i.1 0)) : Int) > 57))
 (.ok (.inr ((false, ()))))
 (.tt <| .lt (w64 (i.1 + 1) : Int) fun z => .vT (vW z j.1 a) <| .tr <| .ok (.inl ((z, ()))))))
 (.need (inb j.1 (len a)) <| .ite ((↑(UInt8.toNat (gi a j.1 0)) : Int) != 48)
 (.ok (.inr ((true, ()))))
 (.ok (.inr ((len a == 1, ())))))
def aFT (a : List UInt8) (j : Int × Unit) (j1 : (Bool) × Unit) : TT uI :=
 .loop 2 (.tt <| .vT (vW j.1 j.1 a) <| .tr <| .ok ((j.1, ()))) (av7 a j j1)
def av8 (a : List UInt8) (j : (Int) × Unit) : TT uI :=
 .join 1 (ι := (Bool) × Unit) (.ite (decide (w64 (len a - j.1) < 1))
 (.ok (.inr ((false, ()))))
 (.ite (decide (w64 (len a - j.1) > 600))
 (.ok (.inr ((false, ()))))
 (.tt <| .vT (vW false j.1 a) <| .tr <| .ok (.inl ((false, ())))))) (aFT a j)
def arZ (a : List UInt8) : TT uI :=
 .join 0 (ι := (Int) × Unit) (.ite (decide (len a > 0))
 (.need (asT Int 0 ≤ 0 ∧ 0 < len a) <| .ite ((↑(UInt8.toNat (gi a 0 0)) : Int) == 45)
 (.tt <| .vT (vW (1 : Int) false a) <| .tr <| .ok (.inl ((1, ()))))
 (.tt <| .vT (vW (0 : Int) false a) <| .tr <| .ok (.inl ((0, ())))))
 (.tt <| .vT (vW (0 : Int) false a) <| .tr <| .ok (.inl ((0, ()))))) (av8 a)
def aQD : LTab := [(38, 7, 2049, ⟨0, (Int) × Unit, .dat (.s 3) uk <| .nil, [2, 0], [0], 0⟩), (38, 250, 6146, ⟨1, (Int) × Bool × (List Int) × Unit, .dat (.s 5) uk <| .appN (.s 4) 6 3 uk <| .nil, [3, 2, 0], [0], 1⟩), (38, 64074, 16386, ⟨2, (Int) × (Int) × Unit, .dat (.s 7) uk <| .dat (.s 6) uk <| .nil, [21, 20, 19, 18, 15, 14, 13, 4, 5, 3, 2, 0], [0], 0⟩), (38, 64074, 16385, ⟨3, (Int) × (Int) × Unit, .dat (.s 7) uk <| .dat (.s 6) uk <| .nil, [21, 20, 19, 18, 15, 14, 13, 4, 5, 3, 2, 0], [6, 0], 0⟩)]
def aBL (a : List UInt8) (j : Int × Unit) (i : Int × Bool × List Int × Unit) (i1 : (Int) × (Int) × Unit) : TT (uG ⊕ (uS ⊕ tj)) :=
 .ite (decide (i1.1 < i.1))
 (.need (inb i1.1 (len a)) <| .tt <| .lt (w64 (i1.1 + 1) : Int) fun z1 => .lt (w64 (w64 (i1.2.1 * 10) + w64 (wu8 ((↑(UInt8.toNat (gi a i1.1 0)) : Int) - 48))) : Int) fun z2 => .vT (ud z2 z1 (if j.1 > w64 (i.1 - 4) then j.1 else w64 (i.1 - 4) : Int) j.1 (w64 (i.1 - 4)) i.1 (decide (i.1 > j.1)) j.1 <| vU i.1 <| True ∧ (ua i.1 j.1 <| uq ∧ uc a)) <| .vT se <| .ok (.inl ((z1, z2, ()))))
 (.need (1 * 8 ≤ 140737488355328) <| .tt <| .lt (w64 (i.1 - 4) : Int) fun z3 => .lt ([i1.2.1] : List Int) fun z4 => .vT ((vY 6 0 1 true) ∧ (ua z3 j.1 <| uq ∧ uc a)) <| .vT (vS (vX 3 z4) <| vS uz True) <| .ok (.inr (.inl ((z3, false, z4, ())))))
def aBK (a : List UInt8) (j : Int × Unit) (i : Int × Bool × List Int × Unit) (i2 : (Int) × (Int) × Unit) : TT (uG ⊕ (uS ⊕ tj)) :=
 .ite (decide (i2.1 < i.1))
 (.need (inb i2.1 (len a)) <| .tt <| .lt (w64 (i2.1 + 1) : Int) fun z6 => .lt (w64 (w64 (i2.2.1 * 10) + w64 (wu8 ((↑(UInt8.toNat (gi a i2.1 0)) : Int) - 48))) : Int) fun z7 => .vT (ud z7 z6 (if j.1 > w64 (i.1 - 4) then j.1 else w64 (i.1 - 4) : Int) j.1 (w64 (i.1 - 4)) i.1 (decide (i.1 > j.1)) j.1 <| vU i.1 <| (vY 6 0 (List.length i.2.2.1) true) ∧ (ua i.1 j.1 <| uq ∧ uc a)) <| .vT (vS (vX 3 i.2.2.1) <| vS uz True) <| .ok (.inl ((z6, z7, ()))))
 (.need ((List.length i.2.2.1 + 1) * 8 ≤ 140737488355328) <| .tt <| .lt (w64 (i.1 - 4) : Int) fun z8 => .lt (List.take (List.length i.2.2.1) i.2.2.1 ++ [i2.2.1] : List Int) fun z9 => .need ((((6) = (6)) ∧ (((0) = (0)) ∧ ((List.length i.2.2.1 + 1 = List.length z9) ∧ ((true) = (true))))) ∧ ((z8 : Int) = z8) ∧ ((j.1 : Int) = j.1) ∧ (((0) = (0)) ∧ (((0) = (0)) ∧ ((true) = (true)))) ∧ ((a) = (a)) ∧ True) <| .vT (vS (vX 3 z9) <| vS uz True) <| .ok (.inr (.inl ((z8, false, z9, ())))))
def apH (a : List UInt8) (j : Int × Unit) (i : (Int) × Bool × (List Int) × Unit) : TT (uS ⊕ tj) :=
 .ite (i.2.1)
 (.ite (decide (i.1 > j.1))
 (.loop 2 (.tt <| .lt (if j.1 > w64 (i.1 - 4) then j.1 else w64 (i.1 - 4) : Int) fun z => .vT (ud (0 : Int) z z j.1 (w64 (i.1 - 4)) i.1 (decide (i.1 > j.1)) j.1 <| vU i.1 <| True ∧ (ua i.1 j.1 <| uq ∧ uc a)) <| .vT se <| .ok ((z, 0, ()))) (aBL a j i))
 (.call (abH (j.1 == 1, [], ())) alG fun y =>
 .ok (.inr (((y.1.1, y.1.2.1, ()), ())))))
 (.ite (decide (i.1 > j.1))
 (.loop 3 (.tt <| .lt (if j.1 > w64 (i.1 - 4) then j.1 else w64 (i.1 - 4) : Int) fun z5 => .vT (ud (0 : Int) z5 z5 j.1 (w64 (i.1 - 4)) i.1 (decide (i.1 > j.1)) j.1 <| vU i.1 <| (vY 6 0 (List.length i.2.2.1) true) ∧ (ua i.1 j.1 <| uq ∧ uc a)) <| .vT (vS (vX 3 i.2.2.1) <| vS uz True) <| .ok ((z5, 0, ()))) (aBK a j i))
 (.call (abH (j.1 == 1, List.take (List.length i.2.2.1) i.2.2.1, ())) alG fun y1 =>
 .ok (.inr (((y1.1.1, y1.1.2.1, ()), ())))))
def aOO (a : List UInt8) (j : (Int) × Unit) : TT tj :=
 .loop 1 (.tt <| .vT (True ∧ (ua (len a) j.1 <| uq ∧ uc a)) <| .vT se <| .ok ((len a, true, [], ()))) (apH a j)
def aFV (a : List UInt8) : TT tj :=
 .join 0 (ι := (Int) × Unit) (.need (asT Int 0 ≤ 0 ∧ 0 < len a) <| .ite ((↑(UInt8.toNat (gi a 0 0)) : Int) == 45)
 (.tt <| .vT (vU (1 : Int) <| uq ∧ uc a) <| .vT se <| .ok (.inl ((1, ()))))
 (.tt <| .vT (vU (0 : Int) <| uq ∧ uc a) <| .vT se <| .ok (.inl ((0, ()))))) (aOO a)
def aI1 : LTab := [(135, 2042, 45058, ⟨0, (Int) × (List Int) × (List Int) × Unit, .dat (.s 12) uk <| .dat (.s 11) tT <| .row 29 uk <| .nil, [10, 9, 8, 5, 4, 0, 1], [29], 0⟩), (135, 1045658, 60418, ⟨1, (Int) × (Int) × Unit, .dat (.s 14) uk <| .dat (.s 13) uk <| .nil, [83, 82, 11, 81, 80, 79, 77, 76, 75, 74, 71, 70, 12, 10, 9, 8, 5, 4, 0, 1], [29], 0⟩), (135, 2091324, 74754, ⟨2, (Int) × (Int) × Unit, .dat (.s 16) uk <| .dat (.s 15) uk <| .nil, [109, 108, 107, 106, 105, 104, 103, 102, 87, 86, 85, 84, 13, 14, 83, 82, 11, 81, 80, 79, 77, 76, 75, 74, 71, 70, 12, 10, 9, 8, 5, 4, 0, 1], [29], 0⟩)]
def av1 (a : List Int) (b : List Int) (i : Int × List Int × List Int × Unit) (y2 : List Int × Unit) (i1 : Int × Int × Unit) (i2 : (Int) × (Int) × Unit) : TT (uG ⊕ (uG ⊕ uw)) :=
 .ite (decide (w64 (i2.1 - i2.2.1) > 1))
 (.triv (asT Int 2 ≠ 0) zf <| .call (abT (b, [w64 (Int.tdiv (w64 (i2.2.1 + i2.1)) 2)], ())) aFl fun y3 =>
 .call (acO (y3.1, ())) aFl fun y4 =>
 .call (af1 (y4.1, y2.1, ())) Dd6 fun y5 =>
 .ite (decide (y5.1 ≤ 0))
 (.tt <| .lt (w64 (Int.tdiv (w64 (i2.2.1 + i2.1)) 2) : Int) fun z10 => .vT (ud z10 i2.1 (w64 (w64 (Int.tdiv i1.2.1 (w64 (w64 (gi b (w64 (len b - 1)) 0 * 10000) + gi b (w64 (w64 (len b - 1) - 1)) 0))) + 1) : Int) (w64 (Int.tdiv i1.2.1 (w64 (w64 (gi b (w64 (len b - 1)) 0 * 10000) + gi b (w64 (w64 (len b - 1) - 1)) 0))) : Int) (w64 (w64 (gi b (w64 (len b - 1)) 0 * 10000) + gi b (w64 (w64 (len b - 1) - 1)) 0) : Int) i1.2.1 (w64 (Int.tdiv i1.2.1 (w64 (w64 (w64 (gi b (w64 (len b - 1)) 0 * 10000) + gi b (w64 (w64 (len b - 1) - 1)) 0) + 1))) : Int) (w64 (w64 (w64 (gi b (w64 (len b - 1)) 0 * 10000) + gi b (w64 (w64 (len b - 1) - 1)) 0) + 1) : Int) <| ud (w64 (w64 (gi b (w64 (len b - 1)) 0 * 10000) + gi b (w64 (w64 (len b - 1) - 1)) 0) : Int) i1.2.1 (decide (i1.1 ≥ w64 (w64 (len b - 1) - 1))) (w64 (w64 (len b - 1) - 1)) (w64 (len b - 1)) i1.1 i1.2.1 i1.1 <| ud (w64 (w64 (len b - 1) + 1)) (w64 (len b - 1)) y2.1 y2.1 (List.take (1 + List.length i.2.1) ([gi a i.1 0] ++ i.2.1)) i.2.1 (gi a i.1 0) (gi a i.1 0) <| vZ i.1 a (decide (i.1 ≥ 0)) i.1 i.1 <| (vY 29 0 (Int.toNat (w64 (len a - w64 (len b - 1)))) true) ∧ (ua (w64 (w64 (gi b (w64 (len b - 1)) 0 * 10000) + gi b (w64 (w64 (len b - 1) - 1)) 0) : Int) (w64 (len b - 1)) <| True ∧ True ∧ uf a b)) <| .vT (vS (vX 3 i.2.2.1) True) <| .ok (.inl ((i2.1, z10, ()))))
 (.tt <| .lt (w64 (Int.tdiv (w64 (i2.2.1 + i2.1)) 2) : Int) fun z11 => .lt (i2.2.1 : Int) fun z12 => .vT (ud z12 z11 (w64 (w64 (Int.tdiv i1.2.1 (w64 (w64 (gi b (w64 (len b - 1)) 0 * 10000) + gi b (w64 (w64 (len b - 1) - 1)) 0))) + 1) : Int) (w64 (Int.tdiv i1.2.1 (w64 (w64 (gi b (w64 (len b - 1)) 0 * 10000) + gi b (w64 (w64 (len b - 1) - 1)) 0))) : Int) (w64 (w64 (gi b (w64 (len b - 1)) 0 * 10000) + gi b (w64 (w64 (len b - 1) - 1)) 0) : Int) i1.2.1 (w64 (Int.tdiv i1.2.1 (w64 (w64 (w64 (gi b (w64 (len b - 1)) 0 * 10000) + gi b (w64 (w64 (len b - 1) - 1)) 0) + 1))) : Int) (w64 (w64 (w64 (gi b (w64 (len b - 1)) 0 * 10000) + gi b (w64 (w64 (len b - 1) - 1)) 0) + 1) : Int) <| ud (w64 (w64 (gi b (w64 (len b - 1)) 0 * 10000) + gi b (w64 (w64 (len b - 1) - 1)) 0) : Int) i1.2.1 (decide (i1.1 ≥ w64 (w64 (len b - 1) - 1))) (w64 (w64 (len b - 1) - 1)) (w64 (len b - 1)) i1.1 i1.2.1 i1.1 <| ud (w64 (w64 (len b - 1) + 1)) (w64 (len b - 1)) y2.1 y2.1 (List.take (1 + List.length i.2.1) ([gi a i.1 0] ++ i.2.1)) i.2.1 (gi a i.1 0) (gi a i.1 0) <| vZ i.1 a (decide (i.1 ≥ 0)) i.1 i.1 <| (vY 29 0 (Int.toNat (w64 (len a - w64 (len b - 1)))) true) ∧ (ua (w64 (w64 (gi b (w64 (len b - 1)) 0 * 10000) + gi b (w64 (w64 (len b - 1) - 1)) 0) : Int) (w64 (len b - 1)) <| True ∧ True ∧ uf a b)) <| .vT (vS (vX 3 i.2.2.1) True) <| .ok (.inl ((z11, z12, ())))))
 (.need (inb i.1 (↑(Int.toNat (w64 (len a - w64 (len b - 1)))) : Int)) <| .call (abT (b, [i2.2.1], ())) aFl fun y6 =>
 .call (abA (y2.1, y6.1, ())) aFl fun y7 =>
 .tt <| .lt (w64 (i.1 - 1) : Int) fun z13 => .lt (List.set i.2.2.1 (0 + Int.toNat i.1) i2.2.1 : List Int) fun z14 => .vT (ua y7.1 z13 <| (vY 29 0 (Int.toNat (w64 (len a - w64 (len b - 1)))) true) ∧ (ua (w64 (w64 (gi b (w64 (len b - 1)) 0 * 10000) + gi b (w64 (w64 (len b - 1) - 1)) 0) : Int) (w64 (len b - 1)) <| True ∧ True ∧ uf a b)) <| .vT (vS (vX 3 z14) True) <| .ok (.inr (.inr (.inl ((z13, y7.1, z14, ()))))))
def aeN (a : List Int) (b : List Int) (i : Int × List Int × List Int × Unit) (y2 : List Int × Unit) (i1 : (Int) × (Int) × Unit) : TT (uG ⊕ uw) :=
 .ite (decide (i1.1 ≥ w64 (w64 (len b - 1) - 1)))
 (.ite (decide (i1.1 < len y2.1))
 (.need (inb i1.1 (len y2.1)) <| .tt <| .lt (w64 (i1.1 - 1) : Int) fun z4 => .lt (w64 (w64 (i1.2.1 * 10000) + gi y2.1 i1.1 0) : Int) fun z5 => .vT (ud z5 z4 (w64 (w64 (len b - 1) + 1)) (w64 (len b - 1)) y2.1 y2.1 (List.take (1 + List.length i.2.1) ([gi a i.1 0] ++ i.2.1)) i.2.1 <| ug (gi a i.1 0) (gi a i.1 0) i.1 a (decide (i.1 ≥ 0)) i.1 i.1 <| (vY 29 0 (Int.toNat (w64 (len a - w64 (len b - 1)))) true) ∧ (ua (w64 (w64 (gi b (w64 (len b - 1)) 0 * 10000) + gi b (w64 (w64 (len b - 1) - 1)) 0) : Int) (w64 (len b - 1)) <| True ∧ True ∧ uf a b)) <| .vT (vS (vX 3 i.2.2.1) True) <| .ok (.inl ((z4, z5, ()))))
 (.tt <| .lt (w64 (i1.1 - 1) : Int) fun z6 => .lt (w64 (i1.2.1 * 10000) : Int) fun z7 => .vT (ud z7 z6 (w64 (w64 (len b - 1) + 1)) (w64 (len b - 1)) y2.1 y2.1 (List.take (1 + List.length i.2.1) ([gi a i.1 0] ++ i.2.1)) i.2.1 <| ug (gi a i.1 0) (gi a i.1 0) i.1 a (decide (i.1 ≥ 0)) i.1 i.1 <| (vY 29 0 (Int.toNat (w64 (len a - w64 (len b - 1)))) true) ∧ (ua (w64 (w64 (gi b (w64 (len b - 1)) 0 * 10000) + gi b (w64 (w64 (len b - 1) - 1)) 0) : Int) (w64 (len b - 1)) <| True ∧ True ∧ uf a b)) <| .vT (vS (vX 3 i.2.2.1) True) <| .ok (.inl ((z6, z7, ())))))
 (.need (w64 (w64 (w64 (gi b (w64 (len b - 1)) 0 * 10000) + gi b (w64 (w64 (len b - 1) - 1)) 0) + 1) ≠ 0) <| .need (w64 (w64 (gi b (w64 (len b - 1)) 0 * 10000) + gi b (w64 (w64 (len b - 1) - 1)) 0) ≠ 0) <| .loop 2 (.tt <| .lt (w64 (w64 (Int.tdiv i1.2.1 (w64 (w64 (gi b (w64 (len b - 1)) 0 * 10000) + gi b (w64 (w64 (len b - 1) - 1)) 0))) + 1) : Int) fun z8 => .lt (w64 (Int.tdiv i1.2.1 (w64 (w64 (w64 (gi b (w64 (len b - 1)) 0 * 10000) + gi b (w64 (w64 (len b - 1) - 1)) 0) + 1))) : Int) fun z9 => .vT (ud z9 z8 z8 (w64 (Int.tdiv i1.2.1 (w64 (w64 (gi b (w64 (len b - 1)) 0 * 10000) + gi b (w64 (w64 (len b - 1) - 1)) 0))) : Int) (w64 (w64 (gi b (w64 (len b - 1)) 0 * 10000) + gi b (w64 (w64 (len b - 1) - 1)) 0) : Int) i1.2.1 z9 (w64 (w64 (w64 (gi b (w64 (len b - 1)) 0 * 10000) + gi b (w64 (w64 (len b - 1) - 1)) 0) + 1) : Int) <| ud (w64 (w64 (gi b (w64 (len b - 1)) 0 * 10000) + gi b (w64 (w64 (len b - 1) - 1)) 0) : Int) i1.2.1 (decide (i1.1 ≥ w64 (w64 (len b - 1) - 1))) (w64 (w64 (len b - 1) - 1)) (w64 (len b - 1)) i1.1 i1.2.1 i1.1 <| ud (w64 (w64 (len b - 1) + 1)) (w64 (len b - 1)) y2.1 y2.1 (List.take (1 + List.length i.2.1) ([gi a i.1 0] ++ i.2.1)) i.2.1 (gi a i.1 0) (gi a i.1 0) <| vZ i.1 a (decide (i.1 ≥ 0)) i.1 i.1 <| (vY 29 0 (Int.toNat (w64 (len a - w64 (len b - 1)))) true) ∧ (ua (w64 (w64 (gi b (w64 (len b - 1)) 0 * 10000) + gi b (w64 (w64 (len b - 1) - 1)) 0) : Int) (w64 (len b - 1)) <| True ∧ True ∧ uf a b)) <| .vT (vS (vX 3 i.2.2.1) True) <| .ok ((z8, z9, ()))) (av1 a b i y2 i1))
def aoE (a : List Int) (b : List Int) (i : (Int) × (List Int) × (List Int) × Unit) : TT uw :=
 .ite (decide (i.1 ≥ 0))
 (.need (inb i.1 (len a)) <| .need ((1 + List.length i.2.1) * 8 ≤ 140737488355328) <| .call (acO (List.take (1 + List.length i.2.1) ([gi a i.1 0] ++ i.2.1), ())) aFl fun y2 =>
 .loop 1 (.tt <| .lt (w64 (w64 (len b - 1) + 1) : Int) fun z3 => .vT (ud (0 : Int) z3 z3 (w64 (len b - 1)) y2.1 y2.1 (List.take (1 + List.length i.2.1) ([gi a i.1 0] ++ i.2.1)) i.2.1 <| ug (gi a i.1 0) (gi a i.1 0) i.1 a (decide (i.1 ≥ 0)) i.1 i.1 <| (vY 29 0 (Int.toNat (w64 (len a - w64 (len b - 1)))) true) ∧ (ua (w64 (w64 (gi b (w64 (len b - 1)) 0 * 10000) + gi b (w64 (w64 (len b - 1) - 1)) 0) : Int) (w64 (len b - 1)) <| True ∧ True ∧ uf a b)) <| .vT (vS (vX 3 i.2.2.1) True) <| .ok ((z3, 0, ()))) (aeN a b i y2))
 (.call (acO (List.take (Int.toNat (w64 (len a - w64 (len b - 1)))) i.2.2.1, ())) aFl fun y8 =>
 .ok (.inr ((y8.1, i.2.1, ()))))
def arU (a : List Int) (b : List Int) : TT (List Int × List Int × Unit) :=
 .ite (len b == 1)
 (.need (asT Int 0 ≤ 0 ∧ 0 < len b) <| .call (aqX (a, gi b 0 0, ())) aSS fun y =>
 .call (acO ([y.2.1], ())) aFl fun y1 =>
 .ok ((y.1, y1.1, ())))
 (.ite (decide (len a ≤ w64 (len b - 1)))
 (.need ((0 + List.length a) * 8 ≤ 140737488355328) <| .ok (([], List.take (0 + List.length a) (List.take 0 [] ++ a), ())))
 (.need (inb (w64 (len b - 1)) (len b)) <| .need (inb (w64 (w64 (len b - 1) - 1)) (len b)) <| .need (0 ≤ w64 (len a - w64 (len b - 1)) ∧ w64 (len a - w64 (len b - 1)) ≤ w64 (len a - w64 (len b - 1)) ∧ w64 (len a - w64 (len b - 1)) * (↑8 : Int) ≤ 140737488355328) <| .need (inc (w64 (len a - w64 (len b - 1))) (len a)) <| .need ((0 + List.length (List.take (List.length a - Int.toNat (w64 (len a - w64 (len b - 1)))) (List.drop (Int.toNat (w64 (len a - w64 (len b - 1)))) a))) * 8 ≤ 140737488355328) <| .loop 0 (.tt <| .lt (w64 ((↑(Int.toNat (w64 (len a - w64 (len b - 1)))) : Int) - 1) : Int) fun z => .lt (List.take (0 + List.length (List.take (List.length a - Int.toNat (w64 (len a - w64 (len b - 1)))) (List.drop (Int.toNat (w64 (len a - w64 (len b - 1)))) a))) (List.take 0 [] ++ List.take (List.length a - Int.toNat (w64 (len a - w64 (len b - 1)))) (List.drop (Int.toNat (w64 (len a - w64 (len b - 1)))) a)) : List Int) fun z1 => .lt (List.replicate (Int.toNat (w64 (len a - w64 (len b - 1)))) 0 : List Int) fun z2 => .vT (ua z1 z <| (vY 29 0 (Int.toNat (w64 (len a - w64 (len b - 1)))) true) ∧ (ua (w64 (w64 (gi b (w64 (len b - 1)) 0 * 10000) + gi b (w64 (w64 (len b - 1) - 1)) 0) : Int) (w64 (len b - 1)) <| True ∧ True ∧ uf a b)) <| .vT (vS (vX 3 z2) True) <| .ok ((z, z1, z2, ()))) (aoE a b)))
def aLD : LTab := []
def aDB (a : Bool × List Int × Unit) : TT tj :=
 .call (abH (!a.1, a.2.1, ())) alG fun y =>
 .ok (((y.1.1, y.1.2.1, ()), ()))
def aLF : LTab := []
def av9 (a : Bool × List Int × Unit) (b : Bool × List Int × Unit) : TT tj :=
 .ite (a.1 == b.1)
 (.call (avB (a.2.1, b.2.1, ())) aFl fun y =>
 .call (abH (a.1, y.1, ())) alG fun y1 =>
 .ok (((y1.1.1, y1.1.2.1, ()), ())))
 (.call (af1 (a.2.1, b.2.1, ())) Dd6 fun y2 =>
 .ite (decide (y2.1 ≥ 0))
 (.call (abA (a.2.1, b.2.1, ())) aFl fun y3 =>
 .call (abH (a.1, y3.1, ())) alG fun y4 =>
 .ok (((y4.1.1, y4.1.2.1, ()), ())))
 (.call (abA (b.2.1, a.2.1, ())) aFl fun y5 =>
 .call (abH (b.1, y5.1, ())) alG fun y6 =>
 .ok (((y6.1.1, y6.1.2.1, ()), ()))))
def aI9 : LTab := []
def aAg (a : Bool × List Int × Unit) (b : Bool × List Int × Unit) : TT tj :=
 .call (ajV ((b.1, b.2.1, ()), ())) alG fun y =>
 .call (agS ((a.1, a.2.1, ()), y.1, ())) alG fun y1 =>
 .ok (((y1.1.1, y1.1.2.1, ()), ()))
def aI4 : LTab := []
def aAd (a : Bool × List Int × Unit) (b : Bool × List Int × Unit) : TT tj :=
 .call (abT (a.2.1, b.2.1, ())) aFl fun y =>
 .call (abH (!a.1 == b.1, y.1, ())) alG fun y1 =>
 .ok (((y1.1.1, y1.1.2.1, ()), ()))
def aI6 : LTab := []
def ar0 (a : Bool × List Int × Unit) (b : Bool × List Int × Unit) : TT (ut × ut × Unit) :=
 .call (ajU (a.2.1, b.2.1, ())) aSJ fun y =>
 .call (abH (!a.1 == b.1, y.1, ())) alG fun y1 =>
 .call (abH (a.1, y.2.1, ())) alG fun y2 =>
 .ite (y2.1.1)
 (.call (agS ((y2.1.1, y2.1.2.1, ()), (false, b.2.1, ()), ())) alG fun y3 =>
 .ite (b.1)
 (.call (acF (1, ())) alG fun y4 =>
 .call (agS ((y1.1.1, y1.1.2.1, ()), y4.1, ())) alG fun y5 =>
 .ok (((y5.1.1, y5.1.2.1, ()), (y3.1.1, y3.1.2.1, ()), ())))
 (.call (acF (1, ())) alG fun y6 =>
 .call (ajW ((y1.1.1, y1.1.2.1, ()), y6.1, ())) alG fun y7 =>
 .ok (((y7.1.1, y7.1.2.1, ()), (y3.1.1, y3.1.2.1, ()), ()))))
 (.ok (((y1.1.1, y1.1.2.1, ()), (y2.1.1, y2.1.2.1, ()), ())))
def aI8 : LTab := []
def aAf (a : Bool × List Int × Unit) (b : Bool × List Int × Unit) : TT uK :=
 .call (ajW ((a.1, a.2.1, ()), (b.1, b.2.1, ()), ())) alG fun y =>
 .ite (y.1.1)
 (.ok ((-1, ())))
 (.ite (decide (len y.1.2.1 > 0))
 (.ok ((1, ())))
 (.ok ((0, ()))))
def aDJ : LTab := [(86, 28, 9217, ⟨0, (List Int) × (List Int) × Unit, .dat (.s 6) tT <| .dat (.s 5) tT <| .nil, [4], [2, 1, 0], 0⟩)]
def apI (a : Bool × List Int × Unit) (b : Bool × List Int × Unit) (i : (List Int) × (List Int) × Unit) : TT (tx ⊕ tj) :=
 .ite (decide (len i.1 > 0))
 (.call (ajU (i.2.1, i.1, ())) aSJ fun y =>
 .tt <| .lt (y.2.1 : List Int) fun z2 => .vT (ua i.1 z2 <| uQ ∧ True) <| .vT (vS uz <| vS (vW 83 b.1 b.2.1) <| vS (vW 83 a.1 a.2.1) True) <| .ok (.inl ((z2, i.1, ()))))
 (.ok (.inr (((false, i.2.1, ()), ()))))
def atM (a : Bool × List Int × Unit) (b : Bool × List Int × Unit) : TT tj :=
 .loop 0 (.tt <| .lt (b.2.1 : List Int) fun z => .lt (a.2.1 : List Int) fun z1 => .vT (ua z1 z <| uQ ∧ True) <| .vT (vS uz <| vS (vW 83 b.1 z) <| vS (vW 83 a.1 z1) True) <| .ok ((z, z1, ()))) (apI a b)
end
theorem akE {p q : Int × Int} (h : (pl p.1, pl p.2, ()) = (pl q.1, pl q.2, ())) : p = q := by
 obtain ⟨h1, h2⟩ := Prod.mk.inj h
 obtain ⟨h2, -⟩ := Prod.mk.inj h2
 exact Prod.ext (awB h1) (awB h2)
theorem aAP {p q : Nat × Nat} (h : (dig p.1, dig p.2, ()) = (dig q.1, dig q.2, ())) : p = q := by
 obtain ⟨h1, h2⟩ := Prod.mk.inj h
 obtain ⟨h2, -⟩ := Prod.mk.inj h2
 exact Prod.ext (axJ h1) (axJ h2)
theorem aMG {n : Nat} (h : n < 10000) : isD (azM n) := by
 intro c hc
 simp only [azM, zx, List.not_mem_nil, or_false] at hc
 rcases hc with rfl | rfl | rfl | rfl <;> rw [au8 zc] <;> omega
theorem aMF {n : Nat} (h : n < 10000) : num (azM n) = n := by
 have e : ∀ a b c d : Nat, a < 10 → b < 10 → c < 10 → d < 10 → num [UInt8.ofNat (48 + a), UInt8.ofNat (48 + b), UInt8.ofNat (48 + c), UInt8.ofNat (48 + d)] = ((a * 10 + b) * 10 + c) * 10 + d := by
  intro a b c d ha hb hc hd
  unfold num
  rw [agL, agL, agL, agL, aAN ha, aAN hb, aAN hc, aAN hd]
  simp [azA]
 unfold azM
 rw [e _ _ _ _ zc zc zc zc]
 omega
theorem aPf {s : List UInt8} {k : Nat} (h : ∀ c ∈ s.take k, c = 48) : num s = num (s.drop k) := by
 have h1 : ∀ l : List UInt8, (∀ c ∈ l, c = 48) → num l = 0 := by
  intro l
  induction l using aFC with
  | nil => intro _; rfl
  | snoc l c ih =>
   intro h
   rw [amY, ih (fun d hd => h d (vM _ hd)), h c zi]
   rfl
 conv => lhs; rw [← xB k s]
 rw [am0, h1 _ h]
 omega
theorem aRq {n : Nat} (h : Bd 6 n) : (dig n).length ≤ 13000000000 := by
 have h2 := aAQ (k := 1000000 * 4 ^ 6) h
 omega
theorem aFc {z : Int} (h : Bd 6 z.natAbs) : amG (pl z, ()) = some (dec z, ()) := aaI (enc := fun x : Int => (pl x, ())) z h (fun b hb => awB (Prod.mk.inj hb).1)
theorem aFS (x : PlT) (y) (h : amG (x, ()) = some y) : (av6 x).toO = some y := by
 obtain ⟨z, hp, hx, rfl⟩ := aaD h
 obtain ⟨rfl, -⟩ := Prod.mk.inj hx
 have hl := aRq hp
 have hd := adG z.natAbs
 have hV := ahX z.natAbs
 clear h hx
 unfold av6
 dsimp only
 refine uO (((dig z.natAbs).length : Int) - 1, [], ()) ?_ ?_
 ·repeat refine za ?_
  rw [aaK, aaC, aaA zc]
 refine aaO (fun i : Int × List UInt8 × Unit => ∃ k : Nat, k ≤ (dig z.natAbs).length ∧ i.1 = (k : Int) - 1 ∧ isD i.2.1 ∧ i.2.1.length = 4 * ((dig z.natAbs).length - k) ∧ (num i.2.1 : Int) = V 10000 ((dig z.natAbs).drop k)) (fun i => (i.1 + 1).toNat) (fun _ => (dec z, ())) ?_ _ ⟨_, zq _, rfl, (show isD [] from fun c hc => by cases hc), by simp, by rw [acW _ (zq _)]; rfl⟩
 rintro ⟨i, s, u⟩ ⟨k, h1, h2, h3, h4, h5⟩
 dsimp only at h2 h3 h4 h5
 subst h2
 cases k with
 | succ j =>
  left
  have e6 : ((j + 1 : Nat) : Int) - 1 = (j : Int) := zc
  have dj := aa4 zc hd j
  obtain ⟨m, hm⟩ := zv dj.1
  have hm2 : m < 10000 := zc
  rw [e6]
  refine ⟨((j : Int) - 1, s ++ azM m, ()), ?_, ⟨j, by omega, rfl, ?_, ?_, ?_⟩, by dsimp only; omega, ze⟩
  ·simp only [arY, aaM, hm]
   refine uT sd (uN sd (uC _ (aN8 hm2) (uN ?_ ?_)))
   ·have : (azM m).length = 4 := rfl
    dsimp only
    rw [this, h4]
    unfold lim; omega
   ·repeat refine za ?_
    rw [aaK, aaA (x := (j : Int) - 1) zc]
  ·exact isD_append.2 ⟨h3, aMG hm2⟩
  ·have : (azM m).length = 4 := rfl
   simp only [zR, this, h4]; omega
  ·dsimp only
   rw [am0, aMF hm2, aaU, hm, ← h5]
   have : (azM m).length = 4 := rfl
   rw [this]
   simp; omega
 | zero =>
  right
  rw [yQ, hV] at h5
  have h5' : num s = z.natAbs := Int.ofNat.inj h5
  simp only [arY]
  refine uF sd (uO (0, ()) rfl ?_)
  refine aaO (fun i : Int × Unit => ∃ q : Nat, q ≤ s.length ∧ i = ((q : Int), ()) ∧ ∀ c ∈ s.take q, c = 48) (fun i => ((s.length : Int) - i.1).toNat) (fun _ => (.inr (dec z, ()) : (Int × List UInt8 × Unit) ⊕ (List UInt8 × Unit))) ?_ _ ⟨0, by omega, rfl, by simp⟩
  rintro i ⟨q, g1, rfl, g2⟩
  have hlead := aPf g2
  have hsl : s.length ≤ 60000000000 := zc
  have hdd : isD (s.drop q) := apZ h3 q
  have htk : List.take (s.length - q) (s.drop q) = s.drop q := zz zi
  have fin : ∀ (w : TT (uK ⊕ ((Int × List UInt8 × Unit) ⊕ tc))), (q = s.length ∨ (s.drop q).head? ≠ some 48) → (TT.ite (s.drop q == #[].toList) (TT.ok (.inr (.inr (#[48].toList, ())))) (TT.ite (decide (z < 0)) (TT.need (List.length #[(45 : UInt8)].toList + List.length (s.drop q) ≤ lim) (TT.ok (.inr (.inr (#[45].toList ++ s.drop q, ()))))) (TT.ok (.inr (.inr (s.drop q, ())))) : TT (uK ⊕ ((Int × List UInt8 × Unit) ⊕ tc)))).toO = some (.inr (.inr (dec z, ()))) := by
   intro _ hq
   by_cases c0 : s.drop q = []
   ·refine uT (by rw [c0]; rfl) ?_
    rw [c0] at hlead
    have : z.natAbs = 0 := by rw [← h5', hlead]; rfl
    have hz : z = 0 := zc
    subst hz
    rw [acC zc, vN, abI zc]; rfl
   ·refine uF (by rw [beq_eq_false_iff_ne]; exact c0) ?_
    have hu : s.drop q = aa3 z.natAbs := by
     have := aEL hdd c0 (by
      rcases hq with hq | hq
      ·exact absurd (by rw [hq]; simp) c0
      ·exact Or.inl hq)
     rw [this, ← hlead, h5']
    by_cases cz : z < 0
    ·refine uT (zo cz) (uN ?_ ?_)
     ·show 1 + (s.drop q).length ≤ lim
      rw [yB]; unfold lim; omega
     ·rw [hu, ahT cz]; rfl
    ·refine uF (zn cz) ?_
     rw [hu, acC zc]; rfl
  unfold aAe akD
  simp only [aaM, zp, htk]
  rcases zr q s.length with hq | hq
  ·have e1 : s.getD q 0 = s[q] := by simp [hq]
   rw [e1]
   by_cases c : s[q] = 48
   ·left
    refine ⟨(((q + 1 : Nat) : Int), ()), ?_, ⟨q + 1, by omega, rfl, ?_⟩, by dsimp only; omega, ze⟩
    ·refine uT sd (uN sd (uT (by rw [c]; rfl) ?_))
     repeat refine za ?_
     rw [aaK, aaA (x := (q : Int) + 1) zc]; rfl
    ·intro c' hc'
     rw [zW hq] at hc'
     rcases zK.1 hc' with hc' | hc'
     ·exact g2 c' hc'
     ·rw [zZ.1 hc', c]
   ·right
    refine uT sd (uN sd (uF ?_ (uN sd ?_)))
    ·rw [beq_eq_false_iff_ne]
     intro h
     exact c (UInt8.toNat_inj.1 (Int.ofNat.inj h))
    ·refine fin TT.bad (Or.inr ?_)
     rw [yA hq, vk]
     exact fun h => c (Option.some.inj h)
  ·right
   refine uF sd (uN sd ?_)
   exact fin TT.bad (Or.inl zc)
theorem aIp {z : Int} (h : Bd 6 z.natAbs) : aqZ (pl z, ()) = some (wrW z) := aaI (enc := fun x : Int => (pl x, ())) z h (fun b hb => awB (Prod.mk.inj hb).1)
theorem aI7 (x : PlT) (y) (h : aqZ (x, ()) = some y) : (aHI x).toO = some y := by
 obtain ⟨z, hp, hx, rfl⟩ := aaD h
 obtain ⟨rfl, -⟩ := Prod.mk.inj hx
 refine uC _ (aFc hp) ?_
 dsimp only
 have hl : (aa3 z.natAbs).length ≤ 90000000000 := by
  have := ai1 (k := 1000000 * 4 ^ 6) hp
  omega
 by_cases c : z < 0
 ·refine uT (zo c) ?_
  have e : w64 (len (dec z) - 1) = ((aa3 z.natAbs).length : Int) := by
   rw [ahT c, aaC, zL, aaA zc]; omega
  rw [e]
  by_cases f : Fit z
  ·rw [aiU f]
   have f' : (aa3 z.natAbs).length ≤ 600 := f
   exact uF sd rfl
  ·rw [arI f]
   have f' : ¬ (aa3 z.natAbs).length ≤ 600 := f
   exact uT sd rfl
 ·refine uF (zn c) ?_
  have e : len (dec z) = ((aa3 z.natAbs).length : Int) := by rw [acC zc]; rfl
  rw [e]
  by_cases f : Fit z
  ·rw [aiU f]
   have f' : (aa3 z.natAbs).length ≤ 600 := f
   exact uF sd rfl
  ·rw [arI f]
   have f' : ¬ (aa3 z.natAbs).length ≤ 600 := f
   exact uT sd rfl
theorem aiS {n : Int} (h : aa8 n) : acF (n, ()) = some (pl n, ()) := by unfold acF; rw [if_pos h]
theorem aPu {l : List Int} {x w v N : Int} (h : V 10000 l + 10000 ^ l.length * w = N) (hx : x + 10000 * v = w) : V 10000 (l ++ [x]) + 10000 ^ (l.length + 1) * v = N := by
 rw [ad3, azV, zY, ← h]
 have : (10000 : Int) ^ l.length * (x + 10000 * v) = 10000 ^ l.length * w := by rw [hx]
 grind
theorem azG (n : Int) (y) (h : acF (n, ()) = some y) : (atL n).toO = some y := by
 unfold acF at h
 split at h
 case isFalse => cases h
 case isTrue hn =>
 injection h with h
 subst h
 obtain ⟨n0, n1⟩ := hn
 dsimp only at n0 n1
 refine uO (true, [], n, ()) rfl ?_
 refine aaO (fun i : Bool × List Int × Int × Unit => Dg 10000 i.2.1 ∧ i.2.2.1.natAbs ≤ n.natAbs ∧ V 10000 i.2.1 + 10000 ^ i.2.1.length * i.2.2.1.natAbs = n.natAbs ∧ (i.1 = true → i.2.1 = []) ∧ (i.2.2.1 = 0 → Cn i.2.1) ∧ i.2.1.length ≤ 6 ∧ i.2.2.1.natAbs < 10000 ^ (6 - i.2.1.length)) (fun i => i.2.2.1.natAbs) (fun _ => (pl n, ())) ?_ _ ⟨auI _, zq _, by simp [V], fun _ => rfl, fun _ => auJ, by simp, by simp; omega⟩
 rintro ⟨f, l, v, u⟩ ⟨g1, g2, g3, g4, g5, g6, g7⟩
 dsimp only at g1 g2 g3 g4 g5 g6 g7
 by_cases hv : v = 0
 ·right
  subst hv
  have hm : abH (decide (n < 0), l, ()) = some (pl n, ()) := ayY g1 zc (by simp at g3; omega) (Or.inr rfl)
  cases f with
  | true =>
   obtain rfl := g4 rfl
   unfold ae8
   exact uT rfl (uF rfl (uC _ hm rfl))
  | false =>
   unfold ae8
   dsimp only
   rw [zt]
   exact uF rfl (uF rfl (uC _ hm rfl))
 ·left
  have hl6 : l.length ≤ 5 := by
   rcases zr 5 l.length with h | h
   ·have : l.length = 6 := zc
    rw [this] at g7; simp at g7; omega
   ·exact h
  have td : (Int.tdiv v 10000).natAbs = v.natAbs / 10000 := by rw [Int.natAbs_tdiv]; rfl
  have tm : (Int.tmod v 10000).natAbs = v.natAbs % 10000 := by rw [vR]; rfl
  have hx : ((v.natAbs % 10000 : Nat) : Int) + 10000 * ((v.natAbs / 10000 : Nat) : Int) = v.natAbs := zc
  have wd : w64 (Int.tdiv v 10000) = Int.tdiv v 10000 := aaA zc
  have wm : w64 (0 - Int.tmod v 10000) = 0 - Int.tmod v 10000 := aaA zc
  have inv : Dg 10000 (l ++ [((v.natAbs % 10000 : Nat) : Int)]) ∧ (Int.tdiv v 10000).natAbs ≤ n.natAbs ∧ V 10000 (l ++ [((v.natAbs % 10000 : Nat) : Int)]) + 10000 ^ (l ++ [((v.natAbs % 10000 : Nat) : Int)]).length * ((Int.tdiv v 10000).natAbs : Int) = n.natAbs ∧ (false = true → (l ++ [((v.natAbs % 10000 : Nat) : Int)]) = []) ∧ (Int.tdiv v 10000 = 0 → Cn (l ++ [((v.natAbs % 10000 : Nat) : Int)])) ∧ (l ++ [((v.natAbs % 10000 : Nat) : Int)]).length ≤ 6 ∧ (Int.tdiv v 10000).natAbs < 10000 ^ (6 - (l ++ [((v.natAbs % 10000 : Nat) : Int)]).length) := by
   refine ⟨aeK g1 (amP zc zc), by omega, ?_, by simp, ?_, by simp; omega, ?_⟩
   ·rw [zR, yu, td]
    exact aPu g3 hx
   ·intro hz
    unfold Cn
    simp only [List.getLast?_concat, ne_eq, Option.some.injEq]
    omega
   ·rw [zR, yu, td, yF zc]
    have h9 : 10000 ^ (6 - l.length) = 10000 ^ (6 - (l.length + 1)) * 10000 := by
     rw [← yD]; congr 1; omega
    omega
  refine ⟨(false, l ++ [((v.natAbs % 10000 : Nat) : Int)], Int.tdiv v 10000, ()), ?_, inv, by dsimp only; omega, ze⟩
  cases f with
  | true =>
   obtain rfl := g4 rfl
   simp only [ae8, wd, wm]
   by_cases c : Int.tmod v 10000 < 0
   ·refine uT rfl (uT (by simpa using hv) (uV (uT (zo c) ?_)))
    repeat refine za ?_
    rw [aaK, show 0 - Int.tmod v 10000 = ((v.natAbs % 10000 : Nat) : Int) by omega]; rfl
   ·refine uT rfl (uT (by simpa using hv) (uV (uF (zn c) ?_)))
    repeat refine za ?_
    rw [aaK, show Int.tmod v 10000 = ((v.natAbs % 10000 : Nat) : Int) by omega]; rfl
  | false =>
   simp only [ae8, wd, wm, zt]
   by_cases c : Int.tmod v 10000 < 0
   ·refine uF rfl (uT (by simpa using hv) (uV (uT (zo c) ?_)))
    repeat refine za ?_
    rw [aaK, show 0 - Int.tmod v 10000 = ((v.natAbs % 10000 : Nat) : Int) by omega]
   ·refine uF rfl (uT (by simpa using hv) (uV (uF (zn c) ?_)))
    repeat refine za ?_
    rw [aaK, show Int.tmod v 10000 = ((v.natAbs % 10000 : Nat) : Int) by omega]
end Go.Vs
