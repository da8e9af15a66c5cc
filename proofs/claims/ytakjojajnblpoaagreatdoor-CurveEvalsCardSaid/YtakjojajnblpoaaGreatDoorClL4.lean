/-
  Trees of what the functions compute, and their laws. Own work; no condition.
-/
import Derived.Test.YtakjojajnblpoaaGreatDoorClL3
import Derived.Test.YtakjojajnblpoaaGreatDoorProg
set_option linter.unusedVariables false
set_option linter.unusedSimpArgs false
set_option maxRecDepth 100000
namespace Go.Vs
open Go Go.Vg Go.Proofs
noncomputable section
def aQq : LTab := [(130, 28, 4097, ⟨0, (Int) × Unit, .dat (.s 3) ud <| .nil, [2, 0], [], 0⟩)]
def aEp (d : List Int) (i : (Int) × Unit) : TT (uG ⊕ uo) :=
 .ite (decide (i.1 > 0))
 (.need (inb (w64 (i.1 - 1)) (len d)) <| .ite (gi d (w64 (i.1 - 1)) 0 == 0)
 (.tt <| .lt (w64 (i.1 - 1) : Int) fun z => .vL (vM z <| True ∧ vU d) <| .tr <| .ok (.inl ((z, ()))))
 (.need (inc i.1 (len d)) <| .ok (.inr ((List.take (Int.toNat i.1) d, ())))))
 (.need (inc i.1 (len d)) <| .ok (.inr ((List.take (Int.toNat i.1) d, ()))))
def aII (d : List Int) : TT uo :=
 .loop 0 (.tt <| .vL (vM (len d) <| True ∧ vU d) <| .tr <| .ok ((len d, ()))) (aEp d)
def aM7 : LTab := []
def aEo (below : Bool) (d : List Int) : TT te :=
 .call (ac1 (d, ())) aF9 fun y =>
 .ite (below)
 (.ok (((decide (len y.1 > 0), y.1, ()), ())))
 (.ok (((false, y.1, ()), ())))
def aEx : LTab := [(40, 60, 5122, ⟨0, Bool × (List Int) × (Int) × Unit, .appN (.s 3) 5 3 ud <| .dat (.s 0) ud <| .nil, [4, 2], [0], 1⟩)]
def afN (n : Int) (i : Bool × (List Int) × (Int) × Unit) : TT ((Bool × (List Int) × (Int) × Unit) ⊕ te) :=
 .ite (i.1)
 (.ite (i.2.2.1 != 0)
 (.triv (asT Int 10000 ≠ 0) zf <| .ite (decide (Int.tmod i.2.2.1 10000 < 0))
 (.need (1 * 8 ≤ 140737488355328) <| .triv (asT Int 10000 ≠ 0) zf <| .tt <| .lt ([w64 (0 - Int.tmod i.2.2.1 10000)] : List Int) fun z => .lt (w64 (Int.tdiv i.2.2.1 10000) : Int) fun z1 => .vL (vM z1 <| tY ∧ (vM (decide (n < 0)) <| ui ∧ True)) <| .vL (vK (vP 3 z) <| vK ut True) <| .ok (.inl ((false, z, z1, ()))))
 (.need (1 * 8 ≤ 140737488355328) <| .triv (asT Int 10000 ≠ 0) zf <| .tt <| .lt ([Int.tmod i.2.2.1 10000] : List Int) fun z2 => .lt (w64 (Int.tdiv i.2.2.1 10000) : Int) fun z3 => .vL (vM z3 <| tY ∧ (vM (decide (n < 0)) <| ui ∧ True)) <| .vL (vK (vP 3 z2) <| vK ut True) <| .ok (.inl ((false, z2, z3, ())))))
 (.call (abE (decide (n < 0), [], ())) agP fun y =>
 .ok (.inr (((y.1.1, y.1.2.1, ()), ())))))
 (.ite (i.2.2.1 != 0)
 (.triv (asT Int 10000 ≠ 0) zf <| .ite (decide (Int.tmod i.2.2.1 10000 < 0))
 (.need ((List.length i.2.1 + 1) * 8 ≤ 140737488355328) <| .triv (asT Int 10000 ≠ 0) zf <| .tt <| .lt (List.take (List.length i.2.1) i.2.1 ++ [w64 (0 - Int.tmod i.2.2.1 10000)] : List Int) fun z4 => .lt (w64 (Int.tdiv i.2.2.1 10000) : Int) fun z5 => .need (((z5 : Int) = z5) ∧ (((5) = (5)) ∧ (((0) = (0)) ∧ ((List.length i.2.1 + 1 = List.length z4) ∧ ((true) = (true))))) ∧ ((decide (n < 0)) = (decide (n < 0))) ∧ (((0) = (0)) ∧ (((0) = (0)) ∧ ((true) = (true)))) ∧ True) <| .vL (vK (vP 3 z4) <| vK ut True) <| .ok (.inl ((false, z4, z5, ()))))
 (.need ((List.length i.2.1 + 1) * 8 ≤ 140737488355328) <| .triv (asT Int 10000 ≠ 0) zf <| .tt <| .lt (List.take (List.length i.2.1) i.2.1 ++ [Int.tmod i.2.2.1 10000] : List Int) fun z6 => .lt (w64 (Int.tdiv i.2.2.1 10000) : Int) fun z7 => .need (((z7 : Int) = z7) ∧ (((5) = (5)) ∧ (((0) = (0)) ∧ ((List.length i.2.1 + 1 = List.length z6) ∧ ((true) = (true))))) ∧ ((decide (n < 0)) = (decide (n < 0))) ∧ (((0) = (0)) ∧ (((0) = (0)) ∧ ((true) = (true)))) ∧ True) <| .vL (vK (vP 3 z6) <| vK ut True) <| .ok (.inl ((false, z6, z7, ())))))
 (.call (abE (decide (n < 0), List.take (List.length i.2.1) i.2.1, ())) agP fun y1 =>
 .ok (.inr (((y1.1.1, y1.1.2.1, ()), ())))))
def auO (n : Int) : TT te :=
 .loop 0 (.tt <| .vL (vM n <| True ∧ (vM (decide (n < 0)) <| ui ∧ True)) <| .vL sa <| .ok ((true, [], n, ()))) (afN n)
def aM8 : LTab := []
def aw7 (n : Int) : TT uM :=
 .triv (asT Int 1000 ≠ 0) zf <| .triv (asT Int 100 ≠ 0) zf <| .triv (asT Int 10 ≠ 0) zf <| .triv (asT Int 10 ≠ 0) zf <| .triv (asT Int 10 ≠ 0) zf <| .triv (asT Int 10 ≠ 0) zf <| .ok ((List.map (fun n => UInt8.ofNat (Int.toNat n)) (List.take 4 [wu8 (w64 (48 + w64 (Int.tdiv n 1000))), wu8 (w64 (48 + Int.tmod (w64 (Int.tdiv n 100)) 10)), wu8 (w64 (48 + Int.tmod (w64 (Int.tdiv n 10)) 10)), wu8 (w64 (48 + Int.tmod n 10))]), ()))
def aNa : LTab := [(125, 58, 8192, ⟨0, (Int) × (List UInt8) × Unit, .dat (.s 4) ud <| .dat (.s 3) sb <| .nil, [2, 1], [0], 0⟩), (125, 124, 11264, ⟨1, (Int) × Unit, .dat (.s 5) ud <| .nil, [3, 2, 1], [0], 0⟩)]
def akZ (i1 : (Int) × Unit) (i : Int × List UInt8 × Unit) (a : Bool × List Int × Unit) : TT (uG ⊕ tA) :=
 .need (inc i1.1 (len i.2.1)) <| .ite (List.take (List.length i.2.1 - Int.toNat i1.1) (List.drop (Int.toNat i1.1) i.2.1) == #[].toList)
 (.ok (.inr (.inr ((#[48].toList, ())))))
 (.ite (a.1)
 (.need (List.length #[45].toList + List.length (List.take (List.length i.2.1 - Int.toNat i1.1) (List.drop (Int.toNat i1.1) i.2.1)) ≤ lim) <| .ok (.inr (.inr ((#[45].toList ++ List.take (List.length i.2.1 - Int.toNat i1.1) (List.drop (Int.toNat i1.1) i.2.1), ())))))
 (.ok (.inr (.inr ((List.take (List.length i.2.1 - Int.toNat i1.1) (List.drop (Int.toNat i1.1) i.2.1), ()))))))
def aAY (a : Bool × List Int × Unit) (i : Int × List UInt8 × Unit) (i1 : (Int) × Unit) : TT (uG ⊕ tA) :=
 .ite (decide (i1.1 < len i.2.1))
 (.need (inb i1.1 (len i.2.1)) <| .ite ((↑(UInt8.toNat (gi i.2.1 i1.1 0)) : Int) == 48)
  (.tt <| .lt (w64 (i1.1 + 1) : Int) fun z3 => .vL (vW z3 i.2.1 (#[].toList : List UInt8) <| ui ∧ True) <| .vL (vK (vO 83 a.1 a.2.1) True) <| .ok (.inl ((z3, ()))))
  (akZ i1 i a))
 (akZ i1 i a)
def asX (a : Bool × List Int × Unit) (i : (Int) × (List UInt8) × Unit) : TT tA :=
 .ite (decide (i.1 ≥ 0))
 (.need (inb i.1 (len a.2.1)) <| .call (arU (gi a.2.1 i.1 0, ())) Dd2 fun y =>
 .need (List.length i.2.1 + List.length y.1 ≤ lim) <| .tt <| .lt (w64 (i.1 - 1) : Int) fun z1 => .lt (i.2.1 ++ y.1 : List UInt8) fun z2 => .vL (vW z2 z1 (#[].toList : List UInt8) <| ui ∧ True) <| .vL (vK (vO 83 a.1 a.2.1) True) <| .ok (.inl ((z1, z2, ()))))
 (.loop 1 (.tt <| .vL (vW (0 : Int) i.2.1 (#[].toList : List UInt8) <| ui ∧ True) <| .vL (vK (vO 83 a.1 a.2.1) True) <| .ok ((0, ()))) (aAY a i))
def aw9 (a : Bool × List Int × Unit) : TT uM :=
 .loop 0 (.tt <| .lt (w64 (len a.2.1 - 1) : Int) fun z => .vL (vW (#[].toList : List UInt8) z (#[].toList : List UInt8) <| ui ∧ True) <| .vL (vK (vO 83 a.1 a.2.1) True) <| .ok ((z, #[].toList, ()))) (asX a)
def aQr : LTab := []
def aIJ (a : Bool × List Int × Unit) : TT tg :=
 .call (am7 ((a.1, a.2.1, ()), ())) Dd2 fun y =>
 .ite (a.1)
 (.ite (decide (w64 (len y.1 - 1) > 600))
 (.ok ((#[].toList, 6, ())))
 (.ok ((y.1, 0, ()))))
 (.ite (decide (len y.1 > 600))
 (.ok ((#[].toList, 6, ())))
 (.ok ((y.1, 0, ()))))
def aKf : LTab := [(132, 58, 10240, ⟨0, (Int) × Unit, .dat (.s 5) ud <| .nil, [0, 1], [], 0⟩)]
def aw5 (a : List Int) (b : List Int) (i : (Int) × Unit) : TT (uG ⊕ uA) :=
 .ite (decide (i.1 ≥ 0))
 (.need (inb i.1 (len a)) <| .need (inb i.1 (len b)) <| .ite (gi a i.1 0 != gi b i.1 0)
 (.need (inb i.1 (len a)) <| .need (inb i.1 (len b)) <| .ok (.inr ((w64 (gi a i.1 0 - gi b i.1 0), ()))))
 (.tt <| .lt (w64 (i.1 - 1) : Int) fun z1 => .vL (vO z1 a b) <| .tr <| .ok (.inl ((z1, ())))))
 (.ok (.inr ((0, ()))))
def asU (a : List Int) (b : List Int) : TT uA :=
 .ite (len a != len b)
 (.ok ((w64 (len a - len b), ())))
 (.loop 0 (.tt <| .lt (w64 (len a - 1) : Int) fun z => .vL (vO z a b) <| .tr <| .ok ((z, ()))) (aw5 a b))
def aQp : LTab := [(131, 122, 4098, ⟨0, (Int) × (Int) × Bool × (List Int) × Unit, .dat (.s 7) ud <| .dat (.s 6) ud <| .appN (.s 5) 4 3 ud <| .nil, [4, 0, 1], [], 1⟩)]
def ad5 (i : (Int) × (Int) × Bool × (List Int) × Unit) (a : List Int) (b : List Int) : TT tb :=
 .ite (decide (i.1 < len a))
 (.need (inb i.1 (len a)) <| .ite (decide (i.1 < len b))
 (.need (inb i.1 (len b)) <| .triv (asT Int 10000 ≠ 0) zf <| .need ((List.length i.2.2.2.1 + 1) * 8 ≤ 140737488355328) <| .triv (asT Int 10000 ≠ 0) zf <| .tt <| .lt (w64 (i.1 + 1) : Int) fun z36 => .lt (w64 (Int.tdiv (w64 (w64 (i.2.1 + gi a i.1 0) + gi b i.1 0)) 10000) : Int) fun z37 => .lt (List.take (List.length i.2.2.2.1) i.2.2.2.1 ++ [Int.tmod (w64 (w64 (i.2.1 + gi a i.1 0) + gi b i.1 0)) 10000] : List Int) fun z38 => .need ((((4) = (4)) ∧ (((0) = (0)) ∧ ((List.length i.2.2.2.1 + 1 = List.length z38) ∧ ((true) = (true))))) ∧ ((z37 : Int) = z37) ∧ ((z36 : Int) = z36) ∧ True ∧ ((a) = (a)) ∧ ((b) = (b)) ∧ True) <| .vL (vK (vP 3 z38) True) <| .ok (.inl ((z36, z37, false, z38, ()))))
 (.triv (asT Int 10000 ≠ 0) zf <| .need ((List.length i.2.2.2.1 + 1) * 8 ≤ 140737488355328) <| .triv (asT Int 10000 ≠ 0) zf <| .tt <| .lt (w64 (i.1 + 1) : Int) fun z39 => .lt (w64 (Int.tdiv (w64 (i.2.1 + gi a i.1 0)) 10000) : Int) fun z40 => .lt (List.take (List.length i.2.2.2.1) i.2.2.2.1 ++ [Int.tmod (w64 (i.2.1 + gi a i.1 0)) 10000] : List Int) fun z41 => .need ((((4) = (4)) ∧ (((0) = (0)) ∧ ((List.length i.2.2.2.1 + 1 = List.length z41) ∧ ((true) = (true))))) ∧ ((z40 : Int) = z40) ∧ ((z39 : Int) = z39) ∧ True ∧ ((a) = (a)) ∧ ((b) = (b)) ∧ True) <| .vL (vK (vP 3 z41) True) <| .ok (.inl ((z39, z40, false, z41, ())))))
 (.ite (decide (i.1 < len b))
 (.need (inb i.1 (len b)) <| .triv (asT Int 10000 ≠ 0) zf <| .need ((List.length i.2.2.2.1 + 1) * 8 ≤ 140737488355328) <| .triv (asT Int 10000 ≠ 0) zf <| .tt <| .lt (w64 (i.1 + 1) : Int) fun z42 => .lt (w64 (Int.tdiv (w64 (i.2.1 + gi b i.1 0)) 10000) : Int) fun z43 => .lt (List.take (List.length i.2.2.2.1) i.2.2.2.1 ++ [Int.tmod (w64 (i.2.1 + gi b i.1 0)) 10000] : List Int) fun z44 => .need ((((4) = (4)) ∧ (((0) = (0)) ∧ ((List.length i.2.2.2.1 + 1 = List.length z44) ∧ ((true) = (true))))) ∧ ((z43 : Int) = z43) ∧ ((z42 : Int) = z42) ∧ True ∧ ((a) = (a)) ∧ ((b) = (b)) ∧ True) <| .vL (vK (vP 3 z44) True) <| .ok (.inl ((z42, z43, false, z44, ()))))
 (.triv (asT Int 10000 ≠ 0) zf <| .need ((List.length i.2.2.2.1 + 1) * 8 ≤ 140737488355328) <| .triv (asT Int 10000 ≠ 0) zf <| .tt <| .lt (w64 (i.1 + 1) : Int) fun z45 => .lt (w64 (Int.tdiv i.2.1 10000) : Int) fun z46 => .lt (List.take (List.length i.2.2.2.1) i.2.2.2.1 ++ [Int.tmod i.2.1 10000] : List Int) fun z47 => .need ((((4) = (4)) ∧ (((0) = (0)) ∧ ((List.length i.2.2.2.1 + 1 = List.length z47) ∧ ((true) = (true))))) ∧ ((z46 : Int) = z46) ∧ ((z45 : Int) = z45) ∧ True ∧ ((a) = (a)) ∧ ((b) = (b)) ∧ True) <| .vL (vK (vP 3 z47) True) <| .ok (.inl ((z45, z46, false, z47, ())))))
def ad4 (i : (Int) × (Int) × Bool × (List Int) × Unit) (a : List Int) (b : List Int) : TT tb :=
 .ite (decide (i.1 < len a))
 (.need (inb i.1 (len a)) <| .ite (decide (i.1 < len b))
 (.need (inb i.1 (len b)) <| .triv (asT Int 10000 ≠ 0) zf <| .need (1 * 8 ≤ 140737488355328) <| .triv (asT Int 10000 ≠ 0) zf <| .tt <| .lt (w64 (i.1 + 1) : Int) fun z => .lt (w64 (Int.tdiv (w64 (w64 (i.2.1 + gi a i.1 0) + gi b i.1 0)) 10000) : Int) fun z1 => .lt ([Int.tmod (w64 (w64 (i.2.1 + gi a i.1 0) + gi b i.1 0)) 10000] : List Int) fun z2 => .vL (tn ∧ (vS z1 z <| True ∧ vX a b)) <| .vL (vK (vP 3 z2) True) <| .ok (.inl ((z, z1, false, z2, ()))))
 (.triv (asT Int 10000 ≠ 0) zf <| .need (1 * 8 ≤ 140737488355328) <| .triv (asT Int 10000 ≠ 0) zf <| .tt <| .lt (w64 (i.1 + 1) : Int) fun z3 => .lt (w64 (Int.tdiv (w64 (i.2.1 + gi a i.1 0)) 10000) : Int) fun z4 => .lt ([Int.tmod (w64 (i.2.1 + gi a i.1 0)) 10000] : List Int) fun z5 => .vL (tn ∧ (vS z4 z3 <| True ∧ vX a b)) <| .vL (vK (vP 3 z5) True) <| .ok (.inl ((z3, z4, false, z5, ())))))
 (.ite (decide (i.1 < len b))
 (.need (inb i.1 (len b)) <| .triv (asT Int 10000 ≠ 0) zf <| .need (1 * 8 ≤ 140737488355328) <| .triv (asT Int 10000 ≠ 0) zf <| .tt <| .lt (w64 (i.1 + 1) : Int) fun z6 => .lt (w64 (Int.tdiv (w64 (i.2.1 + gi b i.1 0)) 10000) : Int) fun z7 => .lt ([Int.tmod (w64 (i.2.1 + gi b i.1 0)) 10000] : List Int) fun z8 => .vL (tn ∧ (vS z7 z6 <| True ∧ vX a b)) <| .vL (vK (vP 3 z8) True) <| .ok (.inl ((z6, z7, false, z8, ()))))
 (.triv (asT Int 10000 ≠ 0) zf <| .need (1 * 8 ≤ 140737488355328) <| .triv (asT Int 10000 ≠ 0) zf <| .tt <| .lt (w64 (i.1 + 1) : Int) fun z9 => .lt (w64 (Int.tdiv i.2.1 10000) : Int) fun z10 => .lt ([Int.tmod i.2.1 10000] : List Int) fun z11 => .vL (tn ∧ (vS z10 z9 <| True ∧ vX a b)) <| .vL (vK (vP 3 z11) True) <| .ok (.inl ((z9, z10, false, z11, ())))))
def amI (a : List Int) (b : List Int) (i : (Int) × (Int) × Bool × (List Int) × Unit) : TT tb :=
 .ite (i.2.2.1)
 (.ite (decide (i.1 < len a))
  (ad4 i a b)
  (.ite (decide (i.1 < len b))
   (ad4 i a b)
   (.ite (decide (i.2.1 > 0))
    (ad4 i a b)
    (.ok (.inr (([], ())))))))
 (.ite (decide (i.1 < len a))
  (ad5 i a b)
  (.ite (decide (i.1 < len b))
   (ad5 i a b)
   (.ite (decide (i.2.1 > 0))
    (ad5 i a b)
    (.ok (.inr ((List.take (List.length i.2.2.2.1) i.2.2.2.1, ())))))))
def aIH (a : List Int) (b : List Int) : TT uo :=
 .loop 0 (.tt <| .vL (True ∧ (vS (0 : Int) (0 : Int) <| True ∧ vX a b)) <| .tr <| .ok ((0, 0, true, [], ()))) (amI a b)
def aw8 : LTab := [(133, 122, 4098, ⟨0, (Int) × (Int) × Bool × (List Int) × Unit, .dat (.s 7) ud <| .dat (.s 6) ud <| .appN (.s 5) 4 3 ud <| .nil, [4, 0, 1], [], 1⟩)]
def ab2 (a : List Int) (b : List Int) (i : (Int) × (Int) × Bool × (List Int) × Unit) : TT tb :=
 .ite (i.2.2.1)
 (.ite (decide (i.1 < len a))
 (.need (inb i.1 (len a)) <| .ite (decide (i.1 < len b))
 (.need (inb i.1 (len b)) <| .ite (decide (w64 (w64 (gi a i.1 0 - i.2.1) - gi b i.1 0) < 0))
 (.need (1 * 8 ≤ 140737488355328) <| .tt <| .lt (w64 (i.1 + 1) : Int) fun z => .lt ([w64 (w64 (w64 (gi a i.1 0 - i.2.1) - gi b i.1 0) + 10000)] : List Int) fun z1 => .vL (tn ∧ (vS (1 : Int) z <| True ∧ vX a b)) <| .vL (vK (vP 3 z1) True) <| .ok (.inl ((z, 1, false, z1, ()))))
 (.need (1 * 8 ≤ 140737488355328) <| .tt <| .lt (w64 (i.1 + 1) : Int) fun z2 => .lt ([w64 (w64 (gi a i.1 0 - i.2.1) - gi b i.1 0)] : List Int) fun z3 => .vL (tn ∧ (vS (0 : Int) z2 <| True ∧ vX a b)) <| .vL (vK (vP 3 z3) True) <| .ok (.inl ((z2, 0, false, z3, ())))))
 (.ite (decide (w64 (gi a i.1 0 - i.2.1) < 0))
 (.need (1 * 8 ≤ 140737488355328) <| .tt <| .lt (w64 (i.1 + 1) : Int) fun z4 => .lt ([w64 (w64 (gi a i.1 0 - i.2.1) + 10000)] : List Int) fun z5 => .vL (tn ∧ (vS (1 : Int) z4 <| True ∧ vX a b)) <| .vL (vK (vP 3 z5) True) <| .ok (.inl ((z4, 1, false, z5, ()))))
 (.need (1 * 8 ≤ 140737488355328) <| .tt <| .lt (w64 (i.1 + 1) : Int) fun z6 => .lt ([w64 (gi a i.1 0 - i.2.1)] : List Int) fun z7 => .vL (tn ∧ (vS (0 : Int) z6 <| True ∧ vX a b)) <| .vL (vK (vP 3 z7) True) <| .ok (.inl ((z6, 0, false, z7, ()))))))
 (.call (ac1 ([], ())) aF9 fun y =>
 .ok (.inr ((y.1, ())))))
 (.ite (decide (i.1 < len a))
 (.need (inb i.1 (len a)) <| .ite (decide (i.1 < len b))
 (.need (inb i.1 (len b)) <| .ite (decide (w64 (w64 (gi a i.1 0 - i.2.1) - gi b i.1 0) < 0))
 (.need ((List.length i.2.2.2.1 + 1) * 8 ≤ 140737488355328) <| .tt <| .lt (w64 (i.1 + 1) : Int) fun z8 => .lt (List.take (List.length i.2.2.2.1) i.2.2.2.1 ++ [w64 (w64 (w64 (gi a i.1 0 - i.2.1) - gi b i.1 0) + 10000)] : List Int) fun z9 => .need ((((4) = (4)) ∧ (((0) = (0)) ∧ ((List.length i.2.2.2.1 + 1 = List.length z9) ∧ ((true) = (true))))) ∧ ((1 : Int) = 1) ∧ ((z8 : Int) = z8) ∧ True ∧ ((a) = (a)) ∧ ((b) = (b)) ∧ True) <| .vL (vK (vP 3 z9) True) <| .ok (.inl ((z8, 1, false, z9, ()))))
 (.need ((List.length i.2.2.2.1 + 1) * 8 ≤ 140737488355328) <| .tt <| .lt (w64 (i.1 + 1) : Int) fun z10 => .lt (List.take (List.length i.2.2.2.1) i.2.2.2.1 ++ [w64 (w64 (gi a i.1 0 - i.2.1) - gi b i.1 0)] : List Int) fun z11 => .need ((((4) = (4)) ∧ (((0) = (0)) ∧ ((List.length i.2.2.2.1 + 1 = List.length z11) ∧ ((true) = (true))))) ∧ ((0 : Int) = 0) ∧ ((z10 : Int) = z10) ∧ True ∧ ((a) = (a)) ∧ ((b) = (b)) ∧ True) <| .vL (vK (vP 3 z11) True) <| .ok (.inl ((z10, 0, false, z11, ())))))
 (.ite (decide (w64 (gi a i.1 0 - i.2.1) < 0))
 (.need ((List.length i.2.2.2.1 + 1) * 8 ≤ 140737488355328) <| .tt <| .lt (w64 (i.1 + 1) : Int) fun z12 => .lt (List.take (List.length i.2.2.2.1) i.2.2.2.1 ++ [w64 (w64 (gi a i.1 0 - i.2.1) + 10000)] : List Int) fun z13 => .need ((((4) = (4)) ∧ (((0) = (0)) ∧ ((List.length i.2.2.2.1 + 1 = List.length z13) ∧ ((true) = (true))))) ∧ ((1 : Int) = 1) ∧ ((z12 : Int) = z12) ∧ True ∧ ((a) = (a)) ∧ ((b) = (b)) ∧ True) <| .vL (vK (vP 3 z13) True) <| .ok (.inl ((z12, 1, false, z13, ()))))
 (.need ((List.length i.2.2.2.1 + 1) * 8 ≤ 140737488355328) <| .tt <| .lt (w64 (i.1 + 1) : Int) fun z14 => .lt (List.take (List.length i.2.2.2.1) i.2.2.2.1 ++ [w64 (gi a i.1 0 - i.2.1)] : List Int) fun z15 => .need ((((4) = (4)) ∧ (((0) = (0)) ∧ ((List.length i.2.2.2.1 + 1 = List.length z15) ∧ ((true) = (true))))) ∧ ((0 : Int) = 0) ∧ ((z14 : Int) = z14) ∧ True ∧ ((a) = (a)) ∧ ((b) = (b)) ∧ True) <| .vL (vK (vP 3 z15) True) <| .ok (.inl ((z14, 0, false, z15, ()))))))
 (.call (ac1 (List.take (List.length i.2.2.2.1) i.2.2.2.1, ())) aF9 fun y1 =>
 .ok (.inr ((y1.1, ())))))
def amJ (a : List Int) (b : List Int) : TT uo :=
 .loop 0 (.tt <| .vL (True ∧ (vS (0 : Int) (0 : Int) <| True ∧ vX a b)) <| .tr <| .ok ((0, 0, true, [], ()))) (ab2 a b)
def aEl : LTab := [(134, 58, 9217, ⟨0, (Int) × (List Int) × Unit, .dat (.s 6) ud <| .row 6 ud <| .nil, [5, 4, 0, 1], [6], 0⟩), (134, 14922, 15361, ⟨1, (Int) × (Int) × (List Int) × Unit, .dat (.s 8) ud <| .dat (.s 7) ud <| .row 6 ud <| .nil, [18, 17, 16, 15, 6, 5, 4, 0, 1], [6], 0⟩)]
def aeI (a : List Int) (b : List Int) (i : Int × List Int × Unit) (i1 : (Int) × (Int) × (List Int) × Unit) : TT (uH ⊕ tf) :=
 .ite (decide (i1.1 < len b))
 (.need (inb (w64 (i.1 + i1.1)) (↑(Int.toNat (w64 (len a + len b))) : Int)) <| .need (inb i.1 (len a)) <| .need (inb i1.1 (len b)) <| .triv (asT Int 10000 ≠ 0) zf <| .need (inb (w64 (i.1 + i1.1)) (↑(Int.toNat (w64 (len a + len b))) : Int)) <| .triv (asT Int 10000 ≠ 0) zf <| .tt <| .lt (w64 (i1.1 + 1) : Int) fun z2 => .lt (w64 (Int.tdiv (w64 (w64 (i1.2.1 + List.getD i1.2.2.1 (0 + Int.toNat (w64 (i.1 + i1.1))) 0) + w64 (gi a i.1 0 * gi b i1.1 0))) 10000) : Int) fun z3 => .lt (List.set i1.2.2.1 (0 + Int.toNat (w64 (i.1 + i1.1))) (Int.tmod (w64 (w64 (i1.2.1 + List.getD i1.2.2.1 (0 + Int.toNat (w64 (i.1 + i1.1))) 0) + w64 (gi a i.1 0 * gi b i1.1 0))) 10000) : List Int) fun z4 => .vL (vY z3 z2 (decide (i.1 < len a)) (len a) a i.1 i.1 <| (vQ 6 0 (Int.toNat (w64 (len a + len b))) true) ∧ True ∧ vX a b) <| .vL (vK (vP 3 z4) True) <| .ok (.inl ((z2, z3, z4, ()))))
 (.need (inb (w64 (i.1 + len b)) (↑(Int.toNat (w64 (len a + len b))) : Int)) <| .tt <| .lt (w64 (i.1 + 1) : Int) fun z5 => .lt (List.set i1.2.2.1 (0 + Int.toNat (w64 (i.1 + len b))) i1.2.1 : List Int) fun z6 => .vL (vM z5 <| (vQ 6 0 (Int.toNat (w64 (len a + len b))) true) ∧ True ∧ vX a b) <| .vL (vK (vP 3 z6) True) <| .ok (.inr (.inl ((z5, z6, ())))))
def akY (a : List Int) (b : List Int) (i : (Int) × (List Int) × Unit) : TT tf :=
 .ite (decide (i.1 < len a))
 (.loop 1 (.tt <| .lt (i.2.1 : List Int) fun z1 => .vL (vY (0 : Int) (0 : Int) (decide (i.1 < len a)) (len a) a i.1 i.1 <| (vQ 6 0 (Int.toNat (w64 (len a + len b))) true) ∧ True ∧ vX a b) <| .vL (vK (vP 3 z1) True) <| .ok ((0, 0, z1, ()))) (aeI a b i))
 (.call (ac1 (List.take (Int.toNat (w64 (len a + len b))) i.2.1, ())) aF9 fun y =>
 .ok (.inr ((y.1, ()))))
def afE (a : List Int) (b : List Int) : TT uo :=
 .need (0 ≤ w64 (len a + len b) ∧ w64 (len a + len b) ≤ w64 (len a + len b) ∧ w64 (len a + len b) * (↑8 : Int) ≤ 140737488355328) <| .loop 0 (.tt <| .lt (List.replicate (Int.toNat (w64 (len a + len b))) 0 : List Int) fun z => .vL (vM (0 : Int) <| (vQ 6 0 (Int.toNat (w64 (len a + len b))) true) ∧ True ∧ vX a b) <| .vL (vK (vP 3 z) True) <| .ok ((0, z, ()))) (akY a b)
def aM6 : LTab := [(171, 122, 11265, ⟨0, (Int) × (Int) × (List Int) × Unit, .dat (.s 8) ud <| .dat (.s 7) ud <| .row 4 ud <| .nil, [6, 5, 4, 0, 1], [4], 0⟩)]
def asV (a : List Int) (d : Int) (i : (Int) × (Int) × (List Int) × Unit) : TT (uH ⊕ tN) :=
 .ite (decide (i.1 ≥ 0))
 (.need (inb i.1 (len a)) <| .need (d ≠ 0) <| .need (inb i.1 (↑(Int.toNat (len a)) : Int)) <| .need (d ≠ 0) <| .tt <| .lt (w64 (i.1 - 1) : Int) fun z2 => .lt (Int.tmod (w64 (w64 (i.2.1 * 10000) + gi a i.1 0)) d : Int) fun z3 => .lt (List.set i.2.2.1 (0 + Int.toNat i.1) (w64 (Int.tdiv (w64 (w64 (i.2.1 * 10000) + gi a i.1 0)) d)) : List Int) fun z4 => .vL (vS z3 z2 <| (vQ 4 0 (Int.toNat (len a)) true) ∧ (vM (0 : Int) <| True ∧ vX a d)) <| .vL (vK (vP 3 z4) True) <| .ok (.inl ((z2, z3, z4, ()))))
 (.call (ac1 (List.take (Int.toNat (len a)) i.2.2.1, ())) aF9 fun y =>
 .ok (.inr ((y.1, i.2.1, ()))))
def aw6 (a : List Int) (d : Int) : TT tN :=
 .need (0 ≤ len a ∧ len a ≤ len a ∧ len a * (↑8 : Int) ≤ 140737488355328) <| .loop 0 (.tt <| .lt (w64 (len a - 1) : Int) fun z => .lt (List.replicate (Int.toNat (len a)) 0 : List Int) fun z1 => .vL (vS (0 : Int) z <| (vQ 4 0 (Int.toNat (len a)) true) ∧ (vM (0 : Int) <| True ∧ vX a d)) <| .vL (vK (vP 3 z1) True) <| .ok ((z, 0, z1, ()))) (asV a d)
end
open Go Go.Vg
theorem agU {l : List Int} (h : Dg 10000 l) (hl : l.length ≤ 1000000000000) {n : Nat} (hv : V 10000 l = n) : ac1 (l, ()) = some (dig n, ()) := by
 unfold ac1
 rw [if_pos ⟨h, hl⟩]
 simp only [hv, zp]
theorem aKg (d : List Int) (y) (h : ac1 (d, ()) = some y) : (aII d).toO = some y := by
 unfold ac1 at h
 split at h
 case isFalse => cases h
 case isTrue hp =>
 obtain ⟨hd, hl⟩ := hp
 dsimp only at hd hl h
 injection h with h
 subst h
 refine uO ((d.length : Int), ()) rfl ?_
 refine aaL (fun i : Int × Unit => ∃ k : Nat, k ≤ d.length ∧ i = ((k : Int), ()) ∧ V 10000 (d.take k) = V 10000 d) (fun i => i.1.toNat) (fun _ => (dig (V 10000 d).toNat, ())) ?_ _ ⟨_, zq _, rfl, by rw [zt]⟩
 rintro i ⟨k, h1, rfl, h2⟩
 have hn := aaT zc hd
 have fin : Cn (d.take k) → d.take k = dig (V 10000 d).toNat := fun hc => aC9 (acI hd k) hc (by rw [h2]; omega)
 unfold aEp
 rcases zD k with h0 | h0
 ·right
  subst h0
  refine uF sd (uN sd ?_)
  show some (Sum.inr (d.take (Int.toNat (0 : Nat)), ())) = _
  rw [zp, fin (by simp [Cn])]
 ·have hw : w64 ((k : Int) - 1) = ((k - 1 : Nat) : Int) := by rw [aaA (x := (k : Int) - 1) zc]; omega
  have hg : d.getD (k - 1) 0 = d[k - 1] := by simp [show k - 1 < d.length by omega]
  have ht := alN 10000 (l := d) (i := k - 1) zc
  rw [show k - 1 + 1 = k by omega] at ht
  simp only [hw, aaM, hg]
  by_cases c : d[k - 1] = 0
  ·left
   refine ⟨(((k - 1 : Nat) : Int), ()), ?_, ⟨k - 1, by omega, rfl, ?_⟩, by dsimp only; omega, ze⟩
   ·refine uT sd (uN sd (uT (by rw [c]; rfl) ?_))
    repeat refine za ?_
    rfl
   ·rw [← h2, ht, c]; simp
  ·right
   refine uT sd (uN sd (uF (by simpa using c) (uN sd ?_)))
   show some (Sum.inr (d.take (Int.toNat (k : Int)), ())) = _
   rw [zp, fin ?_]
   unfold Cn
   rw [yQ, zK, yI h1, yw, if_pos zc, zR zc]
   simpa using c
theorem aGO (b : Bool) (d : List Int) (y) (h : abE (b, d, ()) = some y) : (aEo b d).toO = some y := by
 unfold abE at h
 split at h
 case isFalse => cases h
 case isTrue hp =>
 obtain ⟨hd, hl⟩ := hp
 dsimp only at hd hl h
 injection h with h
 subst h
 obtain ⟨n, hn⟩ := zv (aaT zc hd)
 rw [hn, zp]
 refine uC _ (agU hd hl hn) ?_
 have e : decide (len (dig n) > 0) = decide ((n : Int) ≠ 0) := by
  refine decide_eq_decide.2 ?_
  have := dig_nil_iff (n := n)
  rw [aaC]
  constructor
  ·intro h h2
   rw [this.2 zc] at h
   simp at h
  ·intro h
   rcases zD (dig n).length with h3 | h3
   ·have := this.1 (zW.1 h3); omega
   ·omega
 cases b
 ·exact uF rfl rfl
 ·refine uT rfl ?_
  show some ((decide (len (dig n) > 0), dig n, ()), ()) = _
  rw [e]; rfl
theorem azY {l : List Int} {b : Bool} {z : Int} (h : Dg 10000 l) (hl : l.length ≤ 1000000000000) (hv : V 10000 l = z.natAbs) (hb : z = 0 ∨ b = decide (z < 0)) : abE (b, l, ()) = some (pl z, ()) := by
 unfold abE
 rw [if_pos ⟨h, hl⟩]
 simp only [hv, zp]
 congr 2
 unfold pl
 congr 1
 by_cases h0 : z = 0
 ·subst h0; simp
 ·rw [zo (show ((z.natAbs : Int) ≠ 0) by omega), Bool.and_true]
  rcases hb with h2 | h2
  ·exact absurd h2 h0
  ·exact h2
theorem afK {n : Nat} {b : Bool} {z : Int} (hl : (dig n).length ≤ 1000000000000) (hv : n = z.natAbs) (hb : z = 0 ∨ b = decide (z < 0)) : abE (b, dig n, ()) = some (pl z, ()) := azY (adX n) hl (by rw [aiF, hv]) hb
theorem aPM {n : Nat} (h : n < 10000) : arU ((n : Int), ()) = some (aAq n, ()) := aaG (enc := fun x : Nat => ((x : Int), ())) n h (fun b hb => Int.ofNat.inj (Prod.mk.inj hb).1)
theorem aGP (n : Int) (y) (h : arU (n, ()) = some y) : (aw7 n).toO = some y := by
 obtain ⟨k, hk, hx, rfl⟩ := aaD h
 obtain ⟨rfl, -⟩ := Prod.mk.inj hx
 have d1 : ∀ m : Nat, 0 < m → Int.tdiv (k : Int) m = ((k / m : Nat) : Int) := fun m hm => by rw [zL zc]; simp
 have e1 := d1 1000 zc
 have e2 := d1 100 zc
 have e3 := d1 10 zc
 have m1 : ∀ j : Nat, Int.tmod (j : Int) 10 = ((j % 10 : Nat) : Int) := fun j => by rw [zz zc]; omega
 have w1 : ∀ j : Nat, j < 10000 → w64 (j : Int) = j := fun j hj => aaA zc
 have w2 : ∀ j : Nat, j < 10 → wu8 (w64 (48 + (j : Int))) = ((48 + j : Nat) : Int) := fun j hj => by rw [aaA (x := 48 + (j : Int)) zc, abO zc]; omega
 unfold aw7
 have f1 : Int.tdiv (k : Int) 1000 = ((k / 1000 : Nat) : Int) := e1
 have f2 : Int.tdiv (k : Int) 100 = ((k / 100 : Nat) : Int) := e2
 have f3 : Int.tdiv (k : Int) 10 = ((k / 10 : Nat) : Int) := e3
 refine uV (uV (uV (uV (uV (uV ?_)))))
 rw [aaJ, f1, f2, f3, w1 (k / 1000) zc, w1 (k / 100) zc, w1 (k / 10) zc, m1, m1, m1, w2 _ zc, w2 _ zc, w2 _ zc, w2 _ zc]
 rfl
theorem auF (a b : List Int) (h1 : Dg 10000 a) (h2 : Dg 10000 b) (h3 : a.length ≤ 1000000000000) (h4 : b.length ≤ 1000000000000) : agF (a, b, ()) = some (aRM a b, ()) := by unfold agF; rw [if_pos ⟨h1, h2, h3, h4⟩]
theorem aEn (a b : List Int) (y) (h : agF (a, b, ()) = some y) : (asU a b).toO = some y := by
 unfold agF at h
 split at h
 case isFalse => cases h
 case isTrue hp =>
 obtain ⟨ha, hb, hl, hl2⟩ := hp
 dsimp only at ha hb hl hl2 h
 injection h with h
 subst h
 unfold asU aRM
 by_cases c : a.length = b.length
 case neg =>
  rw [if_pos c]
  refine uT sd ?_
  rw [aaJ, aaC, aaC, aaA zc]
 rw [if_neg (fun h => h c)]
 refine uF sd ?_
 refine uO ((a.length : Int) - 1, ()) ?_ ?_
 ·repeat refine za ?_
  rw [aaJ, aaC, aaA zc]
 refine aaL (fun i : Int × Unit => ∃ k : Nat, k ≤ a.length ∧ i = ((k : Int) - 1, ()) ∧ aP3 a b a.length = aP3 a b k) (fun i => (i.1 + 1).toNat) (fun _ => (aP3 a b a.length, ())) ?_ _ ⟨_, zq _, rfl, rfl⟩
 rintro i ⟨k, h1, rfl, h2⟩
 unfold aw5
 dsimp only
 cases k with
 | zero =>
  right
  refine uF sd ?_
  rw [h2]; rfl
 | succ j =>
  have e6 : ((j + 1 : Nat) : Int) - 1 = (j : Int) := zc
  simp only [e6, aaM]
  have da := aa3 zc ha j
  have db := aa3 zc hb j
  by_cases c2 : a.getD j 0 = b.getD j 0
  ·left
   refine ⟨((j : Int) - 1, ()), ?_, ⟨j, by omega, rfl, ?_⟩, by dsimp only; omega, ze⟩
   ·refine uT sd (uN sd (uN sd (uF (by rw [c2]; simp) ?_)))
    repeat refine za ?_
    rw [aaJ, aaA zc]
   ·rw [h2]; show (if _ then _ else _) = _; rw [if_neg (fun h => h c2)]
  ·right
   refine uT sd (uN sd (uN sd (uT (by simpa using c2) (uN sd (uN sd ?_)))))
   rw [aaJ, aaA zc, h2]
   show _ = some (Sum.inr (if _ then _ else _, ()))
   rw [if_pos c2]
theorem aDQ {a b : List Int} (ha : Dg 10000 a) (hb : Dg 10000 b) : ∀ k, (aP3 a b k < 0 ↔ V 10000 (a.take k) < V 10000 (b.take k)) ∧ (aP3 a b k = 0 ↔ V 10000 (a.take k) = V 10000 (b.take k))
 | 0 => by simp [aP3]
 | k + 1 => by
  obtain ⟨i1, i2⟩ := aDQ ha hb k
  have ea := aa6 10000 a k
  have eb := aa6 10000 b k
  have la := adP zc ha k
  have lb := adP zc hb k
  have na := aaT zc (acI ha k)
  have nb := aaT zc (acI hb k)
  unfold aP3
  rw [ea, eb]
  by_cases c : a.getD k 0 = b.getD k 0
  ·rw [if_neg (fun h => h c), c]
   omega
  ·rw [if_pos c]
   rcases zS (a.getD k 0) (b.getD k 0) with h | h
   ·have h5 : (10000 : Int) ^ k * (a.getD k 0 + 1) ≤ 10000 ^ k * b.getD k 0 := zE zc zc
    rw [wh] at h5
    omega
   ·have h5 : (10000 : Int) ^ k * (b.getD k 0 + 1) ≤ 10000 ^ k * a.getD k 0 := zE zc zc
    rw [wh] at h5
    omega
theorem aIP (m n : Nat) : (aRM (dig m) (dig n) < 0 ↔ m < n) ∧ (aRM (dig m) (dig n) = 0 ↔ m = n) := by
 unfold aRM
 by_cases c : (dig m).length = (dig n).length
 ·rw [if_neg (fun h => h c)]
  obtain ⟨h1, h2⟩ := aDQ (adX m) (adX n) (dig m).length
  rw [abM _ (zq _), abM _ zc, aiF, aiF] at h1 h2
  omega
 ·rw [if_pos c]
  rcases zr (dig m).length (dig n).length with h | h
  ·have := ao2 h; omega
  ·have := ao2 (m := n) (n := m) zc; omega
theorem aQd {a b s : List Int} {k : Nat} {c x c' : Int} (h5 : s.length = k) (h7 : V 10000 s + 10000 ^ k * c = V 10000 (a.take k) + V 10000 (b.take k)) (hx : x + 10000 * c' = a.getD k 0 + b.getD k 0 + c) : V 10000 (s ++ [x]) + 10000 ^ (k + 1) * c' = V 10000 (a.take (k + 1)) + V 10000 (b.take (k + 1)) := by
 rw [aeK, aAz, h5, aa6, aa6, zY]
 have : (10000 : Int) ^ k * (x + 10000 * c') = 10000 ^ k * (a.getD k 0 + b.getD k 0 + c) := by rw [hx]
 grind
theorem aQc {x : Int} (h : 0 ≤ x) : Int.tdiv x 10000 = x / 10000 := zL h
theorem aP8 {x : Int} (h : 0 ≤ x) : Int.tmod x 10000 = x % 10000 := zz h
theorem aKd (m o : List Int) (y) (h : awA (m, o, ()) = some y) : (aIH m o).toO = some y := by
 obtain ⟨⟨a, b⟩, hn, hx, rfl⟩ := aaD h
 obtain ⟨rfl, hx2⟩ := Prod.mk.inj hx; obtain ⟨rfl, -⟩ := Prod.mk.inj hx2; dsimp only
 obtain ⟨la, lb⟩ := hn
 simp only at la lb
 have hda := adX a
 have hdb := adX b
 have hVa := aiF a
 have hVb := aiF b
 clear hx hx2 h
 have hca := aJg a
 have hcb := aJg b
 generalize dig a = A at *
 generalize dig b = B at *
 refine uO (0, 0, true, [], ()) rfl ?_
 refine aaL (fun i : Int × Int × Bool × List Int × Unit => ∃ k : Nat, k ≤ A.length + B.length + 1 ∧ i.1 = (k : Int) ∧ 0 ≤ i.2.1 ∧ i.2.1 ≤ 1 ∧ i.2.2.2.1.length = k ∧ Dg 10000 i.2.2.2.1 ∧ V 10000 i.2.2.2.1 + 10000 ^ k * i.2.1 = V 10000 (A.take k) + V 10000 (B.take k) ∧ (i.2.2.1 = true → i.2.2.2.1 = []) ∧ (A.length ≤ k → B.length ≤ k → i.2.1 = 0 → Cn i.2.2.2.1) ∧ (i.2.1 = 0 ∨ k ≤ A.length ∨ k ≤ B.length)) (fun i => (((A.length + B.length + 2 : Nat) : Int) - i.1).toNat) (fun _ => (dig (a + b), ())) ?_ _ ⟨0, by omega, rfl, by simp, by simp, rfl, avH _, by simp [V], fun _ => rfl, fun _ _ _ => avI, Or.inl rfl⟩
 rintro ⟨i, c, f, s, u⟩ ⟨k, h1, h2, h3, h4, h5, h6, h7, h8, h9, h10⟩
 dsimp only at h2 h3 h4 h5 h6 h7 h8 h9 h10
 subst h2
 have da := aa3 zc hda k
 have db := aa3 zc hdb k
 have hS : 0 ≤ A.getD k 0 + B.getD k 0 + c := zc
 by_cases hgo : k < A.length ∨ k < B.length ∨ 0 < c
 ·left
  have e1 := yl (A.getD k 0 + B.getD k 0 + c) 10000
  refine ⟨(((k + 1 : Nat) : Int), (A.getD k 0 + B.getD k 0 + c) / 10000, false, s ++ [(A.getD k 0 + B.getD k 0 + c) % 10000], ()), ?_, ⟨k + 1, by omega, rfl, by dsimp only; omega, by dsimp only; omega, by simp; omega, ae1 h6 (anK zc zc), aQd h5 h7 e1, by simp, ?_, ?_⟩, by dsimp only; omega, ze⟩
  ·have zA : ¬ k < A.length → A.getD k 0 = 0 := fun h => ah7 zc 0
   have zB : ¬ k < B.length → B.getD k 0 = 0 := fun h => ah7 zc 0
   have eD : ∀ x : Int, x = A.getD k 0 + B.getD k 0 + c → Int.tdiv x 10000 = (A.getD k 0 + B.getD k 0 + c) / 10000 ∧ Int.tmod x 10000 = (A.getD k 0 + B.getD k 0 + c) % 10000 := fun x hx => by rw [hx]; exact ⟨aQc hS, aP8 hS⟩
   have w1 : w64 (c + A.getD k 0) = c + A.getD k 0 := aaA zc
   have w2 : w64 (c + A.getD k 0 + B.getD k 0) = c + A.getD k 0 + B.getD k 0 := aaA zc
   have w3 : w64 (c + B.getD k 0) = c + B.getD k 0 := aaA zc
   have w4 : w64 ((A.getD k 0 + B.getD k 0 + c) / 10000) = (A.getD k 0 + B.getD k 0 + c) / 10000 := aaA zc
   have w5 : w64 ((k : Int) + 1) = ((k + 1 : Nat) : Int) := by rw [aaA (x := (k : Int) + 1) zc]; omega
   cases f with
   | true =>
    obtain rfl := h8 rfl
    simp only [amI, ad4, ad5, aaM, w1, w2, w3, w5]
    by_cases cA : k < A.length <;> by_cases cB : k < B.length
    ·obtain ⟨q1, q2⟩ := eD (c + A.getD k 0 + B.getD k 0) zc
     simp only [q1, q2, w4]
     repeat refine za ?_
     rfl
    ·obtain ⟨q1, q2⟩ := eD (c + A.getD k 0) (by have := zB cB; omega)
     simp only [q1, q2, w4]
     repeat refine za ?_
     rfl
    ·obtain ⟨q1, q2⟩ := eD (c + B.getD k 0) (by have := zA cA; omega)
     simp only [q1, q2, w4]
     repeat refine za ?_
     rfl
    ·obtain ⟨q1, q2⟩ := eD c (by have := zA cA; have := zB cB; omega)
     have hc0 : 0 < c := zc
     simp only [q1, q2, w4]
     repeat refine za ?_
     rfl
   | false =>
    simp only [amI, ad4, ad5, aaM, w1, w2, w3, w5, zt]
    by_cases cA : k < A.length <;> by_cases cB : k < B.length
    ·obtain ⟨q1, q2⟩ := eD (c + A.getD k 0 + B.getD k 0) zc
     simp only [q1, q2, w4]
     repeat refine za ?_
     rfl
    ·obtain ⟨q1, q2⟩ := eD (c + A.getD k 0) (by have := zB cB; omega)
     simp only [q1, q2, w4]
     repeat refine za ?_
     rfl
    ·obtain ⟨q1, q2⟩ := eD (c + B.getD k 0) (by have := zA cA; omega)
     simp only [q1, q2, w4]
     repeat refine za ?_
     rfl
    ·obtain ⟨q1, q2⟩ := eD c (by have := zA cA; have := zB cB; omega)
     have hc0 : 0 < c := zc
     simp only [q1, q2, w4]
     repeat refine za ?_
     rfl
  ·intro g1 g2 g3
   dsimp only at g3 ⊢
   unfold Cn
   simp only [List.getLast?_concat, ne_eq, Option.some.injEq]
   intro g4
   have hz : A.getD k 0 + B.getD k 0 + c = 0 := zc
   have ca : ¬ k < A.length := by
    intro hk
    have : k = A.length - 1 := zc
    unfold Cn at hca
    rw [yQ, ← this, zR hk] at hca
    rw [ajN hk] at *
    exact hca (by congr 1; omega)
   have cb : ¬ k < B.length := by
    intro hk
    have : k = B.length - 1 := zc
    unfold Cn at hcb
    rw [yQ, ← this, zR hk] at hcb
    rw [ajN hk] at *
    exact hcb (by congr 1; omega)
   omega
  ·dsimp only
   by_cases cA : k < A.length
   ·right; left; omega
   ·by_cases cB : k < B.length
    ·right; right; omega
    ·left
     have := ah7 (l := A) (k := k) zc 0
     have := ah7 (l := B) (k := k) zc 0
     omega
 ·right
  have hc : c = 0 := zc
  subst hc
  rw [abM _ zc, abM _ zc, hVa, hVb] at h7
  have hs : s = dig (a + b) := aC9 h6 (h9 zc zc rfl) zc
  cases f with
  | true =>
   obtain rfl := h8 rfl
   unfold amI ad4 ad5
   repeat refine za ?_
   rw [← hs]; rfl
  | false =>
   unfold amI ad4 ad5
   repeat refine za ?_
   rw [← hs, aaJ, zt]
theorem anF {a b : List Int} (h1 : Dg 10000 a) (h2 : Dg 10000 b) (h3 : a.length ≤ 1000000000000) (h4 : b.length ≤ a.length) (h5 : V 10000 b ≤ V 10000 a) {n : Nat} (hn : V 10000 a - V 10000 b = n) : abF (a, b, ()) = some (dig n, ()) := by
 unfold abF
 rw [if_pos ⟨h1, h2, h3, h4, h5⟩]
 simp only [hn, zp]
theorem aOX {a b s : List Int} {k : Nat} {c x c' : Int} (h5 : s.length = k) (h7 : V 10000 s = V 10000 (a.take k) - V 10000 (b.take k) + 10000 ^ k * c) (hx : x = a.getD k 0 - b.getD k 0 - c + 10000 * c') : V 10000 (s ++ [x]) = V 10000 (a.take (k + 1)) - V 10000 (b.take (k + 1)) + 10000 ^ (k + 1) * c' := by
 rw [aeK, aAz, h5, aa6, aa6, zY, h7, hx]
 grind
theorem asW (A B : List Int) (y) (h : abF (A, B, ()) = some y) : (amJ A B).toO = some y := by
 unfold abF at h
 split at h
 case isFalse => cases h
 case isTrue hp =>
 obtain ⟨hda, hdb, la, lb, hle⟩ := hp
 dsimp only at hda hdb la lb hle h
 injection h with h
 subst h
 refine uO (0, 0, true, [], ()) rfl ?_
 refine aaL (fun i : Int × Int × Bool × List Int × Unit => ∃ k : Nat, k ≤ A.length ∧ i.1 = (k : Int) ∧ 0 ≤ i.2.1 ∧ i.2.1 ≤ 1 ∧ i.2.2.2.1.length = k ∧ Dg 10000 i.2.2.2.1 ∧ V 10000 i.2.2.2.1 = V 10000 (A.take k) - V 10000 (B.take k) + 10000 ^ k * i.2.1 ∧ (i.2.2.1 = true → i.2.2.2.1 = [])) (fun i => ((A.length : Int) - i.1).toNat) (fun _ => (dig (V 10000 A - V 10000 B).toNat, ())) ?_ _ ⟨0, by omega, rfl, by simp, by simp, rfl, avH _, by simp [V], fun _ => rfl⟩
 rintro ⟨i, c, f, s, u⟩ ⟨k, h1, h2, h3, h4, h5, h6, h7, h8⟩
 dsimp only at h2 h3 h4 h5 h6 h7 h8
 subst h2
 have da := aa3 zc hda k
 have db := aa3 zc hdb k
 have w5 : w64 ((k : Int) + 1) = ((k + 1 : Nat) : Int) := by rw [aaA (x := (k : Int) + 1) zc]; omega
 have w1 : w64 (A.getD k 0 - c) = A.getD k 0 - c := aaA zc
 have w2 : w64 (A.getD k 0 - c - B.getD k 0) = A.getD k 0 - c - B.getD k 0 := aaA zc
 have w3 : w64 (A.getD k 0 - c + 10000) = A.getD k 0 - c + 10000 := aaA zc
 have w4 : w64 (A.getD k 0 - c - B.getD k 0 + 10000) = A.getD k 0 - c - B.getD k 0 + 10000 := aaA zc
 rcases zr k A.length with hk | hk
 ·left
  have fin : ∀ x c' : Int, 0 ≤ x ∧ x < 10000 → 0 ≤ c' ∧ c' ≤ 1 → x = A.getD k 0 - B.getD k 0 - c + 10000 * c' → (∃ k_1 : Nat, k_1 ≤ A.length ∧ ((k + 1 : Nat) : Int) = (k_1 : Int) ∧ 0 ≤ c' ∧ c' ≤ 1 ∧ (s ++ [x]).length = k_1 ∧ Dg 10000 (s ++ [x]) ∧ V 10000 (s ++ [x]) = V 10000 (A.take k_1) - V 10000 (B.take k_1) + 10000 ^ k_1 * c' ∧ (false = true → (s ++ [x]) = [])) ∧ ((A.length : Int) - ((k + 1 : Nat) : Int)).toNat < ((A.length : Int) - (k : Int)).toNat :=
   fun x c' hx hc he => ⟨⟨k + 1, by omega, rfl, hc.1, hc.2, by simp; omega, ae1 h6 (anK hx.1 hx.2), aOX h5 h7 he, by simp⟩, by omega⟩
  have zB : ¬ k < B.length → B.getD k 0 = 0 := fun h => ah7 zc 0
  by_cases cn : A.getD k 0 - c - B.getD k 0 < 0
  ·obtain ⟨g1, g2⟩ := fin (A.getD k 0 - c - B.getD k 0 + 10000) 1 zc zc zc
   refine ⟨(((k + 1 : Nat) : Int), 1, false, s ++ [A.getD k 0 - c - B.getD k 0 + 10000], ()), ?_, g1, g2, ze⟩
   cases f with
   | true =>
    obtain rfl := h8 rfl
    simp only [ab2, aaM, w1, w2, w3, w4, w5]
    by_cases cB : k < B.length
    ·repeat refine za ?_
     rfl
    ·have := zB cB
     rw [this, wJ] at *
     repeat refine za ?_
     rfl
   | false =>
    simp only [ab2, aaM, w1, w2, w3, w4, w5, zt]
    by_cases cB : k < B.length
    ·repeat refine za ?_
     rfl
    ·have := zB cB
     rw [this, wJ] at *
     repeat refine za ?_
     rfl
  ·obtain ⟨g1, g2⟩ := fin (A.getD k 0 - c - B.getD k 0) 0 zc zc zc
   refine ⟨(((k + 1 : Nat) : Int), 0, false, s ++ [A.getD k 0 - c - B.getD k 0], ()), ?_, g1, g2, ze⟩
   cases f with
   | true =>
    obtain rfl := h8 rfl
    simp only [ab2, aaM, w1, w2, w3, w4, w5]
    by_cases cB : k < B.length
    ·repeat refine za ?_
     rfl
    ·have := zB cB
     rw [this, wJ] at *
     repeat refine za ?_
     rfl
   | false =>
    simp only [ab2, aaM, w1, w2, w3, w4, w5, zt]
    by_cases cB : k < B.length
    ·repeat refine za ?_
     rfl
    ·have := zB cB
     rw [this, wJ] at *
     repeat refine za ?_
     rfl
 ·right
  have hkk : k = A.length := zc
  subst hkk
  rw [abM _ (zq _), abM _ lb] at h7
  have hlt := aLR zc h6
  rw [h5] at hlt
  have hc : c = 0 := by
   rcases zS 0 c with hc | hc
   ·have hc1 : c = 1 := zc
    subst hc1
    omega
   ·omega
  subst hc
  cases f with
  | true =>
   obtain rfl := h8 rfl
   unfold ab2
   refine uT rfl (uF sd (uC (dig (V 10000 A - V 10000 B).toNat, ()) (agU h6 zi zc) rfl))
  | false =>
   unfold ab2
   dsimp only
   rw [zt]
   refine uF rfl (uF sd (uC (dig (V 10000 A - V 10000 B).toNat, ()) (agU h6 zc zc) rfl))
theorem aLN (Vs P c A K x T X Y d e Q B : Int) (h : Vs + P * c = A + K * (x * T)) (h2 : X + B * Y = c + d + x * e) (hP : P = K * Q) : Vs + P * (X - d) + P * B * Y = A + K * (x * (T + Q * e)) := by
 subst hP
 have h3 : K * Q * (X + B * Y) = K * Q * (c + d + x * e) := by rw [h2]
 grind
theorem aKU {a b B : Int} (ha : 0 ≤ a ∧ a < B) (hb : 0 ≤ b ∧ b < B) : 0 ≤ a * b ∧ a * b ≤ (B - 1) * (B - 1) := by
 refine ⟨yi ha.1 hb.1, ?_⟩
 have h1 : a * b ≤ a * (B - 1) := zE zc ha.1
 have h2 : a * (B - 1) ≤ (B - 1) * (B - 1) := zF zc zc
 omega
theorem anE {a b : List Int} (h1 : Dg 10000 a) (h2 : Dg 10000 b ∨ b = [10000]) (h3 : a.length ≤ 400000000000) (h4 : b.length ≤ 400000000000) {n : Nat} (hn : V 10000 a * V 10000 b = n) : abY (a, b, ()) = some (dig n, ()) := by
 unfold abY
 rw [if_pos ⟨h1, h2, h3, h4⟩]
 simp only [hn, zp]
theorem aCn (A D : List Int) (hda : Dg 10000 A) (hdb : Dg 10000 D) (la : A.length ≤ 400000000000) (lb : D.length ≤ 400000000000) : (afE A D).toO = some (dig (V 10000 A * V 10000 D).toNat, ()) := by
 have nb := aaT zc hdb
 have hw : w64 (len A + len D) = ((A.length + D.length : Nat) : Int) := by
  simp only [aaC]; rw [aaA (x := (A.length : Int) + D.length) zc]; omega
 unfold afE
 simp only [hw]
 refine uN zc ?_
 refine uO (0, List.replicate (A.length + D.length) 0, ()) ?_ ?_
 ·repeat refine za ?_
  simp (disch := omega) only [aaJ, aaA, aaP, aa0, abO, aaM, zu, zp, aaC, zt]
 have hBb : V 10000 D < 10000 ^ D.length := aLR zc hdb
 refine aaL (fun i => ∃ k : Nat, k ≤ A.length ∧ i.1 = (k : Int) ∧ i.2.1.length = A.length + D.length ∧ Dg 10000 i.2.1 ∧ V 10000 i.2.1 = V 10000 (A.take k) * V 10000 D) (fun i => ((A.length : Int) - i.1).toNat) (fun _ => (dig (V 10000 A * V 10000 D).toNat, ())) ?_ _ ⟨0, yg _, rfl, by simp, agV zc _, by simp [V, at7]⟩
 rintro ⟨i, s, u⟩ ⟨k, h1, h2, h3, h4, h5⟩
 simp only at h2 h3 h4 h5
 subst h2
 simp only [akY, aaM, hw]
 have ea := aa6 10000 A k
 have da := aa3 zc hda k
 rcases zr k A.length with hk | hk
 ·left
  have hs : V 10000 s < 10000 ^ (k + D.length) := by
   rw [h5, wi]
   have e1 := adP zc hda k
   have e2 := aaT zc (acI hda k)
   have e3 : V 10000 (A.take k) * V 10000 D ≤ V 10000 (A.take k) * 10000 ^ D.length := zE zc e2
   have e4 : V 10000 (A.take k) * 10000 ^ D.length < 10000 ^ k * 10000 ^ D.length := Int.mul_lt_mul_of_pos_right e1 (yG zc)
   omega
  have hz := amQ zc h4 hs
  obtain ⟨r, hin, s', rfl, q1, q2, q3⟩ : ∃ r : ((Int × List Int × Unit) ⊕ (List Int × Unit)), adG (fun i1 => (aeI A D ((k : Int), s, ()) i1).toO) (0, 0, s, ()) = some r ∧ ∃ s', r = Sum.inl (((k + 1 : Nat) : Int), s', ()) ∧ s'.length = A.length + D.length ∧ Dg 10000 s' ∧ V 10000 s' = V 10000 (A.take (k + 1)) * V 10000 D := by
   refine acT (fun j => ∃ q : Nat, q ≤ D.length ∧ j.1 = (q : Int) ∧ 0 ≤ j.2.1 ∧ j.2.1 < 10000 ∧ j.2.2.1.length = A.length + D.length ∧ Dg 10000 j.2.2.1 ∧ (∀ t, k + D.length ≤ t → j.2.2.1.getD t 0 = 0) ∧ V 10000 j.2.2.1 + 10000 ^ (k + q) * j.2.1 = V 10000 (A.take k) * V 10000 D + 10000 ^ k * (A.getD k 0 * V 10000 (D.take q))) (fun j => ((D.length : Int) - j.1).toNat) _ ?_ _ ⟨0, yg _, rfl, by simp, by simp, h3, h4, hz, by simp [V, h5]⟩
   rintro ⟨j, c, s1, u1⟩ ⟨q, g1, g2, g3, g4, g5, g6, g7, g8⟩
   simp only at g2 g3 g4 g5 g6 g7 g8
   subst g2
   have hkq : w64 ((k : Int) + q) = ((k + q : Nat) : Int) := by rw [aaA (x := (k : Int) + q) zc]; omega
   have hkl : w64 ((k : Int) + len D) = ((k + D.length : Nat) : Int) := by rw [aaC, aaA (x := (k : Int) + (D.length : Int)) zc]; omega
   simp only [aeI, aaM, hw, hkq, hkl, zp, zu]
   have eb := aa6 10000 D q
   have db := aa3 zc hdb q
   have ds := aa3 zc g6 (k + q)
   have hm := aKU da db
   rcases zr q D.length with hq | hq
   ·left
    have hsum : 0 ≤ c + s1.getD (k + q) 0 + A.getD k 0 * D.getD q 0 := zc
    have e1 := yl (c + s1.getD (k + q) 0 + A.getD k 0 * D.getD q 0) 10000
    have ww : w64 (w64 (c + s1.getD (k + q) 0) + w64 (A.getD k 0 * D.getD q 0)) = c + s1.getD (k + q) 0 + A.getD k 0 * D.getD q 0 := by
     rw [aaA (x := c + s1.getD (k + q) 0) zc, aaA (x := A.getD k 0 * D.getD q 0) zc, aaA zc]
    simp only [ww]
    have e2 : 0 ≤ (c + s1.getD (k + q) 0 + A.getD k 0 * D.getD q 0) % 10000 ∧ (c + s1.getD (k + q) 0 + A.getD k 0 * D.getD q 0) % 10000 < 10000 := zc
    have e3 : 0 ≤ (c + s1.getD (k + q) 0 + A.getD k 0 * D.getD q 0) / 10000 ∧ (c + s1.getD (k + q) 0 + A.getD k 0 * D.getD q 0) / 10000 < 10000 := zc
    refine ⟨(((q + 1 : Nat) : Int), (c + s1.getD (k + q) 0 + A.getD k 0 * D.getD q 0) / 10000, s1.set (k + q) ((c + s1.getD (k + q) 0 + A.getD k 0 * D.getD q 0) % 10000), ()), ?_, ⟨q + 1, by omega, rfl, e3.1, e3.2, by simp; omega, ajG g6 e2 _, ?_, ?_⟩, by simp only; omega⟩
    ·repeat refine za ?_
     rw [zz hsum, zL hsum, aaA (x := (q : Int) + 1) zc, aaA (x := (c + s1.getD (k + q) 0 + A.getD k 0 * D.getD q 0) / 10000) zc]
     rfl
    ·intro t ht
     rw [apL _ zc]; exact g7 t ht
    ·simp only
     rw [azL _ zc, eb, show k + (q + 1) = k + q + 1 by omega, zY]
     exact aLN _ _ _ _ _ _ _ _ _ _ _ _ _ g8 e1 (wi _ _ _)
   ·right
    have hqq : q = D.length := zc
    subst hqq
    rw [abM _ (zq _)] at g8
    refine ⟨.inl (((k + 1 : Nat) : Int), s1.set (k + D.length) c, ()), ?_, _, rfl, by simp; omega, ajG g6 ⟨g3, g4⟩ _, ?_⟩
    ·repeat refine za ?_
     rw [aaA (x := (k : Int) + 1) zc]
     rfl
    ·rw [azL _ zc, g7 _ zc, ea, wT]
     simp only [wJ]
     rw [g8]
     grind
  refine ⟨(((k + 1 : Nat) : Int), s', ()), ?_, ⟨k + 1, by omega, rfl, q1, q2, q3⟩, by simp only; omega, ze⟩
  refine uT sd ?_
  refine uO (0, 0, s, ()) ?_ ?_
  ·repeat refine za ?_
   rfl
  ·exact hin
 ·right
  have hkk : k = A.length := zc
  rw [hkk, abM _ (zq _)] at h5
  have hnn := aaT zc h4
  refine uF sd ?_
  refine uC (dig (V 10000 A * V 10000 D).toNat, ()) ?_ ?_
  ·rw [zx zh]
   exact agU h4 zc zc
  ·rfl
theorem aw3 (A : List Int) (hda : Dg 10000 A) (la : A.length ≤ 400000000000) : (afE A [10000]).toO = some (dig (V 10000 A * V 10000 [10000]).toNat, ()) := by
 have na := aaT zc hda
 have hV1 : V 10000 [10000] = 10000 := by simp [V]
 have hw : w64 (len A + len [(10000 : Int)]) = ((A.length + 1 : Nat) : Int) := by
  simp only [aaC, yr]; rw [aaA zc]; omega
 unfold afE
 simp only [hw]
 refine uN zc ?_
 refine uO (0, List.replicate (A.length + 1) 0, ()) ?_ ?_
 ·repeat refine za ?_
  simp (disch := omega) only [aaJ, aaA, aaP, aa0, abO, aaM, zu, zp, aaC, zt]
 refine aaL (fun i => ∃ k : Nat, k ≤ A.length ∧ i.1 = (k : Int) ∧ i.2.1 = ((0 :: A.take k) ++ List.replicate (A.length - k) 0)) (fun i => ((A.length : Int) - i.1).toNat) (fun _ => (dig (V 10000 A * V 10000 [10000]).toNat, ())) ?_ _ ⟨0, yg _, rfl, by simp [xm]⟩
 rintro ⟨i, s, u⟩ ⟨k, h1, h2, h3⟩
 simp only at h2 h3
 subst h2 h3
 simp only [akY, aaM, hw]
 have da := aa3 zc hda k
 rcases zr k A.length with hk | hk
 ·left
  have hrep : List.replicate (A.length - k) (0 : Int) = 0 :: List.replicate (A.length - (k + 1)) 0 := by
   rw [show A.length - k = (A.length - (k + 1)) + 1 by omega, xm]
  have hset : ((0 :: A.take k) ++ List.replicate (A.length - k) 0).set (k + 1) A[k] = ((0 :: A.take (k + 1)) ++ List.replicate (A.length - (k + 1)) 0) := by
   rw [hrep, List.set_append_right _ _ zh]
   have : k + 1 - (0 :: A.take k).length = 0 := zh
   rw [this, List.set_cons_zero]
   simp only [vw, zX hk, yT, xk]
  have hcur : 0 ≤ ((0 :: A.take k) ++ List.replicate (A.length - k) 0).getD k 0 ∧ ((0 :: A.take k) ++ List.replicate (A.length - k) 0).getD k 0 < 10000 := by
   refine aa3 zc (ae1 (aDF zc (acI hda k)) (agV zc _)) k
  have hlen : ((0 :: A.take k) ++ List.replicate (A.length - k) 0).length = A.length + 1 := zh
  generalize ((0 :: A.take k) ++ List.replicate (A.length - k) 0) = s at *
  generalize hd : s.getD k 0 = d at hcur
  have hg : A.getD k 0 = A[k] := by simp [hk]
  rw [hg] at da
  refine ⟨(((k + 1 : Nat) : Int), ((0 :: A.take (k + 1)) ++ List.replicate (A.length - (k + 1)) 0), ()), ?_, ⟨k + 1, by omega, rfl, rfl⟩, by simp only; omega, ze⟩
  refine uT sd ?_
  refine uO (0, 0, s, ()) ?_ ?_
  ·repeat refine za ?_
   rfl
  have hk0 : w64 ((k : Int) + 0) = ((k : Nat) : Int) := by rw [aaA zc]; omega
  have hkl : w64 ((k : Int) + len [(10000 : Int)]) = ((k + 1 : Nat) : Int) := by rw [aaC, yr, aaA zc]; omega
  have hsum : w64 (w64 (0 + d) + w64 (A[k] * 10000)) = d + A[k] * 10000 := by
   rw [aaA (x := 0 + d) zc, aaA (x := A[k] * 10000) zc, aaA zc]; omega
  have s1 : (aeI A [10000] ((k : Int), s, ()) (0, 0, s, ())).toO = some (.inl (1, A[k], s, ())) := by
   simp only [aeI, aaM, hw, hk0, zp, zu, hd, hg]
   have hgi : gi [(10000 : Int)] 0 0 = 10000 := rfl
   simp only [hgi, hsum]
   refine uT (by (try simp only [ym, yk, yF, xf, beq_eq_false_iff_ne, bne_eq_false_iff_eq, zT, yC]) <;> (try simp only [aaC, inb, inc, ge_iff_le, gt_iff_lt, zp, asT, ne_eq]) <;> simp) (uN sd (uN sd (uN (by (try simp only [aaC, inb, inc, ge_iff_le, gt_iff_lt, zp, asT, ne_eq]); simp) ?_)))
   repeat refine za ?_
   rw [zz zc, zL zc]
   have m1 : (d + A[k] * 10000) % 10000 = d := zc
   have m2 : (d + A[k] * 10000) / 10000 = A[k] := zc
   have m3 : s.set k d = s := by
    rw [← hd, ajN zc]
    exact List.set_getElem_self zc
   rw [m1, m2, m3, aaA (x := A[k]) zc]
   rfl
  rw [ac4 s1]
  refine acL ?_
  simp only [aeI, hw, hkl, zp, zu]
  refine uF (by (try simp only [ym, yk, yF, xf, beq_eq_false_iff_ne, bne_eq_false_iff_eq, zT, yC]) <;> (try simp only [aaC, inb, inc, ge_iff_le, gt_iff_lt, zp, asT, ne_eq]) <;> simp) (uN sd ?_)
  repeat refine za ?_
  rw [hset, aaA (x := (k : Int) + 1) zc]
  rfl
 ·right
  have hkk : k = A.length := zc
  subst hkk
  rw [Nat.sub_self, List.replicate_zero, wV, zt]
  refine uF sd ?_
  refine uC (dig (V 10000 A * V 10000 [10000]).toNat, ()) ?_ ?_
  ·rw [zx zi]
   refine agU (aDF zc hda) zh ?_
   rw [hV1]
   show 0 + 10000 * V 10000 A = _
   omega
  ·rfl
theorem aAi (A D : List Int) (y) (h : abY (A, D, ()) = some y) : (afE A D).toO = some y := by
 unfold abY at h
 split at h
 case isFalse => cases h
 case isTrue hp =>
 obtain ⟨hda, hdb, la, lb⟩ := hp
 dsimp only at hda hdb la lb h
 injection h with h
 subst h
 rcases hdb with hdb | rfl
 ·exact aCn A D hda hdb la lb
 ·exact aw3 A hda la
theorem aPL {a d : Nat} (h1 : (dig a).length ≤ 1000000000000) (h2 : 0 < d) (h3 : d < 10000) : arT (dig a, (d : Int), ()) = some (dig (a / d), ((a % d : Nat) : Int), ()) := by
 refine aaG (enc := fun p : Nat × Nat => (dig p.1, (p.2 : Int), ())) (a, d) ⟨h1, h2, h3⟩ (fun b hb => ?_)
 obtain ⟨e1, e2⟩ := Prod.mk.inj hb
 obtain ⟨e2, -⟩ := Prod.mk.inj e2
 exact Prod.ext (ayO e1) (Int.ofNat.inj e2)
theorem aLO (Vm Vq P d R m X Y B W : Int) (h : Vm = Vq * d + R) (h2 : Y + d * X = R * B + m) (hW : W = m + B * Vm) (hP : P = X + B * Vq) : W = P * d + Y := by
 subst hW hP h
 grind
theorem aGN (m : List Int) (d : Int) (y) (h : arT (m, d, ()) = some y) : (aw6 m d).toO = some y := by
 obtain ⟨⟨a, e⟩, hn, hx, rfl⟩ := aaD h
 obtain ⟨rfl, hx2⟩ := Prod.mk.inj hx; obtain ⟨rfl, -⟩ := Prod.mk.inj hx2; dsimp only
 obtain ⟨la, he, he2⟩ := hn
 simp only at la he he2
 have hda := adX a
 have hVa := aiF a
 unfold aw6
 refine uN sn ?_
 refine uO (((dig a).length : Int) - 1, 0, List.replicate (dig a).length 0, ()) ?_ ?_
 ·repeat refine za ?_
  simp only [aaC]
  rw [aaA (x := ((dig a).length : Int) - 1) zc]
  rfl
 refine aaL (fun i : Int × Int × List Int × Unit => ∃ k : Nat, k ≤ (dig a).length ∧ i.1 = (k : Int) - 1 ∧ 0 ≤ i.2.1 ∧ i.2.1 < e ∧ i.2.2.1.length = (dig a).length ∧ Dg 10000 i.2.2.1 ∧ V 10000 ((dig a).drop k) = V 10000 (i.2.2.1.drop k) * e + i.2.1) (fun i => (i.1 + 1).toNat) (fun _ => (dig (a / e), ((a % e : Nat) : Int), ())) ?_ _ ⟨_, zq _, rfl, by simp, by simp; omega, by simp, agV zc _, by rw [adB _ (zq _), adB _ zi]; simp⟩
 rintro ⟨i, r, q, u⟩ ⟨k, h1, h2, h3, h4, h5, h6, h7⟩
 simp only at h2 h3 h4 h5 h6 h7
 subst h2
 rcases zD k with h0 | h0
 ·subst h0
  right
  simp only [yN, hVa] at h7
  obtain ⟨v, hv⟩ := zv (aaT zc h6)
  obtain ⟨r', rfl⟩ := zv h3
  rw [hv] at h7
  have h8 : a = v * e + r' := by
   have : (a : Int) = ((v * e + r' : Nat) : Int) := by simpa using h7
   exact Int.ofNat.inj this
  have h9 : a / e = v := by rw [h8, xc, wK _ _ he, xb zc, zu]
  have h10 : a % e = r' := by rw [h8, xc, xX, yE zc]
  simp only [asV]
  refine uF sd ?_
  refine uC (dig v, ()) ?_ ?_
  ·rw [zx (by simp [len]; omega)]
   exact agU h6 zc hv
  ·rw [aaJ, h9, h10]
 ·left
  obtain ⟨j, rfl⟩ : ∃ j, k = j + 1 := ⟨k - 1, by omega⟩
  have e6 : ((j + 1 : Nat) : Int) - 1 = (j : Int) := zc
  rw [e6]
  simp only [asV, aaM]
  have e1 := aaU 10000 (dig a) j
  have e2 := aa3 zc hda j
  have g1 : 0 ≤ r * 10000 + (dig a).getD j 0 := zc
  have g0 : (0 : Int) < e := zc
  have g2 := yl (r * 10000 + (dig a).getD j 0) e
  have g3 := yO (r * 10000 + (dig a).getD j 0) (show (e : Int) ≠ 0 by omega)
  have g4 := yB (r * 10000 + (dig a).getD j 0) g0
  have g5 : 0 ≤ (r * 10000 + (dig a).getD j 0) / e := xD g1 zc
  have g6 : (r * 10000 + (dig a).getD j 0) / e < 10000 := by
   refine Int.ediv_lt_of_lt_mul g0 ?_
   have : (r + 1) * 10000 ≤ e * 10000 := zF zc zc
   omega
  have hw1 : w64 (w64 (r * 10000) + (dig a).getD j 0) = r * 10000 + (dig a).getD j 0 := by
   rw [aaA (x := r * 10000) zc, aaA zc]
  simp only [hw1]
  refine ⟨((j : Int) - 1, (r * 10000 + (dig a).getD j 0) % e, q.set j ((r * 10000 + (dig a).getD j 0) / e), ()), ?_, ⟨j, by omega, rfl, g3, g4, by simp; omega, ajG h6 ⟨g5, g6⟩ _, ?_⟩, by simp only; omega, ze⟩
  ·repeat refine za ?_
   rw [zz g1, zL g1]
   rw [aaA (x := (r * 10000 + (dig a).getD j 0) / e) zc]
   simp (disch := omega) only [aaJ, aaA, aaP, aa0, abO, aaM, zu, zp, aaC, zt]
  ·simp only
   refine aLO _ _ _ _ _ _ _ _ 10000 _ h7 g2 e1 ?_
   rw [aaU 10000 (q.set j _) j, apM zc, aiA _ zc]
set_option maxRecDepth 100000
open Go Go.Vg Go.Proofs
noncomputable section
def aKj : LTab := [(124, 7, 2048, ⟨0, (Int) × Unit, .dat (.s 3) ud <| .nil, [2, 0], [], 0⟩), (124, 31, 7168, ⟨1, (Bool) × Unit, .dat (.s 2) tK <| .nil, [3, 0], [], 0⟩), (124, 506, 9216, ⟨2, (Int) × Unit, .dat (.s 5) ud <| .nil, [3, 0], [], 0⟩)]
def axA (a : List UInt8) (j : Int × Unit) (j1 : Bool × Unit) (i : (Int) × Unit) : TT tJ :=
 .ite (decide (i.1 < len a))
 (.need (inb i.1 (len a)) <| .ite (decide ((↑(UInt8.toNat (gi a i.1 0)) : Int) < 48))
 (.ok (.inr ((false, ()))))
 (.need (inb i.1 (len a)) <| .ite (decide ((↑(UInt8.toNat (gi a i.1 0)) : Int) > 57))
 (.ok (.inr ((false, ()))))
 (.tt <| .lt (w64 (i.1 + 1) : Int) fun z => .vL (vO z j.1 a) <| .tr <| .ok (.inl ((z, ()))))))
 (.need (inb j.1 (len a)) <| .ite ((↑(UInt8.toNat (gi a j.1 0)) : Int) != 48)
 (.ok (.inr ((true, ()))))
 (.ok (.inr ((len a == 1, ())))))
def aGS (a : List UInt8) (j : Int × Unit) (j1 : (Bool) × Unit) : TT ux :=
 .loop 2 (.tt <| .vL (vO j.1 j.1 a) <| .tr <| .ok ((j.1, ()))) (axA a j j1)
def axB (a : List UInt8) (j : (Int) × Unit) : TT ux :=
 .join 1 (ι := (Bool) × Unit) (.ite (decide (w64 (len a - j.1) < 1))
 (.ok (.inr ((false, ()))))
 (.ite (decide (w64 (len a - j.1) > 600))
 (.ok (.inr ((false, ()))))
 (.tt <| .vL (vO false j.1 a) <| .tr <| .ok (.inl ((false, ())))))) (aGS a j)
def asY (a : List UInt8) : TT ux :=
 .join 0 (ι := (Int) × Unit) (.ite (decide (len a > 0))
 (.need (asT Int 0 ≤ 0 ∧ 0 < len a) <| .ite ((↑(UInt8.toNat (gi a 0 0)) : Int) == 45)
 (.tt <| .vL (vO (1 : Int) false a) <| .tr <| .ok (.inl ((1, ()))))
 (.tt <| .vL (vO (0 : Int) false a) <| .tr <| .ok (.inl ((0, ())))))
 (.tt <| .vL (vO (0 : Int) false a) <| .tr <| .ok (.inl ((0, ()))))) (axB a)
def aSf : LTab := [(38, 7, 2049, ⟨0, (Int) × Unit, .dat (.s 3) ud <| .nil, [2, 0], [0], 0⟩), (38, 250, 6146, ⟨1, (Int) × Bool × (List Int) × Unit, .dat (.s 5) ud <| .appN (.s 4) 6 3 ud <| .nil, [3, 2, 0], [0], 1⟩), (38, 64074, 16386, ⟨2, (Int) × (Int) × Unit, .dat (.s 7) ud <| .dat (.s 6) ud <| .nil, [21, 20, 19, 18, 15, 14, 13, 4, 5, 3, 2, 0], [0], 0⟩), (38, 64074, 16385, ⟨3, (Int) × (Int) × Unit, .dat (.s 7) ud <| .dat (.s 6) ud <| .nil, [21, 20, 19, 18, 15, 14, 13, 4, 5, 3, 2, 0], [6, 0], 0⟩)]
def aCq (a : List UInt8) (j : Int × Unit) (i : Int × Bool × List Int × Unit) (i1 : (Int) × (Int) × Unit) : TT (uz ⊕ (uJ ⊕ te)) :=
 .ite (decide (i1.1 < i.1))
 (.need (inb i1.1 (len a)) <| .tt <| .lt (w64 (i1.1 + 1) : Int) fun z1 => .lt (w64 (w64 (i1.2.1 * 10) + w64 (wu8 ((↑(UInt8.toNat (gi a i1.1 0)) : Int) - 48))) : Int) fun z2 => .vL (vV z2 z1 (if j.1 > w64 (i.1 - 4) then j.1 else w64 (i.1 - 4) : Int) j.1 (w64 (i.1 - 4)) i.1 (decide (i.1 > j.1)) j.1 <| vM i.1 <| True ∧ (vS i.1 j.1 <| ui ∧ vU a)) <| .vL sa <| .ok (.inl ((z1, z2, ()))))
 (.need (1 * 8 ≤ 140737488355328) <| .tt <| .lt (w64 (i.1 - 4) : Int) fun z3 => .lt ([i1.2.1] : List Int) fun z4 => .vL ((vQ 6 0 1 true) ∧ (vS z3 j.1 <| ui ∧ vU a)) <| .vL (vK (vP 3 z4) <| vK ut True) <| .ok (.inr (.inl ((z3, false, z4, ())))))
def aCp (a : List UInt8) (j : Int × Unit) (i : Int × Bool × List Int × Unit) (i2 : (Int) × (Int) × Unit) : TT (uz ⊕ (uJ ⊕ te)) :=
 .ite (decide (i2.1 < i.1))
 (.need (inb i2.1 (len a)) <| .tt <| .lt (w64 (i2.1 + 1) : Int) fun z6 => .lt (w64 (w64 (i2.2.1 * 10) + w64 (wu8 ((↑(UInt8.toNat (gi a i2.1 0)) : Int) - 48))) : Int) fun z7 => .vL (vV z7 z6 (if j.1 > w64 (i.1 - 4) then j.1 else w64 (i.1 - 4) : Int) j.1 (w64 (i.1 - 4)) i.1 (decide (i.1 > j.1)) j.1 <| vM i.1 <| (vQ 6 0 (List.length i.2.2.1) true) ∧ (vS i.1 j.1 <| ui ∧ vU a)) <| .vL (vK (vP 3 i.2.2.1) <| vK ut True) <| .ok (.inl ((z6, z7, ()))))
 (.need ((List.length i.2.2.1 + 1) * 8 ≤ 140737488355328) <| .tt <| .lt (w64 (i.1 - 4) : Int) fun z8 => .lt (List.take (List.length i.2.2.1) i.2.2.1 ++ [i2.2.1] : List Int) fun z9 => .need ((((6) = (6)) ∧ (((0) = (0)) ∧ ((List.length i.2.2.1 + 1 = List.length z9) ∧ ((true) = (true))))) ∧ ((z8 : Int) = z8) ∧ ((j.1 : Int) = j.1) ∧ (((0) = (0)) ∧ (((0) = (0)) ∧ ((true) = (true)))) ∧ ((a) = (a)) ∧ True) <| .vL (vK (vP 3 z9) <| vK ut True) <| .ok (.inr (.inl ((z8, false, z9, ())))))
def aqE (a : List UInt8) (j : Int × Unit) (i : (Int) × Bool × (List Int) × Unit) : TT (uJ ⊕ te) :=
 .ite (i.2.1)
 (.ite (decide (i.1 > j.1))
 (.loop 2 (.tt <| .lt (if j.1 > w64 (i.1 - 4) then j.1 else w64 (i.1 - 4) : Int) fun z => .vL (vV (0 : Int) z z j.1 (w64 (i.1 - 4)) i.1 (decide (i.1 > j.1)) j.1 <| vM i.1 <| True ∧ (vS i.1 j.1 <| ui ∧ vU a)) <| .vL sa <| .ok ((z, 0, ()))) (aCq a j i))
 (.call (abE (j.1 == 1, [], ())) agP fun y =>
 .ok (.inr (((y.1.1, y.1.2.1, ()), ())))))
 (.ite (decide (i.1 > j.1))
 (.loop 3 (.tt <| .lt (if j.1 > w64 (i.1 - 4) then j.1 else w64 (i.1 - 4) : Int) fun z5 => .vL (vV (0 : Int) z5 z5 j.1 (w64 (i.1 - 4)) i.1 (decide (i.1 > j.1)) j.1 <| vM i.1 <| (vQ 6 0 (List.length i.2.2.1) true) ∧ (vS i.1 j.1 <| ui ∧ vU a)) <| .vL (vK (vP 3 i.2.2.1) <| vK ut True) <| .ok ((z5, 0, ()))) (aCp a j i))
 (.call (abE (j.1 == 1, List.take (List.length i.2.2.1) i.2.2.1, ())) agP fun y1 =>
 .ok (.inr (((y1.1.1, y1.1.2.1, ()), ())))))
def aQs (a : List UInt8) (j : (Int) × Unit) : TT te :=
 .loop 1 (.tt <| .vL (True ∧ (vS (len a) j.1 <| ui ∧ vU a)) <| .vL sa <| .ok ((len a, true, [], ()))) (aqE a j)
def aGV (a : List UInt8) : TT te :=
 .join 0 (ι := (Int) × Unit) (.need (asT Int 0 ≤ 0 ∧ 0 < len a) <| .ite ((↑(UInt8.toNat (gi a 0 0)) : Int) == 45)
 (.tt <| .vL (vM (1 : Int) <| ui ∧ vU a) <| .vL sa <| .ok (.inl ((1, ()))))
 (.tt <| .vL (vM (0 : Int) <| ui ∧ vU a) <| .vL sa <| .ok (.inl ((0, ()))))) (aQs a)
def aKe : LTab := [(135, 2042, 45058, ⟨0, (Int) × (List Int) × (List Int) × Unit, .dat (.s 12) ud <| .dat (.s 11) tw <| .row 29 ud <| .nil, [10, 9, 8, 5, 4, 0, 1], [29], 0⟩), (135, 1045658, 60418, ⟨1, (Int) × (Int) × Unit, .dat (.s 14) ud <| .dat (.s 13) ud <| .nil, [83, 82, 11, 81, 80, 79, 77, 76, 75, 74, 71, 70, 12, 10, 9, 8, 5, 4, 0, 1], [29], 0⟩), (135, 2091324, 74754, ⟨2, (Int) × (Int) × Unit, .dat (.s 16) ud <| .dat (.s 15) ud <| .nil, [109, 108, 107, 106, 105, 104, 103, 102, 87, 86, 85, 84, 13, 14, 83, 82, 11, 81, 80, 79, 77, 76, 75, 74, 71, 70, 12, 10, 9, 8, 5, 4, 0, 1], [29], 0⟩)]
def aw4 (a : List Int) (b : List Int) (i : Int × List Int × List Int × Unit) (y2 : List Int × Unit) (i1 : Int × Int × Unit) (i2 : (Int) × (Int) × Unit) : TT (uz ⊕ (uz ⊕ un)) :=
 .ite (decide (w64 (i2.1 - i2.2.1) > 1))
 (.triv (asT Int 2 ≠ 0) zf <| .call (abY (b, [w64 (Int.tdiv (w64 (i2.2.1 + i2.1)) 2)], ())) aF9 fun y3 =>
 .call (ac1 (y3.1, ())) aF9 fun y4 =>
 .call (agF (y4.1, y2.1, ())) Dd6 fun y5 =>
 .ite (decide (y5.1 ≤ 0))
 (.tt <| .lt (w64 (Int.tdiv (w64 (i2.2.1 + i2.1)) 2) : Int) fun z10 => .vL (vV z10 i2.1 (w64 (w64 (Int.tdiv i1.2.1 (w64 (w64 (gi b (w64 (len b - 1)) 0 * 10000) + gi b (w64 (w64 (len b - 1) - 1)) 0))) + 1) : Int) (w64 (Int.tdiv i1.2.1 (w64 (w64 (gi b (w64 (len b - 1)) 0 * 10000) + gi b (w64 (w64 (len b - 1) - 1)) 0))) : Int) (w64 (w64 (gi b (w64 (len b - 1)) 0 * 10000) + gi b (w64 (w64 (len b - 1) - 1)) 0) : Int) i1.2.1 (w64 (Int.tdiv i1.2.1 (w64 (w64 (w64 (gi b (w64 (len b - 1)) 0 * 10000) + gi b (w64 (w64 (len b - 1) - 1)) 0) + 1))) : Int) (w64 (w64 (w64 (gi b (w64 (len b - 1)) 0 * 10000) + gi b (w64 (w64 (len b - 1) - 1)) 0) + 1) : Int) <| vV (w64 (w64 (gi b (w64 (len b - 1)) 0 * 10000) + gi b (w64 (w64 (len b - 1) - 1)) 0) : Int) i1.2.1 (decide (i1.1 ≥ w64 (w64 (len b - 1) - 1))) (w64 (w64 (len b - 1) - 1)) (w64 (len b - 1)) i1.1 i1.2.1 i1.1 <| vV (w64 (w64 (len b - 1) + 1)) (w64 (len b - 1)) y2.1 y2.1 (List.take (1 + List.length i.2.1) ([gi a i.1 0] ++ i.2.1)) i.2.1 (gi a i.1 0) (gi a i.1 0) <| vR i.1 a (decide (i.1 ≥ 0)) i.1 i.1 <| (vQ 29 0 (Int.toNat (w64 (len a - w64 (len b - 1)))) true) ∧ (vS (w64 (w64 (gi b (w64 (len b - 1)) 0 * 10000) + gi b (w64 (w64 (len b - 1) - 1)) 0) : Int) (w64 (len b - 1)) <| True ∧ True ∧ vX a b)) <| .vL (vK (vP 3 i.2.2.1) True) <| .ok (.inl ((i2.1, z10, ()))))
 (.tt <| .lt (w64 (Int.tdiv (w64 (i2.2.1 + i2.1)) 2) : Int) fun z11 => .lt (i2.2.1 : Int) fun z12 => .vL (vV z12 z11 (w64 (w64 (Int.tdiv i1.2.1 (w64 (w64 (gi b (w64 (len b - 1)) 0 * 10000) + gi b (w64 (w64 (len b - 1) - 1)) 0))) + 1) : Int) (w64 (Int.tdiv i1.2.1 (w64 (w64 (gi b (w64 (len b - 1)) 0 * 10000) + gi b (w64 (w64 (len b - 1) - 1)) 0))) : Int) (w64 (w64 (gi b (w64 (len b - 1)) 0 * 10000) + gi b (w64 (w64 (len b - 1) - 1)) 0) : Int) i1.2.1 (w64 (Int.tdiv i1.2.1 (w64 (w64 (w64 (gi b (w64 (len b - 1)) 0 * 10000) + gi b (w64 (w64 (len b - 1) - 1)) 0) + 1))) : Int) (w64 (w64 (w64 (gi b (w64 (len b - 1)) 0 * 10000) + gi b (w64 (w64 (len b - 1) - 1)) 0) + 1) : Int) <| vV (w64 (w64 (gi b (w64 (len b - 1)) 0 * 10000) + gi b (w64 (w64 (len b - 1) - 1)) 0) : Int) i1.2.1 (decide (i1.1 ≥ w64 (w64 (len b - 1) - 1))) (w64 (w64 (len b - 1) - 1)) (w64 (len b - 1)) i1.1 i1.2.1 i1.1 <| vV (w64 (w64 (len b - 1) + 1)) (w64 (len b - 1)) y2.1 y2.1 (List.take (1 + List.length i.2.1) ([gi a i.1 0] ++ i.2.1)) i.2.1 (gi a i.1 0) (gi a i.1 0) <| vR i.1 a (decide (i.1 ≥ 0)) i.1 i.1 <| (vQ 29 0 (Int.toNat (w64 (len a - w64 (len b - 1)))) true) ∧ (vS (w64 (w64 (gi b (w64 (len b - 1)) 0 * 10000) + gi b (w64 (w64 (len b - 1) - 1)) 0) : Int) (w64 (len b - 1)) <| True ∧ True ∧ vX a b)) <| .vL (vK (vP 3 i.2.2.1) True) <| .ok (.inl ((z11, z12, ())))))
 (.need (inb i.1 (↑(Int.toNat (w64 (len a - w64 (len b - 1)))) : Int)) <| .call (abY (b, [i2.2.1], ())) aF9 fun y6 =>
 .call (abF (y2.1, y6.1, ())) aF9 fun y7 =>
 .tt <| .lt (w64 (i.1 - 1) : Int) fun z13 => .lt (List.set i.2.2.1 (0 + Int.toNat i.1) i2.2.1 : List Int) fun z14 => .vL (vS y7.1 z13 <| (vQ 29 0 (Int.toNat (w64 (len a - w64 (len b - 1)))) true) ∧ (vS (w64 (w64 (gi b (w64 (len b - 1)) 0 * 10000) + gi b (w64 (w64 (len b - 1) - 1)) 0) : Int) (w64 (len b - 1)) <| True ∧ True ∧ vX a b)) <| .vL (vK (vP 3 z14) True) <| .ok (.inr (.inr (.inl ((z13, y7.1, z14, ()))))))
def ae4 (a : List Int) (b : List Int) (i : Int × List Int × List Int × Unit) (y2 : List Int × Unit) (i1 : (Int) × (Int) × Unit) : TT (uz ⊕ un) :=
 .ite (decide (i1.1 ≥ w64 (w64 (len b - 1) - 1)))
 (.ite (decide (i1.1 < len y2.1))
 (.need (inb i1.1 (len y2.1)) <| .tt <| .lt (w64 (i1.1 - 1) : Int) fun z4 => .lt (w64 (w64 (i1.2.1 * 10000) + gi y2.1 i1.1 0) : Int) fun z5 => .vL (vV z5 z4 (w64 (w64 (len b - 1) + 1)) (w64 (len b - 1)) y2.1 y2.1 (List.take (1 + List.length i.2.1) ([gi a i.1 0] ++ i.2.1)) i.2.1 <| vY (gi a i.1 0) (gi a i.1 0) i.1 a (decide (i.1 ≥ 0)) i.1 i.1 <| (vQ 29 0 (Int.toNat (w64 (len a - w64 (len b - 1)))) true) ∧ (vS (w64 (w64 (gi b (w64 (len b - 1)) 0 * 10000) + gi b (w64 (w64 (len b - 1) - 1)) 0) : Int) (w64 (len b - 1)) <| True ∧ True ∧ vX a b)) <| .vL (vK (vP 3 i.2.2.1) True) <| .ok (.inl ((z4, z5, ()))))
 (.tt <| .lt (w64 (i1.1 - 1) : Int) fun z6 => .lt (w64 (i1.2.1 * 10000) : Int) fun z7 => .vL (vV z7 z6 (w64 (w64 (len b - 1) + 1)) (w64 (len b - 1)) y2.1 y2.1 (List.take (1 + List.length i.2.1) ([gi a i.1 0] ++ i.2.1)) i.2.1 <| vY (gi a i.1 0) (gi a i.1 0) i.1 a (decide (i.1 ≥ 0)) i.1 i.1 <| (vQ 29 0 (Int.toNat (w64 (len a - w64 (len b - 1)))) true) ∧ (vS (w64 (w64 (gi b (w64 (len b - 1)) 0 * 10000) + gi b (w64 (w64 (len b - 1) - 1)) 0) : Int) (w64 (len b - 1)) <| True ∧ True ∧ vX a b)) <| .vL (vK (vP 3 i.2.2.1) True) <| .ok (.inl ((z6, z7, ())))))
 (.need (w64 (w64 (w64 (gi b (w64 (len b - 1)) 0 * 10000) + gi b (w64 (w64 (len b - 1) - 1)) 0) + 1) ≠ 0) <| .need (w64 (w64 (gi b (w64 (len b - 1)) 0 * 10000) + gi b (w64 (w64 (len b - 1) - 1)) 0) ≠ 0) <| .loop 2 (.tt <| .lt (w64 (w64 (Int.tdiv i1.2.1 (w64 (w64 (gi b (w64 (len b - 1)) 0 * 10000) + gi b (w64 (w64 (len b - 1) - 1)) 0))) + 1) : Int) fun z8 => .lt (w64 (Int.tdiv i1.2.1 (w64 (w64 (w64 (gi b (w64 (len b - 1)) 0 * 10000) + gi b (w64 (w64 (len b - 1) - 1)) 0) + 1))) : Int) fun z9 => .vL (vV z9 z8 z8 (w64 (Int.tdiv i1.2.1 (w64 (w64 (gi b (w64 (len b - 1)) 0 * 10000) + gi b (w64 (w64 (len b - 1) - 1)) 0))) : Int) (w64 (w64 (gi b (w64 (len b - 1)) 0 * 10000) + gi b (w64 (w64 (len b - 1) - 1)) 0) : Int) i1.2.1 z9 (w64 (w64 (w64 (gi b (w64 (len b - 1)) 0 * 10000) + gi b (w64 (w64 (len b - 1) - 1)) 0) + 1) : Int) <| vV (w64 (w64 (gi b (w64 (len b - 1)) 0 * 10000) + gi b (w64 (w64 (len b - 1) - 1)) 0) : Int) i1.2.1 (decide (i1.1 ≥ w64 (w64 (len b - 1) - 1))) (w64 (w64 (len b - 1) - 1)) (w64 (len b - 1)) i1.1 i1.2.1 i1.1 <| vV (w64 (w64 (len b - 1) + 1)) (w64 (len b - 1)) y2.1 y2.1 (List.take (1 + List.length i.2.1) ([gi a i.1 0] ++ i.2.1)) i.2.1 (gi a i.1 0) (gi a i.1 0) <| vR i.1 a (decide (i.1 ≥ 0)) i.1 i.1 <| (vQ 29 0 (Int.toNat (w64 (len a - w64 (len b - 1)))) true) ∧ (vS (w64 (w64 (gi b (w64 (len b - 1)) 0 * 10000) + gi b (w64 (w64 (len b - 1) - 1)) 0) : Int) (w64 (len b - 1)) <| True ∧ True ∧ vX a b)) <| .vL (vK (vP 3 i.2.2.1) True) <| .ok ((z8, z9, ()))) (aw4 a b i y2 i1))
def apD (a : List Int) (b : List Int) (i : (Int) × (List Int) × (List Int) × Unit) : TT un :=
 .ite (decide (i.1 ≥ 0))
 (.need (inb i.1 (len a)) <| .need ((1 + List.length i.2.1) * 8 ≤ 140737488355328) <| .call (ac1 (List.take (1 + List.length i.2.1) ([gi a i.1 0] ++ i.2.1), ())) aF9 fun y2 =>
 .loop 1 (.tt <| .lt (w64 (w64 (len b - 1) + 1) : Int) fun z3 => .vL (vV (0 : Int) z3 z3 (w64 (len b - 1)) y2.1 y2.1 (List.take (1 + List.length i.2.1) ([gi a i.1 0] ++ i.2.1)) i.2.1 <| vY (gi a i.1 0) (gi a i.1 0) i.1 a (decide (i.1 ≥ 0)) i.1 i.1 <| (vQ 29 0 (Int.toNat (w64 (len a - w64 (len b - 1)))) true) ∧ (vS (w64 (w64 (gi b (w64 (len b - 1)) 0 * 10000) + gi b (w64 (w64 (len b - 1) - 1)) 0) : Int) (w64 (len b - 1)) <| True ∧ True ∧ vX a b)) <| .vL (vK (vP 3 i.2.2.1) True) <| .ok ((z3, 0, ()))) (ae4 a b i y2))
 (.call (ac1 (List.take (Int.toNat (w64 (len a - w64 (len b - 1)))) i.2.2.1, ())) aF9 fun y8 =>
 .ok (.inr ((y8.1, i.2.1, ()))))
def asS (a : List Int) (b : List Int) : TT (List Int × List Int × Unit) :=
 .ite (len b == 1)
 (.need (asT Int 0 ≤ 0 ∧ 0 < len b) <| .call (arT (a, gi b 0 0, ())) aUm fun y =>
 .call (ac1 ([y.2.1], ())) aF9 fun y1 =>
 .ok ((y.1, y1.1, ())))
 (.ite (decide (len a ≤ w64 (len b - 1)))
 (.need ((0 + List.length a) * 8 ≤ 140737488355328) <| .ok (([], List.take (0 + List.length a) (List.take 0 [] ++ a), ())))
 (.need (inb (w64 (len b - 1)) (len b)) <| .need (inb (w64 (w64 (len b - 1) - 1)) (len b)) <| .need (0 ≤ w64 (len a - w64 (len b - 1)) ∧ w64 (len a - w64 (len b - 1)) ≤ w64 (len a - w64 (len b - 1)) ∧ w64 (len a - w64 (len b - 1)) * (↑8 : Int) ≤ 140737488355328) <| .need (inc (w64 (len a - w64 (len b - 1))) (len a)) <| .need ((0 + List.length (List.take (List.length a - Int.toNat (w64 (len a - w64 (len b - 1)))) (List.drop (Int.toNat (w64 (len a - w64 (len b - 1)))) a))) * 8 ≤ 140737488355328) <| .loop 0 (.tt <| .lt (w64 ((↑(Int.toNat (w64 (len a - w64 (len b - 1)))) : Int) - 1) : Int) fun z => .lt (List.take (0 + List.length (List.take (List.length a - Int.toNat (w64 (len a - w64 (len b - 1)))) (List.drop (Int.toNat (w64 (len a - w64 (len b - 1)))) a))) (List.take 0 [] ++ List.take (List.length a - Int.toNat (w64 (len a - w64 (len b - 1)))) (List.drop (Int.toNat (w64 (len a - w64 (len b - 1)))) a)) : List Int) fun z1 => .lt (List.replicate (Int.toNat (w64 (len a - w64 (len b - 1)))) 0 : List Int) fun z2 => .vL (vS z1 z <| (vQ 29 0 (Int.toNat (w64 (len a - w64 (len b - 1)))) true) ∧ (vS (w64 (w64 (gi b (w64 (len b - 1)) 0 * 10000) + gi b (w64 (w64 (len b - 1) - 1)) 0) : Int) (w64 (len b - 1)) <| True ∧ True ∧ vX a b)) <| .vL (vK (vP 3 z2) True) <| .ok ((z, z1, z2, ()))) (apD a b)))
def aM9 : LTab := []
def aEr (a : Bool × List Int × Unit) : TT te :=
 .call (abE (!a.1, a.2.1, ())) agP fun y =>
 .ok (((y.1.1, y.1.2.1, ()), ()))
def aNb : LTab := []
def axD (a : Bool × List Int × Unit) (b : Bool × List Int × Unit) : TT te :=
 .ite (a.1 == b.1)
 (.call (awA (a.2.1, b.2.1, ())) aF9 fun y =>
 .call (abE (a.1, y.1, ())) agP fun y1 =>
 .ok (((y1.1.1, y1.1.2.1, ()), ())))
 (.call (agF (a.2.1, b.2.1, ())) Dd6 fun y2 =>
 .ite (decide (y2.1 ≥ 0))
 (.call (abF (a.2.1, b.2.1, ())) aF9 fun y3 =>
 .call (abE (a.1, y3.1, ())) agP fun y4 =>
 .ok (((y4.1.1, y4.1.2.1, ()), ())))
 (.call (abF (b.2.1, a.2.1, ())) aF9 fun y5 =>
 .call (abE (b.1, y5.1, ())) agP fun y6 =>
 .ok (((y6.1.1, y6.1.2.1, ()), ()))))
def aKn : LTab := []
def aA0 (a : Bool × List Int × Unit) (b : Bool × List Int × Unit) : TT te :=
 .call (aiJ ((b.1, b.2.1, ()), ())) agP fun y =>
 .call (aeZ ((a.1, a.2.1, ()), y.1, ())) agP fun y1 =>
 .ok (((y1.1.1, y1.1.2.1, ()), ()))
def aKi : LTab := []
def aAX (a : Bool × List Int × Unit) (b : Bool × List Int × Unit) : TT te :=
 .call (abY (a.2.1, b.2.1, ())) aF9 fun y =>
 .call (abE (!a.1 == b.1, y.1, ())) agP fun y1 =>
 .ok (((y1.1.1, y1.1.2.1, ()), ()))
def aKk : LTab := []
def asZ (a : Bool × List Int × Unit) (b : Bool × List Int × Unit) : TT (ug × ug × Unit) :=
 .call (akH (a.2.1, b.2.1, ())) aUf fun y =>
 .call (abE (!a.1 == b.1, y.1, ())) agP fun y1 =>
 .call (abE (a.1, y.2.1, ())) agP fun y2 =>
 .ite (y2.1.1)
 (.call (aeZ ((y2.1.1, y2.1.2.1, ()), (false, b.2.1, ()), ())) agP fun y3 =>
 .ite (b.1)
 (.call (aa4 (1, ())) agP fun y4 =>
 .call (aeZ ((y1.1.1, y1.1.2.1, ()), y4.1, ())) agP fun y5 =>
 .ok (((y5.1.1, y5.1.2.1, ()), (y3.1.1, y3.1.2.1, ()), ())))
 (.call (aa4 (1, ())) agP fun y6 =>
 .call (akI ((y1.1.1, y1.1.2.1, ()), y6.1, ())) agP fun y7 =>
 .ok (((y7.1.1, y7.1.2.1, ()), (y3.1.1, y3.1.2.1, ()), ()))))
 (.ok (((y1.1.1, y1.1.2.1, ()), (y2.1.1, y2.1.2.1, ()), ())))
def aKm : LTab := []
def aAZ (a : Bool × List Int × Unit) (b : Bool × List Int × Unit) : TT uA :=
 .call (akI ((a.1, a.2.1, ()), (b.1, b.2.1, ()), ())) agP fun y =>
 .ite (y.1.1)
 (.ok ((-1, ())))
 (.ite (decide (len y.1.2.1 > 0))
 (.ok ((1, ())))
 (.ok ((0, ()))))
def aEy : LTab := [(86, 28, 9217, ⟨0, (List Int) × (List Int) × Unit, .dat (.s 6) tw <| .dat (.s 5) tw <| .nil, [4], [2, 1, 0], 0⟩)]
def aqF (a : Bool × List Int × Unit) (b : Bool × List Int × Unit) (i : (List Int) × (List Int) × Unit) : TT (tl ⊕ te) :=
 .ite (decide (len i.1 > 0))
 (.call (akH (i.2.1, i.1, ())) aUf fun y =>
 .tt <| .lt (y.2.1 : List Int) fun z2 => .vL (vS i.1 z2 <| uw ∧ True) <| .vL (vK ut <| vK (vO 83 b.1 b.2.1) <| vK (vO 83 a.1 a.2.1) True) <| .ok (.inl ((z2, i.1, ()))))
 (.ok (.inr (((false, i.2.1, ()), ()))))
def auP (a : Bool × List Int × Unit) (b : Bool × List Int × Unit) : TT te :=
 .loop 0 (.tt <| .lt (b.2.1 : List Int) fun z => .lt (a.2.1 : List Int) fun z1 => .vL (vS z1 z <| uw ∧ True) <| .vL (vK ut <| vK (vO 83 b.1 z) <| vK (vO 83 a.1 z1) True) <| .ok ((z, z1, ()))) (aqF a b)
def aGT : LTab := [(83, 58, 5121, ⟨0, (Int) × (Bool) × (List Int) × Unit, .dat (.s 6) ud <| .dat (.c 3 0) tK <| .dat (.c 3 1) tw <| .nil, [5, 4, 2, 1], [3, 1, 0], 0⟩)]
def auN (a : Bool × List Int × Unit) (n : Int) (y : ug × Unit) (i : (Int) × (Bool) × (List Int) × Unit) : TT (tG ⊕ te) :=
 .ite (decide (i.1 < n))
 (.call (abJ ((i.2.1, i.2.2.1, ()), (a.1, a.2.1, ()), ())) agP fun y1 =>
 .tt <| .lt (w64 (i.1 + 1) : Int) fun z2 => .lt (y1.1.1 : Bool) fun z3 => .lt (y1.1.2.1 : List Int) fun z4 => .vL (vM z2 <| ur ∧ um ∧ ui ∧ vU n) <| .vL (vK (vO 83 z3 z4) <| vK ut <| vK (vO 83 a.1 a.2.1) True) <| .ok (.inl ((z2, z3, z4, ()))))
 (.ok (.inr (((i.2.1, i.2.2.1, ()), ()))))
def axC (a : Bool × List Int × Unit) (n : Int) : TT te :=
 .call (aa4 (1, ())) agP fun y =>
 .loop 0 (.tt <| .lt (y.1.1 : Bool) fun z => .lt (y.1.2.1 : List Int) fun z1 => .vL (vM (0 : Int) <| ur ∧ um ∧ ui ∧ vU n) <| .vL (vK (vO 83 z z1) <| vK ut <| vK (vO 83 a.1 a.2.1) True) <| .ok ((0, z, z1, ()))) (auN a n y)
end
theorem ak0 {p q : Int × Int} (h : (pl p.1, pl p.2, ()) = (pl q.1, pl q.2, ())) : p = q := by
 obtain ⟨h1, h2⟩ := Prod.mk.inj h
 obtain ⟨h2, -⟩ := Prod.mk.inj h2
 exact Prod.ext (auQ h1) (auQ h2)
theorem aBA {p q : Nat × Nat} (h : (dig p.1, dig p.2, ()) = (dig q.1, dig q.2, ())) : p = q := by
 obtain ⟨h1, h2⟩ := Prod.mk.inj h
 obtain ⟨h2, -⟩ := Prod.mk.inj h2
 exact Prod.ext (ayO h1) (ayO h2)
theorem aOo {n : Nat} (h : n < 10000) : isD (aAq n) := by
 intro c hc
 simp only [aAq, zy, List.not_mem_nil, or_false] at hc
 rcases hc with rfl | rfl | rfl | rfl <;> rw [av7 zc] <;> omega
theorem aOn {n : Nat} (h : n < 10000) : num (aAq n) = n := by
 have e : ∀ a b c d : Nat, a < 10 → b < 10 → c < 10 → d < 10 → num [UInt8.ofNat (48 + a), UInt8.ofNat (48 + b), UInt8.ofNat (48 + c), UInt8.ofNat (48 + d)] = ((a * 10 + b) * 10 + c) * 10 + d := by
  intro a b c d ha hb hc hd
  unfold num
  rw [ag2, ag2, ag2, ag2, aBy ha, aBy hb, aBy hc, aBy hd]
  simp [az7]
 unfold aAq
 rw [e _ _ _ _ zc zc zc zc]
 omega
theorem aQN {s : List UInt8} {k : Nat} (h : ∀ c ∈ s.take k, c = 48) : num s = num (s.drop k) := by
 have h1 : ∀ l : List UInt8, (∀ c ∈ l, c = 48) → num l = 0 := by
  intro l
  induction l using aGr with
  | nil => intro _; rfl
  | snoc l c ih =>
   intro h
   rw [anV, ih (fun d hd => h d (vE _ hd)), h c zi]
   rfl
 conv => lhs; rw [← xw k s]
 rw [anX, h1 _ h]
 omega
theorem aSX {n : Nat} (h : Bd 6 n) : (dig n).length ≤ 13000000000 := by
 have h2 := aBB (k := 1000000 * 4 ^ 6) h
 omega
theorem aF0 {z : Int} (h : Bd 6 z.natAbs) : am7 (pl z, ()) = some (dec z, ()) := aaG (enc := fun x : Int => (pl x, ())) z h (fun b hb => auQ (Prod.mk.inj hb).1)
theorem aGR (x : PlT) (y) (h : am7 (x, ()) = some y) : (aw9 x).toO = some y := by
 obtain ⟨z, hp, hx, rfl⟩ := aaD h
 obtain ⟨rfl, -⟩ := Prod.mk.inj hx
 have hl := aSX hp
 have hd := adX z.natAbs
 have hV := aiF z.natAbs
 clear h hx
 unfold aw9
 dsimp only
 refine uO (((dig z.natAbs).length : Int) - 1, [], ()) ?_ ?_
 ·repeat refine za ?_
  rw [aaJ, aaC, aaA zc]
 refine aaL (fun i : Int × List UInt8 × Unit => ∃ k : Nat, k ≤ (dig z.natAbs).length ∧ i.1 = (k : Int) - 1 ∧ isD i.2.1 ∧ i.2.1.length = 4 * ((dig z.natAbs).length - k) ∧ (num i.2.1 : Int) = V 10000 ((dig z.natAbs).drop k)) (fun i => (i.1 + 1).toNat) (fun _ => (dec z, ())) ?_ _ ⟨_, zq _, rfl, (show isD [] from fun c hc => by cases hc), by simp, by rw [adB _ (zq _)]; rfl⟩
 rintro ⟨i, s, u⟩ ⟨k, h1, h2, h3, h4, h5⟩
 dsimp only at h2 h3 h4 h5
 subst h2
 cases k with
 | succ j =>
  left
  have e6 : ((j + 1 : Nat) : Int) - 1 = (j : Int) := zc
  have dj := aa3 zc hd j
  obtain ⟨m, hm⟩ := zv dj.1
  have hm2 : m < 10000 := zc
  rw [e6]
  refine ⟨((j : Int) - 1, s ++ aAq m, ()), ?_, ⟨j, by omega, rfl, ?_, ?_, ?_⟩, by dsimp only; omega, ze⟩
  ·simp only [asX, aaM, hm]
   refine uT sd (uN sd (uC _ (aPM hm2) (uN ?_ ?_)))
   ·have : (aAq m).length = 4 := rfl
    dsimp only
    rw [this, h4]
    unfold lim; omega
   ·repeat refine za ?_
    rw [aaJ, aaA (x := (j : Int) - 1) zc]
  ·exact isD_append.2 ⟨h3, aOo hm2⟩
  ·have : (aAq m).length = 4 := rfl
   simp only [zH, this, h4]; omega
  ·dsimp only
   rw [anX, aOn hm2, aaU, hm, ← h5]
   have : (aAq m).length = 4 := rfl
   rw [this]
   simp; omega
 | zero =>
  right
  rw [yN, hV] at h5
  have h5' : num s = z.natAbs := Int.ofNat.inj h5
  simp only [asX]
  refine uF sd (uO (0, ()) rfl ?_)
  refine aaL (fun i : Int × Unit => ∃ q : Nat, q ≤ s.length ∧ i = ((q : Int), ()) ∧ ∀ c ∈ s.take q, c = 48) (fun i => ((s.length : Int) - i.1).toNat) (fun _ => (.inr (dec z, ()) : (Int × List UInt8 × Unit) ⊕ (List UInt8 × Unit))) ?_ _ ⟨0, by omega, rfl, by simp⟩
  rintro i ⟨q, g1, rfl, g2⟩
  have hlead := aQN g2
  have hsl : s.length ≤ 60000000000 := zc
  have hdd : isD (s.drop q) := aqW h3 q
  have htk : List.take (s.length - q) (s.drop q) = s.drop q := zx zi
  have fin : ∀ (w : TT (uA ⊕ ((Int × List UInt8 × Unit) ⊕ uM))), (q = s.length ∨ (s.drop q).head? ≠ some 48) → (TT.ite (s.drop q == #[].toList) (TT.ok (.inr (.inr (#[48].toList, ())))) (TT.ite (decide (z < 0)) (TT.need (List.length #[(45 : UInt8)].toList + List.length (s.drop q) ≤ lim) (TT.ok (.inr (.inr (#[45].toList ++ s.drop q, ()))))) (TT.ok (.inr (.inr (s.drop q, ())))) : TT (uA ⊕ ((Int × List UInt8 × Unit) ⊕ uM)))).toO = some (.inr (.inr (dec z, ()))) := by
   intro _ hq
   by_cases c0 : s.drop q = []
   ·refine uT (by rw [c0]; rfl) ?_
    rw [c0] at hlead
    have : z.natAbs = 0 := by rw [← h5', hlead]; rfl
    have hz : z = 0 := zc
    subst hz
    rw [abZ zc, wA, abL zc]; rfl
   ·refine uF (by rw [beq_eq_false_iff_ne]; exact c0) ?_
    have hu : s.drop q = aa2 z.natAbs := by
     have := aFw hdd c0 (by
      rcases hq with hq | hq
      ·exact absurd (by rw [hq]; simp) c0
      ·exact Or.inl hq)
     rw [this, ← hlead, h5']
    by_cases cz : z < 0
    ·refine uT (zo cz) (uN ?_ ?_)
     ·show 1 + (s.drop q).length ≤ lim
      rw [yA]; unfold lim; omega
     ·rw [hu, aiB cz]; rfl
    ·refine uF (zn cz) ?_
     rw [hu, abZ zc]; rfl
  unfold aAY akZ
  simp only [aaM, zp, htk]
  rcases zr q s.length with hq | hq
  ·have e1 : s.getD q 0 = s[q] := by simp [hq]
   rw [e1]
   by_cases c : s[q] = 48
   ·left
    refine ⟨(((q + 1 : Nat) : Int), ()), ?_, ⟨q + 1, by omega, rfl, ?_⟩, by dsimp only; omega, ze⟩
    ·refine uT sd (uN sd (uT (by rw [c]; rfl) ?_))
     repeat refine za ?_
     rw [aaJ, aaA (x := (q : Int) + 1) zc]; rfl
    ·intro c' hc'
     rw [zX hq] at hc'
     rcases zJ.1 hc' with hc' | hc'
     ·exact g2 c' hc'
     ·rw [zZ.1 hc', c]
   ·right
    refine uT sd (uN sd (uF ?_ (uN sd ?_)))
    ·rw [beq_eq_false_iff_ne]
     intro h
     exact c (UInt8.toNat_inj.1 (Int.ofNat.inj h))
    ·refine fin TT.bad (Or.inr ?_)
     rw [yu hq, wZ]
     exact fun h => c (Option.some.inj h)
  ·right
   refine uF sd (uN sd ?_)
   exact fin TT.bad (Or.inl zc)
theorem aDy {z : Int} (h : Bd 6 z.natAbs) : ajA (pl z, ()) = some (wrW z) := aaG (enc := fun x : Int => (pl x, ())) z h (fun b hb => auQ (Prod.mk.inj hb).1)
theorem aKl (x : PlT) (y) (h : ajA (x, ()) = some y) : (aIJ x).toO = some y := by
 obtain ⟨z, hp, hx, rfl⟩ := aaD h
 obtain ⟨rfl, -⟩ := Prod.mk.inj hx
 refine uC _ (aF0 hp) ?_
 dsimp only
 have hl : (aa2 z.natAbs).length ≤ 90000000000 := by
  have := ajR (k := 1000000 * 4 ^ 6) hp
  omega
 by_cases c : z < 0
 ·refine uT (zo c) ?_
  have e : w64 (len (dec z) - 1) = ((aa2 z.natAbs).length : Int) := by
   rw [aiB c, aaC, zG, aaA zc]; omega
  rw [e]
  by_cases f : Fit z
  ·rw [ajH f]
   have f' : (aa2 z.natAbs).length ≤ 600 := f
   exact uF sd rfl
  ·rw [asF f]
   have f' : ¬ (aa2 z.natAbs).length ≤ 600 := f
   exact uT sd rfl
 ·refine uF (zn c) ?_
  have e : len (dec z) = ((aa2 z.natAbs).length : Int) := by rw [abZ zc]; rfl
  rw [e]
  by_cases f : Fit z
  ·rw [ajH f]
   have f' : (aa2 z.natAbs).length ≤ 600 := f
   exact uF sd rfl
  ·rw [asF f]
   have f' : ¬ (aa2 z.natAbs).length ≤ 600 := f
   exact uT sd rfl
theorem acA {n : Int} (h : abA n) : aa4 (n, ()) = some (pl n, ()) := by unfold aa4; rw [if_pos h]
theorem aQ2 {l : List Int} {x w v N : Int} (h : V 10000 l + 10000 ^ l.length * w = N) (hx : x + 10000 * v = w) : V 10000 (l ++ [x]) + 10000 ^ (l.length + 1) * v = N := by
 rw [aeK, aAz, zY, ← h]
 have : (10000 : Int) ^ l.length * (x + 10000 * v) = 10000 ^ l.length * w := by rw [hx]
 grind
theorem aAj (n : Int) (y) (h : aa4 (n, ()) = some y) : (auO n).toO = some y := by
 unfold aa4 at h
 split at h
 case isFalse => cases h
 case isTrue hn =>
 injection h with h
 subst h
 obtain ⟨n0, n1⟩ := hn
 dsimp only at n0 n1
 refine uO (true, [], n, ()) rfl ?_
 refine aaL (fun i : Bool × List Int × Int × Unit => Dg 10000 i.2.1 ∧ i.2.2.1.natAbs ≤ n.natAbs ∧ V 10000 i.2.1 + 10000 ^ i.2.1.length * i.2.2.1.natAbs = n.natAbs ∧ (i.1 = true → i.2.1 = []) ∧ (i.2.2.1 = 0 → Cn i.2.1) ∧ i.2.1.length ≤ 6 ∧ i.2.2.1.natAbs < 10000 ^ (6 - i.2.1.length)) (fun i => i.2.2.1.natAbs) (fun _ => (pl n, ())) ?_ _ ⟨avH _, zq _, by simp [V], fun _ => rfl, fun _ => avI, by simp, by simp; omega⟩
 rintro ⟨f, l, v, u⟩ ⟨g1, g2, g3, g4, g5, g6, g7⟩
 dsimp only at g1 g2 g3 g4 g5 g6 g7
 by_cases hv : v = 0
 ·right
  subst hv
  have hm : abE (decide (n < 0), l, ()) = some (pl n, ()) := azY g1 zc (by simp at g3; omega) (Or.inr rfl)
  cases f with
  | true =>
   obtain rfl := g4 rfl
   unfold afN
   exact uT rfl (uF rfl (uC _ hm rfl))
  | false =>
   unfold afN
   dsimp only
   rw [zt]
   exact uF rfl (uF rfl (uC _ hm rfl))
 ·left
  have hl6 : l.length ≤ 5 := by
   rcases zr 5 l.length with h | h
   ·have : l.length = 6 := zc
    rw [this] at g7; simp at g7; omega
   ·exact h
  have td : (Int.tdiv v 10000).natAbs = v.natAbs / 10000 := by rw [Int.natAbs_tdiv]; rfl
  have tm : (Int.tmod v 10000).natAbs = v.natAbs % 10000 := by rw [vJ]; rfl
  have hx : ((v.natAbs % 10000 : Nat) : Int) + 10000 * ((v.natAbs / 10000 : Nat) : Int) = v.natAbs := zc
  have wd : w64 (Int.tdiv v 10000) = Int.tdiv v 10000 := aaA zc
  have wm : w64 (0 - Int.tmod v 10000) = 0 - Int.tmod v 10000 := aaA zc
  have inv : Dg 10000 (l ++ [((v.natAbs % 10000 : Nat) : Int)]) ∧ (Int.tdiv v 10000).natAbs ≤ n.natAbs ∧ V 10000 (l ++ [((v.natAbs % 10000 : Nat) : Int)]) + 10000 ^ (l ++ [((v.natAbs % 10000 : Nat) : Int)]).length * ((Int.tdiv v 10000).natAbs : Int) = n.natAbs ∧ (false = true → (l ++ [((v.natAbs % 10000 : Nat) : Int)]) = []) ∧ (Int.tdiv v 10000 = 0 → Cn (l ++ [((v.natAbs % 10000 : Nat) : Int)])) ∧ (l ++ [((v.natAbs % 10000 : Nat) : Int)]).length ≤ 6 ∧ (Int.tdiv v 10000).natAbs < 10000 ^ (6 - (l ++ [((v.natAbs % 10000 : Nat) : Int)]).length) := by
   refine ⟨ae1 g1 (anK zc zc), by omega, ?_, by simp, ?_, by simp; omega, ?_⟩
   ·rw [zH, yr, td]
    exact aQ2 g3 hx
   ·intro hz
    unfold Cn
    simp only [List.getLast?_concat, ne_eq, Option.some.injEq]
    omega
   ·rw [zH, yr, td, yL zc]
    have h9 : 10000 ^ (6 - l.length) = 10000 ^ (6 - (l.length + 1)) * 10000 := by
     rw [← yz]; congr 1; omega
    omega
  refine ⟨(false, l ++ [((v.natAbs % 10000 : Nat) : Int)], Int.tdiv v 10000, ()), ?_, inv, by dsimp only; omega, ze⟩
  cases f with
  | true =>
   obtain rfl := g4 rfl
   simp only [afN, wd, wm]
   by_cases c : Int.tmod v 10000 < 0
   ·refine uT rfl (uT (by simpa using hv) (uV (uT (zo c) ?_)))
    repeat refine za ?_
    rw [aaJ, show 0 - Int.tmod v 10000 = ((v.natAbs % 10000 : Nat) : Int) by omega]; rfl
   ·refine uT rfl (uT (by simpa using hv) (uV (uF (zn c) ?_)))
    repeat refine za ?_
    rw [aaJ, show Int.tmod v 10000 = ((v.natAbs % 10000 : Nat) : Int) by omega]; rfl
  | false =>
   simp only [afN, wd, wm, zt]
   by_cases c : Int.tmod v 10000 < 0
   ·refine uF rfl (uT (by simpa using hv) (uV (uT (zo c) ?_)))
    repeat refine za ?_
    rw [aaJ, show 0 - Int.tmod v 10000 = ((v.natAbs % 10000 : Nat) : Int) by omega]
   ·refine uF rfl (uT (by simpa using hv) (uV (uF (zn c) ?_)))
    repeat refine za ?_
    rw [aaJ, show Int.tmod v 10000 = ((v.natAbs % 10000 : Nat) : Int) by omega]
end Go.Vs
