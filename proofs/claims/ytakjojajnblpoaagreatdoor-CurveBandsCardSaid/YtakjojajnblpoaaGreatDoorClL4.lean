/-
  Trees of what the functions compute, and their laws. Own work; no condition.
-/
import Derived.Test.YtakjojajnblpoaaGreatDoorClL3
import Derived.Test.YtakjojajnblpoaaGreatDoorProg
set_option linter.unusedVariables false
set_option linter.unusedSimpArgs false
set_option maxRecDepth 100000
namespace Go.Vs
open Go Go.Vg Go.Proofs
noncomputable section
def aSu : LTab := [(130, 28, 4097, ⟨0, (Int) × Unit, .dat (.s 3) uq <| .nil, [2, 0], [], 0⟩)]
def aF8 (d : List Int) (i : (Int) × Unit) : TT (uY ⊕ uG) :=
 .ite (decide (i.1 > 0))
 (.need (inb (w64 (i.1 - 1)) (len d)) <| .ite (gi d (w64 (i.1 - 1)) 0 == 0)
 (.tt <| .lt (w64 (i.1 - 1) : Int) fun z => .vW (vX z <| True ∧ uf d) <| .tr <| .ok (.inl ((z, ()))))
 (.need (inc i.1 (len d)) <| .ok (.inr ((List.take (Int.toNat i.1) d, ())))))
 (.need (inc i.1 (len d)) <| .ok (.inr ((List.take (Int.toNat i.1) d, ()))))
def aKO (d : List Int) : TT uG :=
 .loop 0 (.tt <| .vW (vX (len d) <| True ∧ uf d) <| .tr <| .ok ((len d, ()))) (aF8 d)
def aPi : LTab := []
def aF7 (below : Bool) (d : List Int) : TT tq :=
 .call (ac3 (d, ())) aH3 fun y =>
 .ite (below)
 (.ok (((decide (len y.1 > 0), y.1, ()), ())))
 (.ok (((false, y.1, ()), ())))
def aGf : LTab := [(40, 60, 5122, ⟨0, Bool × (List Int) × (Int) × Unit, .appN (.s 3) 5 3 uq <| .dat (.s 0) uq <| .nil, [4, 2], [0], 1⟩)]
def af7 (n : Int) (i : Bool × (List Int) × (Int) × Unit) : TT ((Bool × (List Int) × (Int) × Unit) ⊕ tq) :=
 .ite (i.1)
 (.ite (i.2.2.1 != 0)
 (.triv (asT Int 10000 ≠ 0) zf <| .ite (decide (Int.tmod i.2.2.1 10000 < 0))
 (.need (1 * 8 ≤ 140737488355328) <| .triv (asT Int 10000 ≠ 0) zf <| .tt <| .lt ([w64 (0 - Int.tmod i.2.2.1 10000)] : List Int) fun z => .lt (w64 (Int.tdiv i.2.2.1 10000) : Int) fun z1 => .vW (vX z1 <| sy ∧ (vX (decide (n < 0)) <| ux ∧ True)) <| .vW (vV (ua 3 z) <| vV uJ True) <| .ok (.inl ((false, z, z1, ()))))
 (.need (1 * 8 ≤ 140737488355328) <| .triv (asT Int 10000 ≠ 0) zf <| .tt <| .lt ([Int.tmod i.2.2.1 10000] : List Int) fun z2 => .lt (w64 (Int.tdiv i.2.2.1 10000) : Int) fun z3 => .vW (vX z3 <| sy ∧ (vX (decide (n < 0)) <| ux ∧ True)) <| .vW (vV (ua 3 z2) <| vV uJ True) <| .ok (.inl ((false, z2, z3, ())))))
 (.call (abP (decide (n < 0), [], ())) ah8 fun y =>
 .ok (.inr (((y.1.1, y.1.2.1, ()), ())))))
 (.ite (i.2.2.1 != 0)
 (.triv (asT Int 10000 ≠ 0) zf <| .ite (decide (Int.tmod i.2.2.1 10000 < 0))
 (.need ((List.length i.2.1 + 1) * 8 ≤ 140737488355328) <| .triv (asT Int 10000 ≠ 0) zf <| .tt <| .lt (List.take (List.length i.2.1) i.2.1 ++ [w64 (0 - Int.tmod i.2.2.1 10000)] : List Int) fun z4 => .lt (w64 (Int.tdiv i.2.2.1 10000) : Int) fun z5 => .need (((z5 : Int) = z5) ∧ (((5) = (5)) ∧ (((0) = (0)) ∧ ((List.length i.2.1 + 1 = List.length z4) ∧ ((true) = (true))))) ∧ ((decide (n < 0)) = (decide (n < 0))) ∧ (((0) = (0)) ∧ (((0) = (0)) ∧ ((true) = (true)))) ∧ True) <| .vW (vV (ua 3 z4) <| vV uJ True) <| .ok (.inl ((false, z4, z5, ()))))
 (.need ((List.length i.2.1 + 1) * 8 ≤ 140737488355328) <| .triv (asT Int 10000 ≠ 0) zf <| .tt <| .lt (List.take (List.length i.2.1) i.2.1 ++ [Int.tmod i.2.2.1 10000] : List Int) fun z6 => .lt (w64 (Int.tdiv i.2.2.1 10000) : Int) fun z7 => .need (((z7 : Int) = z7) ∧ (((5) = (5)) ∧ (((0) = (0)) ∧ ((List.length i.2.1 + 1 = List.length z6) ∧ ((true) = (true))))) ∧ ((decide (n < 0)) = (decide (n < 0))) ∧ (((0) = (0)) ∧ (((0) = (0)) ∧ ((true) = (true)))) ∧ True) <| .vW (vV (ua 3 z6) <| vV uJ True) <| .ok (.inl ((false, z6, z7, ())))))
 (.call (abP (decide (n < 0), List.take (List.length i.2.1) i.2.1, ())) ah8 fun y1 =>
 .ok (.inr (((y1.1.1, y1.1.2.1, ()), ())))))
def awI (n : Int) : TT tq :=
 .loop 0 (.tt <| .vW (vX n <| True ∧ (vX (decide (n < 0)) <| ux ∧ True)) <| .vW sB <| .ok ((true, [], n, ()))) (af7 n)
def aPj : LTab := []
def ay8 (n : Int) : TT tl :=
 .triv (asT Int 1000 ≠ 0) zf <| .triv (asT Int 100 ≠ 0) zf <| .triv (asT Int 10 ≠ 0) zf <| .triv (asT Int 10 ≠ 0) zf <| .triv (asT Int 10 ≠ 0) zf <| .triv (asT Int 10 ≠ 0) zf <| .ok ((List.map (fun n => UInt8.ofNat (Int.toNat n)) (List.take 4 [wu8 (w64 (48 + w64 (Int.tdiv n 1000))), wu8 (w64 (48 + Int.tmod (w64 (Int.tdiv n 100)) 10)), wu8 (w64 (48 + Int.tmod (w64 (Int.tdiv n 10)) 10)), wu8 (w64 (48 + Int.tmod n 10))]), ()))
def aPl : LTab := [(125, 58, 8192, ⟨0, (Int) × (List UInt8) × Unit, .dat (.s 4) uq <| .dat (.s 3) sD <| .nil, [2, 1], [0], 0⟩), (125, 124, 11264, ⟨1, (Int) × Unit, .dat (.s 5) uq <| .nil, [3, 2, 1], [0], 0⟩)]
def al2 (i1 : (Int) × Unit) (i : Int × List UInt8 × Unit) (a : Bool × List Int × Unit) : TT (uY ⊕ tR) :=
 .need (inc i1.1 (len i.2.1)) <| .ite (List.take (List.length i.2.1 - Int.toNat i1.1) (List.drop (Int.toNat i1.1) i.2.1) == #[].toList)
 (.ok (.inr (.inr ((#[48].toList, ())))))
 (.ite (a.1)
 (.need (List.length #[45].toList + List.length (List.take (List.length i.2.1 - Int.toNat i1.1) (List.drop (Int.toNat i1.1) i.2.1)) ≤ lim) <| .ok (.inr (.inr ((#[45].toList ++ List.take (List.length i.2.1 - Int.toNat i1.1) (List.drop (Int.toNat i1.1) i.2.1), ())))))
 (.ok (.inr (.inr ((List.take (List.length i.2.1 - Int.toNat i1.1) (List.drop (Int.toNat i1.1) i.2.1), ()))))))
def aCk (a : Bool × List Int × Unit) (i : Int × List UInt8 × Unit) (i1 : (Int) × Unit) : TT (uY ⊕ tR) :=
 .ite (decide (i1.1 < len i.2.1))
 (.need (inb i1.1 (len i.2.1)) <| .ite ((↑(UInt8.toNat (gi i.2.1 i1.1 0)) : Int) == 48)
  (.tt <| .lt (w64 (i1.1 + 1) : Int) fun z3 => .vW (uh z3 i.2.1 (#[].toList : List UInt8) <| ux ∧ True) <| .vW (vV (vZ 83 a.1 a.2.1) True) <| .ok (.inl ((z3, ()))))
  (al2 i1 i a))
 (al2 i1 i a)
def auS (a : Bool × List Int × Unit) (i : (Int) × (List UInt8) × Unit) : TT tR :=
 .ite (decide (i.1 ≥ 0))
 (.need (inb i.1 (len a.2.1)) <| .call (atH (gi a.2.1 i.1 0, ())) Dd2 fun y =>
 .need (List.length i.2.1 + List.length y.1 ≤ lim) <| .tt <| .lt (w64 (i.1 - 1) : Int) fun z1 => .lt (i.2.1 ++ y.1 : List UInt8) fun z2 => .vW (uh z2 z1 (#[].toList : List UInt8) <| ux ∧ True) <| .vW (vV (vZ 83 a.1 a.2.1) True) <| .ok (.inl ((z1, z2, ()))))
 (.loop 1 (.tt <| .vW (uh (0 : Int) i.2.1 (#[].toList : List UInt8) <| ux ∧ True) <| .vW (vV (vZ 83 a.1 a.2.1) True) <| .ok ((0, ()))) (aCk a i))
def azA (a : Bool × List Int × Unit) : TT tl :=
 .loop 0 (.tt <| .lt (w64 (len a.2.1 - 1) : Int) fun z => .vW (uh (#[].toList : List UInt8) z (#[].toList : List UInt8) <| ux ∧ True) <| .vW (vV (vZ 83 a.1 a.2.1) True) <| .ok ((z, #[].toList, ()))) (auS a)
def aSv : LTab := []
def aKP (a : Bool × List Int × Unit) : TT tz :=
 .call (aoQ ((a.1, a.2.1, ()), ())) Dd2 fun y =>
 .ite (a.1)
 (.ite (decide (w64 (len y.1 - 1) > 600))
 (.ok ((#[].toList, 6, ())))
 (.ok ((y.1, 0, ()))))
 (.ite (decide (len y.1 > 600))
 (.ok ((#[].toList, 6, ())))
 (.ok ((y.1, 0, ()))))
def aMr : LTab := [(132, 58, 10240, ⟨0, (Int) × Unit, .dat (.s 5) uq <| .nil, [0, 1], [], 0⟩)]
def ay6 (a : List Int) (b : List Int) (i : (Int) × Unit) : TT (uY ⊕ uS) :=
 .ite (decide (i.1 ≥ 0))
 (.need (inb i.1 (len a)) <| .need (inb i.1 (len b)) <| .ite (gi a i.1 0 != gi b i.1 0)
 (.need (inb i.1 (len a)) <| .need (inb i.1 (len b)) <| .ok (.inr ((w64 (gi a i.1 0 - gi b i.1 0), ()))))
 (.tt <| .lt (w64 (i.1 - 1) : Int) fun z1 => .vW (vZ z1 a b) <| .tr <| .ok (.inl ((z1, ())))))
 (.ok (.inr ((0, ()))))
def auP (a : List Int) (b : List Int) : TT uS :=
 .ite (len a != len b)
 (.ok ((w64 (len a - len b), ())))
 (.loop 0 (.tt <| .lt (w64 (len a - 1) : Int) fun z => .vW (vZ z a b) <| .tr <| .ok ((z, ()))) (ay6 a b))
def aSt : LTab := [(131, 122, 4098, ⟨0, (Int) × (Int) × Bool × (List Int) × Unit, .dat (.s 7) uq <| .dat (.s 6) uq <| .appN (.s 5) 4 3 uq <| .nil, [4, 0, 1], [], 1⟩)]
def aeG (i : (Int) × (Int) × Bool × (List Int) × Unit) (a : List Int) (b : List Int) : TT tu :=
 .ite (decide (i.1 < len a))
 (.need (inb i.1 (len a)) <| .ite (decide (i.1 < len b))
 (.need (inb i.1 (len b)) <| .triv (asT Int 10000 ≠ 0) zf <| .need ((List.length i.2.2.2.1 + 1) * 8 ≤ 140737488355328) <| .triv (asT Int 10000 ≠ 0) zf <| .tt <| .lt (w64 (i.1 + 1) : Int) fun z36 => .lt (w64 (Int.tdiv (w64 (w64 (i.2.1 + gi a i.1 0) + gi b i.1 0)) 10000) : Int) fun z37 => .lt (List.take (List.length i.2.2.2.1) i.2.2.2.1 ++ [Int.tmod (w64 (w64 (i.2.1 + gi a i.1 0) + gi b i.1 0)) 10000] : List Int) fun z38 => .need ((((4) = (4)) ∧ (((0) = (0)) ∧ ((List.length i.2.2.2.1 + 1 = List.length z38) ∧ ((true) = (true))))) ∧ ((z37 : Int) = z37) ∧ ((z36 : Int) = z36) ∧ True ∧ ((a) = (a)) ∧ ((b) = (b)) ∧ True) <| .vW (vV (ua 3 z38) True) <| .ok (.inl ((z36, z37, false, z38, ()))))
 (.triv (asT Int 10000 ≠ 0) zf <| .need ((List.length i.2.2.2.1 + 1) * 8 ≤ 140737488355328) <| .triv (asT Int 10000 ≠ 0) zf <| .tt <| .lt (w64 (i.1 + 1) : Int) fun z39 => .lt (w64 (Int.tdiv (w64 (i.2.1 + gi a i.1 0)) 10000) : Int) fun z40 => .lt (List.take (List.length i.2.2.2.1) i.2.2.2.1 ++ [Int.tmod (w64 (i.2.1 + gi a i.1 0)) 10000] : List Int) fun z41 => .need ((((4) = (4)) ∧ (((0) = (0)) ∧ ((List.length i.2.2.2.1 + 1 = List.length z41) ∧ ((true) = (true))))) ∧ ((z40 : Int) = z40) ∧ ((z39 : Int) = z39) ∧ True ∧ ((a) = (a)) ∧ ((b) = (b)) ∧ True) <| .vW (vV (ua 3 z41) True) <| .ok (.inl ((z39, z40, false, z41, ())))))
 (.ite (decide (i.1 < len b))
 (.need (inb i.1 (len b)) <| .triv (asT Int 10000 ≠ 0) zf <| .need ((List.length i.2.2.2.1 + 1) * 8 ≤ 140737488355328) <| .triv (asT Int 10000 ≠ 0) zf <| .tt <| .lt (w64 (i.1 + 1) : Int) fun z42 => .lt (w64 (Int.tdiv (w64 (i.2.1 + gi b i.1 0)) 10000) : Int) fun z43 => .lt (List.take (List.length i.2.2.2.1) i.2.2.2.1 ++ [Int.tmod (w64 (i.2.1 + gi b i.1 0)) 10000] : List Int) fun z44 => .need ((((4) = (4)) ∧ (((0) = (0)) ∧ ((List.length i.2.2.2.1 + 1 = List.length z44) ∧ ((true) = (true))))) ∧ ((z43 : Int) = z43) ∧ ((z42 : Int) = z42) ∧ True ∧ ((a) = (a)) ∧ ((b) = (b)) ∧ True) <| .vW (vV (ua 3 z44) True) <| .ok (.inl ((z42, z43, false, z44, ()))))
 (.triv (asT Int 10000 ≠ 0) zf <| .need ((List.length i.2.2.2.1 + 1) * 8 ≤ 140737488355328) <| .triv (asT Int 10000 ≠ 0) zf <| .tt <| .lt (w64 (i.1 + 1) : Int) fun z45 => .lt (w64 (Int.tdiv i.2.1 10000) : Int) fun z46 => .lt (List.take (List.length i.2.2.2.1) i.2.2.2.1 ++ [Int.tmod i.2.1 10000] : List Int) fun z47 => .need ((((4) = (4)) ∧ (((0) = (0)) ∧ ((List.length i.2.2.2.1 + 1 = List.length z47) ∧ ((true) = (true))))) ∧ ((z46 : Int) = z46) ∧ ((z45 : Int) = z45) ∧ True ∧ ((a) = (a)) ∧ ((b) = (b)) ∧ True) <| .vW (vV (ua 3 z47) True) <| .ok (.inl ((z45, z46, false, z47, ())))))
def aeF (i : (Int) × (Int) × Bool × (List Int) × Unit) (a : List Int) (b : List Int) : TT tu :=
 .ite (decide (i.1 < len a))
 (.need (inb i.1 (len a)) <| .ite (decide (i.1 < len b))
 (.need (inb i.1 (len b)) <| .triv (asT Int 10000 ≠ 0) zf <| .need (1 * 8 ≤ 140737488355328) <| .triv (asT Int 10000 ≠ 0) zf <| .tt <| .lt (w64 (i.1 + 1) : Int) fun z => .lt (w64 (Int.tdiv (w64 (w64 (i.2.1 + gi a i.1 0) + gi b i.1 0)) 10000) : Int) fun z1 => .lt ([Int.tmod (w64 (w64 (i.2.1 + gi a i.1 0) + gi b i.1 0)) 10000] : List Int) fun z2 => .vW (tK ∧ (ud z1 z <| True ∧ ui a b)) <| .vW (vV (ua 3 z2) True) <| .ok (.inl ((z, z1, false, z2, ()))))
 (.triv (asT Int 10000 ≠ 0) zf <| .need (1 * 8 ≤ 140737488355328) <| .triv (asT Int 10000 ≠ 0) zf <| .tt <| .lt (w64 (i.1 + 1) : Int) fun z3 => .lt (w64 (Int.tdiv (w64 (i.2.1 + gi a i.1 0)) 10000) : Int) fun z4 => .lt ([Int.tmod (w64 (i.2.1 + gi a i.1 0)) 10000] : List Int) fun z5 => .vW (tK ∧ (ud z4 z3 <| True ∧ ui a b)) <| .vW (vV (ua 3 z5) True) <| .ok (.inl ((z3, z4, false, z5, ())))))
 (.ite (decide (i.1 < len b))
 (.need (inb i.1 (len b)) <| .triv (asT Int 10000 ≠ 0) zf <| .need (1 * 8 ≤ 140737488355328) <| .triv (asT Int 10000 ≠ 0) zf <| .tt <| .lt (w64 (i.1 + 1) : Int) fun z6 => .lt (w64 (Int.tdiv (w64 (i.2.1 + gi b i.1 0)) 10000) : Int) fun z7 => .lt ([Int.tmod (w64 (i.2.1 + gi b i.1 0)) 10000] : List Int) fun z8 => .vW (tK ∧ (ud z7 z6 <| True ∧ ui a b)) <| .vW (vV (ua 3 z8) True) <| .ok (.inl ((z6, z7, false, z8, ()))))
 (.triv (asT Int 10000 ≠ 0) zf <| .need (1 * 8 ≤ 140737488355328) <| .triv (asT Int 10000 ≠ 0) zf <| .tt <| .lt (w64 (i.1 + 1) : Int) fun z9 => .lt (w64 (Int.tdiv i.2.1 10000) : Int) fun z10 => .lt ([Int.tmod i.2.1 10000] : List Int) fun z11 => .vW (tK ∧ (ud z10 z9 <| True ∧ ui a b)) <| .vW (vV (ua 3 z11) True) <| .ok (.inl ((z9, z10, false, z11, ())))))
def anS (a : List Int) (b : List Int) (i : (Int) × (Int) × Bool × (List Int) × Unit) : TT tu :=
 .ite (i.2.2.1)
 (.ite (decide (i.1 < len a))
  (aeF i a b)
  (.ite (decide (i.1 < len b))
   (aeF i a b)
   (.ite (decide (i.2.1 > 0))
    (aeF i a b)
    (.ok (.inr (([], ())))))))
 (.ite (decide (i.1 < len a))
  (aeG i a b)
  (.ite (decide (i.1 < len b))
   (aeG i a b)
   (.ite (decide (i.2.1 > 0))
    (aeG i a b)
    (.ok (.inr ((List.take (List.length i.2.2.2.1) i.2.2.2.1, ())))))))
def aKN (a : List Int) (b : List Int) : TT uG :=
 .loop 0 (.tt <| .vW (True ∧ (ud (0 : Int) (0 : Int) <| True ∧ ui a b)) <| .tr <| .ok ((0, 0, true, [], ()))) (anS a b)
def ay9 : LTab := [(133, 122, 4098, ⟨0, (Int) × (Int) × Bool × (List Int) × Unit, .dat (.s 7) uq <| .dat (.s 6) uq <| .appN (.s 5) 4 3 uq <| .nil, [4, 0, 1], [], 1⟩)]
def ab6 (a : List Int) (b : List Int) (i : (Int) × (Int) × Bool × (List Int) × Unit) : TT tu :=
 .ite (i.2.2.1)
 (.ite (decide (i.1 < len a))
 (.need (inb i.1 (len a)) <| .ite (decide (i.1 < len b))
 (.need (inb i.1 (len b)) <| .ite (decide (w64 (w64 (gi a i.1 0 - i.2.1) - gi b i.1 0) < 0))
 (.need (1 * 8 ≤ 140737488355328) <| .tt <| .lt (w64 (i.1 + 1) : Int) fun z => .lt ([w64 (w64 (w64 (gi a i.1 0 - i.2.1) - gi b i.1 0) + 10000)] : List Int) fun z1 => .vW (tK ∧ (ud (1 : Int) z <| True ∧ ui a b)) <| .vW (vV (ua 3 z1) True) <| .ok (.inl ((z, 1, false, z1, ()))))
 (.need (1 * 8 ≤ 140737488355328) <| .tt <| .lt (w64 (i.1 + 1) : Int) fun z2 => .lt ([w64 (w64 (gi a i.1 0 - i.2.1) - gi b i.1 0)] : List Int) fun z3 => .vW (tK ∧ (ud (0 : Int) z2 <| True ∧ ui a b)) <| .vW (vV (ua 3 z3) True) <| .ok (.inl ((z2, 0, false, z3, ())))))
 (.ite (decide (w64 (gi a i.1 0 - i.2.1) < 0))
 (.need (1 * 8 ≤ 140737488355328) <| .tt <| .lt (w64 (i.1 + 1) : Int) fun z4 => .lt ([w64 (w64 (gi a i.1 0 - i.2.1) + 10000)] : List Int) fun z5 => .vW (tK ∧ (ud (1 : Int) z4 <| True ∧ ui a b)) <| .vW (vV (ua 3 z5) True) <| .ok (.inl ((z4, 1, false, z5, ()))))
 (.need (1 * 8 ≤ 140737488355328) <| .tt <| .lt (w64 (i.1 + 1) : Int) fun z6 => .lt ([w64 (gi a i.1 0 - i.2.1)] : List Int) fun z7 => .vW (tK ∧ (ud (0 : Int) z6 <| True ∧ ui a b)) <| .vW (vV (ua 3 z7) True) <| .ok (.inl ((z6, 0, false, z7, ()))))))
 (.call (ac3 ([], ())) aH3 fun y =>
 .ok (.inr ((y.1, ())))))
 (.ite (decide (i.1 < len a))
 (.need (inb i.1 (len a)) <| .ite (decide (i.1 < len b))
 (.need (inb i.1 (len b)) <| .ite (decide (w64 (w64 (gi a i.1 0 - i.2.1) - gi b i.1 0) < 0))
 (.need ((List.length i.2.2.2.1 + 1) * 8 ≤ 140737488355328) <| .tt <| .lt (w64 (i.1 + 1) : Int) fun z8 => .lt (List.take (List.length i.2.2.2.1) i.2.2.2.1 ++ [w64 (w64 (w64 (gi a i.1 0 - i.2.1) - gi b i.1 0) + 10000)] : List Int) fun z9 => .need ((((4) = (4)) ∧ (((0) = (0)) ∧ ((List.length i.2.2.2.1 + 1 = List.length z9) ∧ ((true) = (true))))) ∧ ((1 : Int) = 1) ∧ ((z8 : Int) = z8) ∧ True ∧ ((a) = (a)) ∧ ((b) = (b)) ∧ True) <| .vW (vV (ua 3 z9) True) <| .ok (.inl ((z8, 1, false, z9, ()))))
 (.need ((List.length i.2.2.2.1 + 1) * 8 ≤ 140737488355328) <| .tt <| .lt (w64 (i.1 + 1) : Int) fun z10 => .lt (List.take (List.length i.2.2.2.1) i.2.2.2.1 ++ [w64 (w64 (gi a i.1 0 - i.2.1) - gi b i.1 0)] : List Int) fun z11 => .need ((((4) = (4)) ∧ (((0) = (0)) ∧ ((List.length i.2.2.2.1 + 1 = List.length z11) ∧ ((true) = (true))))) ∧ ((0 : Int) = 0) ∧ ((z10 : Int) = z10) ∧ True ∧ ((a) = (a)) ∧ ((b) = (b)) ∧ True) <| .vW (vV (ua 3 z11) True) <| .ok (.inl ((z10, 0, false, z11, ())))))
 (.ite (decide (w64 (gi a i.1 0 - i.2.1) < 0))
 (.need ((List.length i.2.2.2.1 + 1) * 8 ≤ 140737488355328) <| .tt <| .lt (w64 (i.1 + 1) : Int) fun z12 => .lt (List.take (List.length i.2.2.2.1) i.2.2.2.1 ++ [w64 (w64 (gi a i.1 0 - i.2.1) + 10000)] : List Int) fun z13 => .need ((((4) = (4)) ∧ (((0) = (0)) ∧ ((List.length i.2.2.2.1 + 1 = List.length z13) ∧ ((true) = (true))))) ∧ ((1 : Int) = 1) ∧ ((z12 : Int) = z12) ∧ True ∧ ((a) = (a)) ∧ ((b) = (b)) ∧ True) <| .vW (vV (ua 3 z13) True) <| .ok (.inl ((z12, 1, false, z13, ()))))
 (.need ((List.length i.2.2.2.1 + 1) * 8 ≤ 140737488355328) <| .tt <| .lt (w64 (i.1 + 1) : Int) fun z14 => .lt (List.take (List.length i.2.2.2.1) i.2.2.2.1 ++ [w64 (gi a i.1 0 - i.2.1)] : List Int) fun z15 => .need ((((4) = (4)) ∧ (((0) = (0)) ∧ ((List.length i.2.2.2.1 + 1 = List.length z15) ∧ ((true) = (true))))) ∧ ((0 : Int) = 0) ∧ ((z14 : Int) = z14) ∧ True ∧ ((a) = (a)) ∧ ((b) = (b)) ∧ True) <| .vW (vV (ua 3 z15) True) <| .ok (.inl ((z14, 0, false, z15, ()))))))
 (.call (ac3 (List.take (List.length i.2.2.2.1) i.2.2.2.1, ())) aH3 fun y1 =>
 .ok (.inr ((y1.1, ())))))
def anT (a : List Int) (b : List Int) : TT uG :=
 .loop 0 (.tt <| .vW (True ∧ (ud (0 : Int) (0 : Int) <| True ∧ ui a b)) <| .tr <| .ok ((0, 0, true, [], ()))) (ab6 a b)
def aF4 : LTab := [(134, 58, 9217, ⟨0, (Int) × (List Int) × Unit, .dat (.s 6) uq <| .row 6 uq <| .nil, [5, 4, 0, 1], [6], 0⟩), (134, 14922, 15361, ⟨1, (Int) × (Int) × (List Int) × Unit, .dat (.s 8) uq <| .dat (.s 7) uq <| .row 6 uq <| .nil, [18, 17, 16, 15, 6, 5, 4, 0, 1], [6], 0⟩)]
def aeW (a : List Int) (b : List Int) (i : Int × List Int × Unit) (i1 : (Int) × (Int) × (List Int) × Unit) : TT (uZ ⊕ tx) :=
 .ite (decide (i1.1 < len b))
 (.need (inb (w64 (i.1 + i1.1)) (↑(Int.toNat (w64 (len a + len b))) : Int)) <| .need (inb i.1 (len a)) <| .need (inb i1.1 (len b)) <| .triv (asT Int 10000 ≠ 0) zf <| .need (inb (w64 (i.1 + i1.1)) (↑(Int.toNat (w64 (len a + len b))) : Int)) <| .triv (asT Int 10000 ≠ 0) zf <| .tt <| .lt (w64 (i1.1 + 1) : Int) fun z2 => .lt (w64 (Int.tdiv (w64 (w64 (i1.2.1 + List.getD i1.2.2.1 (0 + Int.toNat (w64 (i.1 + i1.1))) 0) + w64 (gi a i.1 0 * gi b i1.1 0))) 10000) : Int) fun z3 => .lt (List.set i1.2.2.1 (0 + Int.toNat (w64 (i.1 + i1.1))) (Int.tmod (w64 (w64 (i1.2.1 + List.getD i1.2.2.1 (0 + Int.toNat (w64 (i.1 + i1.1))) 0) + w64 (gi a i.1 0 * gi b i1.1 0))) 10000) : List Int) fun z4 => .vW (uj z3 z2 (decide (i.1 < len a)) (len a) a i.1 i.1 <| (ub 6 0 (Int.toNat (w64 (len a + len b))) true) ∧ True ∧ ui a b) <| .vW (vV (ua 3 z4) True) <| .ok (.inl ((z2, z3, z4, ()))))
 (.need (inb (w64 (i.1 + len b)) (↑(Int.toNat (w64 (len a + len b))) : Int)) <| .tt <| .lt (w64 (i.1 + 1) : Int) fun z5 => .lt (List.set i1.2.2.1 (0 + Int.toNat (w64 (i.1 + len b))) i1.2.1 : List Int) fun z6 => .vW (vX z5 <| (ub 6 0 (Int.toNat (w64 (len a + len b))) true) ∧ True ∧ ui a b) <| .vW (vV (ua 3 z6) True) <| .ok (.inr (.inl ((z5, z6, ())))))
def al1 (a : List Int) (b : List Int) (i : (Int) × (List Int) × Unit) : TT tx :=
 .ite (decide (i.1 < len a))
 (.loop 1 (.tt <| .lt (i.2.1 : List Int) fun z1 => .vW (uj (0 : Int) (0 : Int) (decide (i.1 < len a)) (len a) a i.1 i.1 <| (ub 6 0 (Int.toNat (w64 (len a + len b))) true) ∧ True ∧ ui a b) <| .vW (vV (ua 3 z1) True) <| .ok ((0, 0, z1, ()))) (aeW a b i))
 (.call (ac3 (List.take (Int.toNat (w64 (len a + len b))) i.2.1, ())) aH3 fun y =>
 .ok (.inr ((y.1, ()))))
def afU (a : List Int) (b : List Int) : TT uG :=
 .need (0 ≤ w64 (len a + len b) ∧ w64 (len a + len b) ≤ w64 (len a + len b) ∧ w64 (len a + len b) * (↑8 : Int) ≤ 140737488355328) <| .loop 0 (.tt <| .lt (List.replicate (Int.toNat (w64 (len a + len b))) 0 : List Int) fun z => .vW (vX (0 : Int) <| (ub 6 0 (Int.toNat (w64 (len a + len b))) true) ∧ True ∧ ui a b) <| .vW (vV (ua 3 z) True) <| .ok ((0, z, ()))) (al1 a b)
def aPh : LTab := [(171, 122, 11265, ⟨0, (Int) × (Int) × (List Int) × Unit, .dat (.s 8) uq <| .dat (.s 7) uq <| .row 4 uq <| .nil, [6, 5, 4, 0, 1], [4], 0⟩)]
def auQ (a : List Int) (d : Int) (i : (Int) × (Int) × (List Int) × Unit) : TT (uZ ⊕ tZ) :=
 .ite (decide (i.1 ≥ 0))
 (.need (inb i.1 (len a)) <| .need (d ≠ 0) <| .need (inb i.1 (↑(Int.toNat (len a)) : Int)) <| .need (d ≠ 0) <| .tt <| .lt (w64 (i.1 - 1) : Int) fun z2 => .lt (Int.tmod (w64 (w64 (i.2.1 * 10000) + gi a i.1 0)) d : Int) fun z3 => .lt (List.set i.2.2.1 (0 + Int.toNat i.1) (w64 (Int.tdiv (w64 (w64 (i.2.1 * 10000) + gi a i.1 0)) d)) : List Int) fun z4 => .vW (ud z3 z2 <| (ub 4 0 (Int.toNat (len a)) true) ∧ (vX (0 : Int) <| True ∧ ui a d)) <| .vW (vV (ua 3 z4) True) <| .ok (.inl ((z2, z3, z4, ()))))
 (.call (ac3 (List.take (Int.toNat (len a)) i.2.2.1, ())) aH3 fun y =>
 .ok (.inr ((y.1, i.2.1, ()))))
def ay7 (a : List Int) (d : Int) : TT tZ :=
 .need (0 ≤ len a ∧ len a ≤ len a ∧ len a * (↑8 : Int) ≤ 140737488355328) <| .loop 0 (.tt <| .lt (w64 (len a - 1) : Int) fun z => .lt (List.replicate (Int.toNat (len a)) 0 : List Int) fun z1 => .vW (ud (0 : Int) z <| (ub 4 0 (Int.toNat (len a)) true) ∧ (vX (0 : Int) <| True ∧ ui a d)) <| .vW (vV (ua 3 z1) True) <| .ok ((z, 0, z1, ()))) (auQ a d)
end
open Go Go.Vg
theorem ahE {l : List Int} (h : Dg 10000 l) (hl : l.length ≤ 1000000000000) {n : Nat} (hv : V 10000 l = n) : ac3 (l, ()) = some (dig n, ()) := by
 unfold ac3
 rw [if_pos ⟨h, hl⟩]
 simp only [hv, zp]
theorem aMs (d : List Int) (y) (h : ac3 (d, ()) = some y) : (aKO d).toO = some y := by
 unfold ac3 at h
 split at h
 case isFalse => cases h
 case isTrue hp =>
 obtain ⟨hd, hl⟩ := hp
 dsimp only at hd hl h
 injection h with h
 subst h
 refine uO ((d.length : Int), ()) rfl ?_
 refine aaK (fun i : Int × Unit => ∃ k : Nat, k ≤ d.length ∧ i = ((k : Int), ()) ∧ V 10000 (d.take k) = V 10000 d) (fun i => i.1.toNat) (fun _ => (dig (V 10000 d).toNat, ())) ?_ _ ⟨_, zq _, rfl, by rw [zt]⟩
 rintro i ⟨k, h1, rfl, h2⟩
 have hn := aaT zc hd
 have fin : Cn (d.take k) → d.take k = dig (V 10000 d).toNat := fun hc => aEJ (acO hd k) hc (by rw [h2]; omega)
 unfold aF8
 rcases zC k with h0 | h0
 ·right
  subst h0
  refine uF sd (uN sd ?_)
  show some (Sum.inr (d.take (Int.toNat (0 : Nat)), ())) = _
  rw [zp, fin (by simp [Cn])]
 ·have hw : w64 ((k : Int) - 1) = ((k - 1 : Nat) : Int) := by rw [aaA (x := (k : Int) - 1) zc]; omega
  have hg : d.getD (k - 1) 0 = d[k - 1] := by simp [show k - 1 < d.length by omega]
  have ht := amR 10000 (l := d) (i := k - 1) zc
  rw [show k - 1 + 1 = k by omega] at ht
  simp only [hw, aaL, hg]
  by_cases c : d[k - 1] = 0
  ·left
   refine ⟨(((k - 1 : Nat) : Int), ()), ?_, ⟨k - 1, by omega, rfl, ?_⟩, by dsimp only; omega, ze⟩
   ·refine uT sd (uN sd (uT (by rw [c]; rfl) ?_))
    repeat refine za ?_
    rfl
   ·rw [← h2, ht, c]; simp
  ·right
   refine uT sd (uN sd (uF (by simpa using c) (uN sd ?_)))
   show some (Sum.inr (d.take (Int.toNat (k : Int)), ())) = _
   rw [zp, fin ?_]
   unfold Cn
   rw [yT, zO, yy h1, yw, if_pos zc, zS zc]
   simpa using c
theorem aIP (b : Bool) (d : List Int) (y) (h : abP (b, d, ()) = some y) : (aF7 b d).toO = some y := by
 unfold abP at h
 split at h
 case isFalse => cases h
 case isTrue hp =>
 obtain ⟨hd, hl⟩ := hp
 dsimp only at hd hl h
 injection h with h
 subst h
 obtain ⟨n, hn⟩ := zu (aaT zc hd)
 rw [hn, zp]
 refine uC _ (ahE hd hl hn) ?_
 have e : decide (len (dig n) > 0) = decide ((n : Int) ≠ 0) := by
  refine decide_eq_decide.2 ?_
  have := dig_nil_iff (n := n)
  rw [aaB]
  constructor
  ·intro h h2
   rw [this.2 zc] at h
   simp at h
  ·intro h
   rcases zC (dig n).length with h3 | h3
   ·have := this.1 (zV.1 h3); omega
   ·omega
 cases b
 ·exact uF rfl rfl
 ·refine uT rfl ?_
  show some ((decide (len (dig n) > 0), dig n, ()), ()) = _
  rw [e]; rfl
theorem aBd {l : List Int} {b : Bool} {z : Int} (h : Dg 10000 l) (hl : l.length ≤ 1000000000000) (hv : V 10000 l = z.natAbs) (hb : z = 0 ∨ b = decide (z < 0)) : abP (b, l, ()) = some (pl z, ()) := by
 unfold abP
 rw [if_pos ⟨h, hl⟩]
 simp only [hv, zp]
 congr 2
 unfold pl
 congr 1
 by_cases h0 : z = 0
 ·subst h0; simp
 ·rw [zo (show ((z.natAbs : Int) ≠ 0) by omega), Bool.and_true]
  rcases hb with h2 | h2
  ·exact absurd h2 h0
  ·exact h2
theorem ag8 {n : Nat} {b : Bool} {z : Int} (hl : (dig n).length ≤ 1000000000000) (hv : n = z.natAbs) (hb : z = 0 ∨ b = decide (z < 0)) : abP (b, dig n, ()) = some (pl z, ()) := aBd (adU n) hl (by rw [ah3, hv]) hb
theorem aRQ {n : Nat} (h : n < 10000) : atH ((n : Int), ()) = some (aBF n, ()) := aaE (enc := fun x : Nat => ((x : Int), ())) n h (fun b hb => Int.ofNat.inj (Prod.mk.inj hb).1)
theorem aIQ (n : Int) (y) (h : atH (n, ()) = some y) : (ay8 n).toO = some y := by
 obtain ⟨k, hk, hx, rfl⟩ := aaC h
 obtain ⟨rfl, -⟩ := Prod.mk.inj hx
 have d1 : ∀ m : Nat, 0 < m → Int.tdiv (k : Int) m = ((k / m : Nat) : Int) := fun m hm => by rw [zL zc]; simp
 have e1 := d1 1000 zc
 have e2 := d1 100 zc
 have e3 := d1 10 zc
 have m1 : ∀ j : Nat, Int.tmod (j : Int) 10 = ((j % 10 : Nat) : Int) := fun j => by rw [zF zc]; omega
 have w1 : ∀ j : Nat, j < 10000 → w64 (j : Int) = j := fun j hj => aaA zc
 have w2 : ∀ j : Nat, j < 10 → wu8 (w64 (48 + (j : Int))) = ((48 + j : Nat) : Int) := fun j hj => by rw [aaA (x := 48 + (j : Int)) zc, abU zc]; omega
 unfold ay8
 have f1 : Int.tdiv (k : Int) 1000 = ((k / 1000 : Nat) : Int) := e1
 have f2 : Int.tdiv (k : Int) 100 = ((k / 100 : Nat) : Int) := e2
 have f3 : Int.tdiv (k : Int) 10 = ((k / 10 : Nat) : Int) := e3
 refine uV (uV (uV (uV (uV (uV ?_)))))
 rw [aaI, f1, f2, f3, w1 (k / 1000) zc, w1 (k / 100) zc, w1 (k / 10) zc, m1, m1, m1, w2 _ zc, w2 _ zc, w2 _ zc, w2 _ zc]
 rfl
theorem av8 (a b : List Int) (h1 : Dg 10000 a) (h2 : Dg 10000 b) (h3 : a.length ≤ 1000000000000) (h4 : b.length ≤ 1000000000000) : ag1 (a, b, ()) = some (aTS a b, ()) := by unfold ag1; rw [if_pos ⟨h1, h2, h3, h4⟩]
theorem aF6 (a b : List Int) (y) (h : ag1 (a, b, ()) = some y) : (auP a b).toO = some y := by
 unfold ag1 at h
 split at h
 case isFalse => cases h
 case isTrue hp =>
 obtain ⟨ha, hb, hl, hl2⟩ := hp
 dsimp only at ha hb hl hl2 h
 injection h with h
 subst h
 unfold auP aTS
 by_cases c : a.length = b.length
 case neg =>
  rw [if_pos c]
  refine uT sd ?_
  rw [aaI, aaB, aaB, aaA zc]
 rw [if_neg (fun h => h c)]
 refine uF sd ?_
 refine uO ((a.length : Int) - 1, ()) ?_ ?_
 ·repeat refine za ?_
  rw [aaI, aaB, aaA zc]
 refine aaK (fun i : Int × Unit => ∃ k : Nat, k ≤ a.length ∧ i = ((k : Int) - 1, ()) ∧ aR6 a b a.length = aR6 a b k) (fun i => (i.1 + 1).toNat) (fun _ => (aR6 a b a.length, ())) ?_ _ ⟨_, zq _, rfl, rfl⟩
 rintro i ⟨k, h1, rfl, h2⟩
 unfold ay6
 dsimp only
 cases k with
 | zero =>
  right
  refine uF sd ?_
  rw [h2]; rfl
 | succ j =>
  have e6 : ((j + 1 : Nat) : Int) - 1 = (j : Int) := zc
  simp only [e6, aaL]
  have da := aa5 zc ha j
  have db := aa5 zc hb j
  by_cases c2 : a.getD j 0 = b.getD j 0
  ·left
   refine ⟨((j : Int) - 1, ()), ?_, ⟨j, by omega, rfl, ?_⟩, by dsimp only; omega, ze⟩
   ·refine uT sd (uN sd (uN sd (uF (by rw [c2]; simp) ?_)))
    repeat refine za ?_
    rw [aaI, aaA zc]
   ·rw [h2]; show (if _ then _ else _) = _; rw [if_neg (fun h => h c2)]
  ·right
   refine uT sd (uN sd (uN sd (uT (by simpa using c2) (uN sd (uN sd ?_)))))
   rw [aaI, aaA zc, h2]
   show _ = some (Sum.inr (if _ then _ else _, ()))
   rw [if_pos c2]
theorem aFp {a b : List Int} (ha : Dg 10000 a) (hb : Dg 10000 b) : ∀ k, (aR6 a b k < 0 ↔ V 10000 (a.take k) < V 10000 (b.take k)) ∧ (aR6 a b k = 0 ↔ V 10000 (a.take k) = V 10000 (b.take k))
 | 0 => by simp [aR6]
 | k + 1 => by
  obtain ⟨i1, i2⟩ := aFp ha hb k
  have ea := aa7 10000 a k
  have eb := aa7 10000 b k
  have la := adV zc ha k
  have lb := adV zc hb k
  have na := aaT zc (acO ha k)
  have nb := aaT zc (acO hb k)
  unfold aR6
  rw [ea, eb]
  by_cases c : a.getD k 0 = b.getD k 0
  ·rw [if_neg (fun h => h c), c]
   omega
  ·rw [if_pos c]
   rcases zQ (a.getD k 0) (b.getD k 0) with h | h
   ·have h5 : (10000 : Int) ^ k * (a.getD k 0 + 1) ≤ 10000 ^ k * b.getD k 0 := zD zc zc
    rw [wz] at h5
    omega
   ·have h5 : (10000 : Int) ^ k * (b.getD k 0 + 1) ≤ 10000 ^ k * a.getD k 0 := zD zc zc
    rw [wz] at h5
    omega
theorem aKV (m n : Nat) : (aTS (dig m) (dig n) < 0 ↔ m < n) ∧ (aTS (dig m) (dig n) = 0 ↔ m = n) := by
 unfold aTS
 by_cases c : (dig m).length = (dig n).length
 ·rw [if_neg (fun h => h c)]
  obtain ⟨h1, h2⟩ := aFp (adU m) (adU n) (dig m).length
  rw [abO _ (zq _), abO _ zc, ah3, ah3] at h1 h2
  omega
 ·rw [if_pos c]
  rcases zr (dig m).length (dig n).length with h | h
  ·have := aqD h; omega
  ·have := aqD (m := n) (n := m) zc; omega
theorem aSg {a b s : List Int} {k : Nat} {c x c' : Int} (h5 : s.length = k) (h7 : V 10000 s + 10000 ^ k * c = V 10000 (a.take k) + V 10000 (b.take k)) (hx : x + 10000 * c' = a.getD k 0 + b.getD k 0 + c) : V 10000 (s ++ [x]) + 10000 ^ (k + 1) * c' = V 10000 (a.take (k + 1)) + V 10000 (b.take (k + 1)) := by
 rw [aeY, aBO, h5, aa7, aa7, zX]
 have : (10000 : Int) ^ k * (x + 10000 * c') = 10000 ^ k * (a.getD k 0 + b.getD k 0 + c) := by rw [hx]
 grind
theorem aSf {x : Int} (h : 0 ≤ x) : Int.tdiv x 10000 = x / 10000 := zL h
theorem aSb {x : Int} (h : 0 ≤ x) : Int.tmod x 10000 = x % 10000 := zF h
theorem aMp (m o : List Int) (y) (h : ax2 (m, o, ()) = some y) : (aKN m o).toO = some y := by
 obtain ⟨⟨a, b⟩, hn, hx, rfl⟩ := aaC h
 obtain ⟨rfl, hx2⟩ := Prod.mk.inj hx; obtain ⟨rfl, -⟩ := Prod.mk.inj hx2; dsimp only
 obtain ⟨la, lb⟩ := hn
 simp only at la lb
 have hda := adU a
 have hdb := adU b
 have hVa := ah3 a
 have hVb := ah3 b
 clear hx hx2 h
 have hca := aLi a
 have hcb := aLi b
 generalize dig a = A at *
 generalize dig b = B at *
 refine uO (0, 0, true, [], ()) rfl ?_
 refine aaK (fun i : Int × Int × Bool × List Int × Unit => ∃ k : Nat, k ≤ A.length + B.length + 1 ∧ i.1 = (k : Int) ∧ 0 ≤ i.2.1 ∧ i.2.1 ≤ 1 ∧ i.2.2.2.1.length = k ∧ Dg 10000 i.2.2.2.1 ∧ V 10000 i.2.2.2.1 + 10000 ^ k * i.2.1 = V 10000 (A.take k) + V 10000 (B.take k) ∧ (i.2.2.1 = true → i.2.2.2.1 = []) ∧ (A.length ≤ k → B.length ≤ k → i.2.1 = 0 → Cn i.2.2.2.1) ∧ (i.2.1 = 0 ∨ k ≤ A.length ∨ k ≤ B.length)) (fun i => (((A.length + B.length + 2 : Nat) : Int) - i.1).toNat) (fun _ => (dig (a + b), ())) ?_ _ ⟨0, by omega, rfl, by simp, by simp, rfl, aw9 _, by simp [V], fun _ => rfl, fun _ _ _ => axA, Or.inl rfl⟩
 rintro ⟨i, c, f, s, u⟩ ⟨k, h1, h2, h3, h4, h5, h6, h7, h8, h9, h10⟩
 dsimp only at h2 h3 h4 h5 h6 h7 h8 h9 h10
 subst h2
 have da := aa5 zc hda k
 have db := aa5 zc hdb k
 have hS : 0 ≤ A.getD k 0 + B.getD k 0 + c := zc
 by_cases hgo : k < A.length ∨ k < B.length ∨ 0 < c
 ·left
  have e1 := yk (A.getD k 0 + B.getD k 0 + c) 10000
  refine ⟨(((k + 1 : Nat) : Int), (A.getD k 0 + B.getD k 0 + c) / 10000, false, s ++ [(A.getD k 0 + B.getD k 0 + c) % 10000], ()), ?_, ⟨k + 1, by omega, rfl, by dsimp only; omega, by dsimp only; omega, by simp; omega, afH h6 (ao0 zc zc), aSg h5 h7 e1, by simp, ?_, ?_⟩, by dsimp only; omega, ze⟩
  ·have zA : ¬ k < A.length → A.getD k 0 = 0 := fun h => aiS zc 0
   have zB : ¬ k < B.length → B.getD k 0 = 0 := fun h => aiS zc 0
   have eD : ∀ x : Int, x = A.getD k 0 + B.getD k 0 + c → Int.tdiv x 10000 = (A.getD k 0 + B.getD k 0 + c) / 10000 ∧ Int.tmod x 10000 = (A.getD k 0 + B.getD k 0 + c) % 10000 := fun x hx => by rw [hx]; exact ⟨aSf hS, aSb hS⟩
   have w1 : w64 (c + A.getD k 0) = c + A.getD k 0 := aaA zc
   have w2 : w64 (c + A.getD k 0 + B.getD k 0) = c + A.getD k 0 + B.getD k 0 := aaA zc
   have w3 : w64 (c + B.getD k 0) = c + B.getD k 0 := aaA zc
   have w4 : w64 ((A.getD k 0 + B.getD k 0 + c) / 10000) = (A.getD k 0 + B.getD k 0 + c) / 10000 := aaA zc
   have w5 : w64 ((k : Int) + 1) = ((k + 1 : Nat) : Int) := by rw [aaA (x := (k : Int) + 1) zc]; omega
   cases f with
   | true =>
    obtain rfl := h8 rfl
    simp only [anS, aeF, aeG, aaL, w1, w2, w3, w5]
    by_cases cA : k < A.length <;> by_cases cB : k < B.length
    ·obtain ⟨q1, q2⟩ := eD (c + A.getD k 0 + B.getD k 0) zc
     simp only [q1, q2, w4]
     repeat refine za ?_
     rfl
    ·obtain ⟨q1, q2⟩ := eD (c + A.getD k 0) (by have := zB cB; omega)
     simp only [q1, q2, w4]
     repeat refine za ?_
     rfl
    ·obtain ⟨q1, q2⟩ := eD (c + B.getD k 0) (by have := zA cA; omega)
     simp only [q1, q2, w4]
     repeat refine za ?_
     rfl
    ·obtain ⟨q1, q2⟩ := eD c (by have := zA cA; have := zB cB; omega)
     have hc0 : 0 < c := zc
     simp only [q1, q2, w4]
     repeat refine za ?_
     rfl
   | false =>
    simp only [anS, aeF, aeG, aaL, w1, w2, w3, w5, zt]
    by_cases cA : k < A.length <;> by_cases cB : k < B.length
    ·obtain ⟨q1, q2⟩ := eD (c + A.getD k 0 + B.getD k 0) zc
     simp only [q1, q2, w4]
     repeat refine za ?_
     rfl
    ·obtain ⟨q1, q2⟩ := eD (c + A.getD k 0) (by have := zB cB; omega)
     simp only [q1, q2, w4]
     repeat refine za ?_
     rfl
    ·obtain ⟨q1, q2⟩ := eD (c + B.getD k 0) (by have := zA cA; omega)
     simp only [q1, q2, w4]
     repeat refine za ?_
     rfl
    ·obtain ⟨q1, q2⟩ := eD c (by have := zA cA; have := zB cB; omega)
     have hc0 : 0 < c := zc
     simp only [q1, q2, w4]
     repeat refine za ?_
     rfl
  ·intro g1 g2 g3
   dsimp only at g3 ⊢
   unfold Cn
   simp only [List.getLast?_concat, ne_eq, Option.some.injEq]
   intro g4
   have hz : A.getD k 0 + B.getD k 0 + c = 0 := zc
   have ca : ¬ k < A.length := by
    intro hk
    have : k = A.length - 1 := zc
    unfold Cn at hca
    rw [yT, ← this, zS hk] at hca
    rw [akB hk] at *
    exact hca (by congr 1; omega)
   have cb : ¬ k < B.length := by
    intro hk
    have : k = B.length - 1 := zc
    unfold Cn at hcb
    rw [yT, ← this, zS hk] at hcb
    rw [akB hk] at *
    exact hcb (by congr 1; omega)
   omega
  ·dsimp only
   by_cases cA : k < A.length
   ·right; left; omega
   ·by_cases cB : k < B.length
    ·right; right; omega
    ·left
     have := aiS (l := A) (k := k) zc 0
     have := aiS (l := B) (k := k) zc 0
     omega
 ·right
  have hc : c = 0 := zc
  subst hc
  rw [abO _ zc, abO _ zc, hVa, hVb] at h7
  have hs : s = dig (a + b) := aEJ h6 (h9 zc zc rfl) zc
  cases f with
  | true =>
   obtain rfl := h8 rfl
   unfold anS aeF aeG
   repeat refine za ?_
   rw [← hs]; rfl
  | false =>
   unfold anS aeF aeG
   repeat refine za ?_
   rw [← hs, aaI, zt]
theorem aoX {a b : List Int} (h1 : Dg 10000 a) (h2 : Dg 10000 b) (h3 : a.length ≤ 1000000000000) (h4 : b.length ≤ a.length) (h5 : V 10000 b ≤ V 10000 a) {n : Nat} (hn : V 10000 a - V 10000 b = n) : abF (a, b, ()) = some (dig n, ()) := by
 unfold abF
 rw [if_pos ⟨h1, h2, h3, h4, h5⟩]
 simp only [hn, zp]
theorem aQ4 {a b s : List Int} {k : Nat} {c x c' : Int} (h5 : s.length = k) (h7 : V 10000 s = V 10000 (a.take k) - V 10000 (b.take k) + 10000 ^ k * c) (hx : x = a.getD k 0 - b.getD k 0 - c + 10000 * c') : V 10000 (s ++ [x]) = V 10000 (a.take (k + 1)) - V 10000 (b.take (k + 1)) + 10000 ^ (k + 1) * c' := by
 rw [aeY, aBO, h5, aa7, aa7, zX, h7, hx]
 grind
theorem auR (A B : List Int) (y) (h : abF (A, B, ()) = some y) : (anT A B).toO = some y := by
 unfold abF at h
 split at h
 case isFalse => cases h
 case isTrue hp =>
 obtain ⟨hda, hdb, la, lb, hle⟩ := hp
 dsimp only at hda hdb la lb hle h
 injection h with h
 subst h
 refine uO (0, 0, true, [], ()) rfl ?_
 refine aaK (fun i : Int × Int × Bool × List Int × Unit => ∃ k : Nat, k ≤ A.length ∧ i.1 = (k : Int) ∧ 0 ≤ i.2.1 ∧ i.2.1 ≤ 1 ∧ i.2.2.2.1.length = k ∧ Dg 10000 i.2.2.2.1 ∧ V 10000 i.2.2.2.1 = V 10000 (A.take k) - V 10000 (B.take k) + 10000 ^ k * i.2.1 ∧ (i.2.2.1 = true → i.2.2.2.1 = [])) (fun i => ((A.length : Int) - i.1).toNat) (fun _ => (dig (V 10000 A - V 10000 B).toNat, ())) ?_ _ ⟨0, by omega, rfl, by simp, by simp, rfl, aw9 _, by simp [V], fun _ => rfl⟩
 rintro ⟨i, c, f, s, u⟩ ⟨k, h1, h2, h3, h4, h5, h6, h7, h8⟩
 dsimp only at h2 h3 h4 h5 h6 h7 h8
 subst h2
 have da := aa5 zc hda k
 have db := aa5 zc hdb k
 have w5 : w64 ((k : Int) + 1) = ((k + 1 : Nat) : Int) := by rw [aaA (x := (k : Int) + 1) zc]; omega
 have w1 : w64 (A.getD k 0 - c) = A.getD k 0 - c := aaA zc
 have w2 : w64 (A.getD k 0 - c - B.getD k 0) = A.getD k 0 - c - B.getD k 0 := aaA zc
 have w3 : w64 (A.getD k 0 - c + 10000) = A.getD k 0 - c + 10000 := aaA zc
 have w4 : w64 (A.getD k 0 - c - B.getD k 0 + 10000) = A.getD k 0 - c - B.getD k 0 + 10000 := aaA zc
 rcases zr k A.length with hk | hk
 ·left
  have fin : ∀ x c' : Int, 0 ≤ x ∧ x < 10000 → 0 ≤ c' ∧ c' ≤ 1 → x = A.getD k 0 - B.getD k 0 - c + 10000 * c' → (∃ k_1 : Nat, k_1 ≤ A.length ∧ ((k + 1 : Nat) : Int) = (k_1 : Int) ∧ 0 ≤ c' ∧ c' ≤ 1 ∧ (s ++ [x]).length = k_1 ∧ Dg 10000 (s ++ [x]) ∧ V 10000 (s ++ [x]) = V 10000 (A.take k_1) - V 10000 (B.take k_1) + 10000 ^ k_1 * c' ∧ (false = true → (s ++ [x]) = [])) ∧ ((A.length : Int) - ((k + 1 : Nat) : Int)).toNat < ((A.length : Int) - (k : Int)).toNat :=
   fun x c' hx hc he => ⟨⟨k + 1, by omega, rfl, hc.1, hc.2, by simp; omega, afH h6 (ao0 hx.1 hx.2), aQ4 h5 h7 he, by simp⟩, by omega⟩
  have zB : ¬ k < B.length → B.getD k 0 = 0 := fun h => aiS zc 0
  by_cases cn : A.getD k 0 - c - B.getD k 0 < 0
  ·obtain ⟨g1, g2⟩ := fin (A.getD k 0 - c - B.getD k 0 + 10000) 1 zc zc zc
   refine ⟨(((k + 1 : Nat) : Int), 1, false, s ++ [A.getD k 0 - c - B.getD k 0 + 10000], ()), ?_, g1, g2, ze⟩
   cases f with
   | true =>
    obtain rfl := h8 rfl
    simp only [ab6, aaL, w1, w2, w3, w4, w5]
    by_cases cB : k < B.length
    ·repeat refine za ?_
     rfl
    ·have := zB cB
     rw [this, wP] at *
     repeat refine za ?_
     rfl
   | false =>
    simp only [ab6, aaL, w1, w2, w3, w4, w5, zt]
    by_cases cB : k < B.length
    ·repeat refine za ?_
     rfl
    ·have := zB cB
     rw [this, wP] at *
     repeat refine za ?_
     rfl
  ·obtain ⟨g1, g2⟩ := fin (A.getD k 0 - c - B.getD k 0) 0 zc zc zc
   refine ⟨(((k + 1 : Nat) : Int), 0, false, s ++ [A.getD k 0 - c - B.getD k 0], ()), ?_, g1, g2, ze⟩
   cases f with
   | true =>
    obtain rfl := h8 rfl
    simp only [ab6, aaL, w1, w2, w3, w4, w5]
    by_cases cB : k < B.length
    ·repeat refine za ?_
     rfl
    ·have := zB cB
     rw [this, wP] at *
     repeat refine za ?_
     rfl
   | false =>
    simp only [ab6, aaL, w1, w2, w3, w4, w5, zt]
    by_cases cB : k < B.length
    ·repeat refine za ?_
     rfl
    ·have := zB cB
     rw [this, wP] at *
     repeat refine za ?_
     rfl
 ·right
  have hkk : k = A.length := zc
  subst hkk
  rw [abO _ (zq _), abO _ lb] at h7
  have hlt := aN1 zc h6
  rw [h5] at hlt
  have hc : c = 0 := by
   rcases zQ 0 c with hc | hc
   ·have hc1 : c = 1 := zc
    subst hc1
    omega
   ·omega
  subst hc
  cases f with
  | true =>
   obtain rfl := h8 rfl
   unfold ab6
   refine uT rfl (uF sd (uC (dig (V 10000 A - V 10000 B).toNat, ()) (ahE h6 zi zc) rfl))
  | false =>
   unfold ab6
   dsimp only
   rw [zt]
   refine uF rfl (uF sd (uC (dig (V 10000 A - V 10000 B).toNat, ()) (ahE h6 zc zc) rfl))
theorem aNW (Vs P c A K x T X Y d e Q B : Int) (h : Vs + P * c = A + K * (x * T)) (h2 : X + B * Y = c + d + x * e) (hP : P = K * Q) : Vs + P * (X - d) + P * B * Y = A + K * (x * (T + Q * e)) := by
 subst hP
 have h3 : K * Q * (X + B * Y) = K * Q * (c + d + x * e) := by rw [h2]
 grind
theorem aM3 {a b B : Int} (ha : 0 ≤ a ∧ a < B) (hb : 0 ≤ b ∧ b < B) : 0 ≤ a * b ∧ a * b ≤ (B - 1) * (B - 1) := by
 refine ⟨yh ha.1 hb.1, ?_⟩
 have h1 : a * b ≤ a * (B - 1) := zD zc ha.1
 have h2 : a * (B - 1) ≤ (B - 1) * (B - 1) := zE zc zc
 omega
theorem aoW {a b : List Int} (h1 : Dg 10000 a) (h2 : Dg 10000 b ∨ b = [10000]) (h3 : a.length ≤ 400000000000) (h4 : b.length ≤ 400000000000) {n : Nat} (hn : V 10000 a * V 10000 b = n) : ab2 (a, b, ()) = some (dig n, ()) := by
 unfold ab2
 rw [if_pos ⟨h1, h2, h3, h4⟩]
 simp only [hn, zp]
theorem aDX (A D : List Int) (hda : Dg 10000 A) (hdb : Dg 10000 D) (la : A.length ≤ 400000000000) (lb : D.length ≤ 400000000000) : (afU A D).toO = some (dig (V 10000 A * V 10000 D).toNat, ()) := by
 have nb := aaT zc hdb
 have hw : w64 (len A + len D) = ((A.length + D.length : Nat) : Int) := by
  simp only [aaB]; rw [aaA (x := (A.length : Int) + D.length) zc]; omega
 unfold afU
 simp only [hw]
 refine uN zc ?_
 refine uO (0, List.replicate (A.length + D.length) 0, ()) ?_ ?_
 ·repeat refine za ?_
  simp (disch := omega) only [aaI, aaA, aaP, aa1, abU, aaL, zv, zp, aaB, zt]
 have hBb : V 10000 D < 10000 ^ D.length := aN1 zc hdb
 refine aaK (fun i => ∃ k : Nat, k ≤ A.length ∧ i.1 = (k : Int) ∧ i.2.1.length = A.length + D.length ∧ Dg 10000 i.2.1 ∧ V 10000 i.2.1 = V 10000 (A.take k) * V 10000 D) (fun i => ((A.length : Int) - i.1).toNat) (fun _ => (dig (V 10000 A * V 10000 D).toNat, ())) ?_ _ ⟨0, ye _, rfl, by simp, ahF zc _, by simp [V, avV]⟩
 rintro ⟨i, s, u⟩ ⟨k, h1, h2, h3, h4, h5⟩
 simp only at h2 h3 h4 h5
 subst h2
 simp only [al1, aaL, hw]
 have ea := aa7 10000 A k
 have da := aa5 zc hda k
 rcases zr k A.length with hk | hk
 ·left
  have hs : V 10000 s < 10000 ^ (k + D.length) := by
   rw [h5, wA]
   have e1 := adV zc hda k
   have e2 := aaT zc (acO hda k)
   have e3 : V 10000 (A.take k) * V 10000 D ≤ V 10000 (A.take k) * 10000 ^ D.length := zD zc e2
   have e4 : V 10000 (A.take k) * 10000 ^ D.length < 10000 ^ k * 10000 ^ D.length := Int.mul_lt_mul_of_pos_right e1 (yJ zc)
   omega
  have hz := an5 zc h4 hs
  obtain ⟨r, hin, s', rfl, q1, q2, q3⟩ : ∃ r : ((Int × List Int × Unit) ⊕ (List Int × Unit)), adK (fun i1 => (aeW A D ((k : Int), s, ()) i1).toO) (0, 0, s, ()) = some r ∧ ∃ s', r = Sum.inl (((k + 1 : Nat) : Int), s', ()) ∧ s'.length = A.length + D.length ∧ Dg 10000 s' ∧ V 10000 s' = V 10000 (A.take (k + 1)) * V 10000 D := by
   refine ac8 (fun j => ∃ q : Nat, q ≤ D.length ∧ j.1 = (q : Int) ∧ 0 ≤ j.2.1 ∧ j.2.1 < 10000 ∧ j.2.2.1.length = A.length + D.length ∧ Dg 10000 j.2.2.1 ∧ (∀ t, k + D.length ≤ t → j.2.2.1.getD t 0 = 0) ∧ V 10000 j.2.2.1 + 10000 ^ (k + q) * j.2.1 = V 10000 (A.take k) * V 10000 D + 10000 ^ k * (A.getD k 0 * V 10000 (D.take q))) (fun j => ((D.length : Int) - j.1).toNat) _ ?_ _ ⟨0, ye _, rfl, by simp, by simp, h3, h4, hz, by simp [V, h5]⟩
   rintro ⟨j, c, s1, u1⟩ ⟨q, g1, g2, g3, g4, g5, g6, g7, g8⟩
   simp only at g2 g3 g4 g5 g6 g7 g8
   subst g2
   have hkq : w64 ((k : Int) + q) = ((k + q : Nat) : Int) := by rw [aaA (x := (k : Int) + q) zc]; omega
   have hkl : w64 ((k : Int) + len D) = ((k + D.length : Nat) : Int) := by rw [aaB, aaA (x := (k : Int) + (D.length : Int)) zc]; omega
   simp only [aeW, aaL, hw, hkq, hkl, zp, zv]
   have eb := aa7 10000 D q
   have db := aa5 zc hdb q
   have ds := aa5 zc g6 (k + q)
   have hm := aM3 da db
   rcases zr q D.length with hq | hq
   ·left
    have hsum : 0 ≤ c + s1.getD (k + q) 0 + A.getD k 0 * D.getD q 0 := zc
    have e1 := yk (c + s1.getD (k + q) 0 + A.getD k 0 * D.getD q 0) 10000
    have ww : w64 (w64 (c + s1.getD (k + q) 0) + w64 (A.getD k 0 * D.getD q 0)) = c + s1.getD (k + q) 0 + A.getD k 0 * D.getD q 0 := by
     rw [aaA (x := c + s1.getD (k + q) 0) zc, aaA (x := A.getD k 0 * D.getD q 0) zc, aaA zc]
    simp only [ww]
    have e2 : 0 ≤ (c + s1.getD (k + q) 0 + A.getD k 0 * D.getD q 0) % 10000 ∧ (c + s1.getD (k + q) 0 + A.getD k 0 * D.getD q 0) % 10000 < 10000 := zc
    have e3 : 0 ≤ (c + s1.getD (k + q) 0 + A.getD k 0 * D.getD q 0) / 10000 ∧ (c + s1.getD (k + q) 0 + A.getD k 0 * D.getD q 0) / 10000 < 10000 := zc
    refine ⟨(((q + 1 : Nat) : Int), (c + s1.getD (k + q) 0 + A.getD k 0 * D.getD q 0) / 10000, s1.set (k + q) ((c + s1.getD (k + q) 0 + A.getD k 0 * D.getD q 0) % 10000), ()), ?_, ⟨q + 1, by omega, rfl, e3.1, e3.2, by simp; omega, aj4 g6 e2 _, ?_, ?_⟩, by simp only; omega⟩
    ·repeat refine za ?_
     rw [zF hsum, zL hsum, aaA (x := (q : Int) + 1) zc, aaA (x := (c + s1.getD (k + q) 0 + A.getD k 0 * D.getD q 0) / 10000) zc]
     rfl
    ·intro t ht
     rw [aq3 _ zc]; exact g7 t ht
    ·simp only
     rw [aA0 _ zc, eb, show k + (q + 1) = k + q + 1 by omega, zX]
     exact aNW _ _ _ _ _ _ _ _ _ _ _ _ _ g8 e1 (wA _ _ _)
   ·right
    have hqq : q = D.length := zc
    subst hqq
    rw [abO _ (zq _)] at g8
    refine ⟨.inl (((k + 1 : Nat) : Int), s1.set (k + D.length) c, ()), ?_, _, rfl, by simp; omega, aj4 g6 ⟨g3, g4⟩ _, ?_⟩
    ·repeat refine za ?_
     rw [aaA (x := (k : Int) + 1) zc]
     rfl
    ·rw [aA0 _ zc, g7 _ zc, ea, wY]
     simp only [wP]
     rw [g8]
     grind
  refine ⟨(((k + 1 : Nat) : Int), s', ()), ?_, ⟨k + 1, by omega, rfl, q1, q2, q3⟩, by simp only; omega, ze⟩
  refine uT sd ?_
  refine uO (0, 0, s, ()) ?_ ?_
  ·repeat refine za ?_
   rfl
  ·exact hin
 ·right
  have hkk : k = A.length := zc
  rw [hkk, abO _ (zq _)] at h5
  have hnn := aaT zc h4
  refine uF sd ?_
  refine uC (dig (V 10000 A * V 10000 D).toNat, ()) ?_ ?_
  ·rw [zy zh]
   exact ahE h4 zc zc
  ·rfl
theorem ay4 (A : List Int) (hda : Dg 10000 A) (la : A.length ≤ 400000000000) : (afU A [10000]).toO = some (dig (V 10000 A * V 10000 [10000]).toNat, ()) := by
 have na := aaT zc hda
 have hV1 : V 10000 [10000] = 10000 := by simp [V]
 have hw : w64 (len A + len [(10000 : Int)]) = ((A.length + 1 : Nat) : Int) := by
  simp only [aaB, yr]; rw [aaA zc]; omega
 unfold afU
 simp only [hw]
 refine uN zc ?_
 refine uO (0, List.replicate (A.length + 1) 0, ()) ?_ ?_
 ·repeat refine za ?_
  simp (disch := omega) only [aaI, aaA, aaP, aa1, abU, aaL, zv, zp, aaB, zt]
 refine aaK (fun i => ∃ k : Nat, k ≤ A.length ∧ i.1 = (k : Int) ∧ i.2.1 = ((0 :: A.take k) ++ List.replicate (A.length - k) 0)) (fun i => ((A.length : Int) - i.1).toNat) (fun _ => (dig (V 10000 A * V 10000 [10000]).toNat, ())) ?_ _ ⟨0, ye _, rfl, by simp [xq]⟩
 rintro ⟨i, s, u⟩ ⟨k, h1, h2, h3⟩
 simp only at h2 h3
 subst h2 h3
 simp only [al1, aaL, hw]
 have da := aa5 zc hda k
 rcases zr k A.length with hk | hk
 ·left
  have hrep : List.replicate (A.length - k) (0 : Int) = 0 :: List.replicate (A.length - (k + 1)) 0 := by
   rw [show A.length - k = (A.length - (k + 1)) + 1 by omega, xq]
  have hset : ((0 :: A.take k) ++ List.replicate (A.length - k) 0).set (k + 1) A[k] = ((0 :: A.take (k + 1)) ++ List.replicate (A.length - (k + 1)) 0) := by
   rw [hrep, List.set_append_right _ _ zh]
   have : k + 1 - (0 :: A.take k).length = 0 := zh
   rw [this, List.set_cons_zero]
   simp only [vH, zW hk, yV, xo]
  have hcur : 0 ≤ ((0 :: A.take k) ++ List.replicate (A.length - k) 0).getD k 0 ∧ ((0 :: A.take k) ++ List.replicate (A.length - k) 0).getD k 0 < 10000 := by
   refine aa5 zc (afH (aFg zc (acO hda k)) (ahF zc _)) k
  have hlen : ((0 :: A.take k) ++ List.replicate (A.length - k) 0).length = A.length + 1 := zh
  generalize ((0 :: A.take k) ++ List.replicate (A.length - k) 0) = s at *
  generalize hd : s.getD k 0 = d at hcur
  have hg : A.getD k 0 = A[k] := by simp [hk]
  rw [hg] at da
  refine ⟨(((k + 1 : Nat) : Int), ((0 :: A.take (k + 1)) ++ List.replicate (A.length - (k + 1)) 0), ()), ?_, ⟨k + 1, by omega, rfl, rfl⟩, by simp only; omega, ze⟩
  refine uT sd ?_
  refine uO (0, 0, s, ()) ?_ ?_
  ·repeat refine za ?_
   rfl
  have hk0 : w64 ((k : Int) + 0) = ((k : Nat) : Int) := by rw [aaA zc]; omega
  have hkl : w64 ((k : Int) + len [(10000 : Int)]) = ((k + 1 : Nat) : Int) := by rw [aaB, yr, aaA zc]; omega
  have hsum : w64 (w64 (0 + d) + w64 (A[k] * 10000)) = d + A[k] * 10000 := by
   rw [aaA (x := 0 + d) zc, aaA (x := A[k] * 10000) zc, aaA zc]; omega
  have s1 : (aeW A [10000] ((k : Int), s, ()) (0, 0, s, ())).toO = some (.inl (1, A[k], s, ())) := by
   simp only [aeW, aaL, hw, hk0, zp, zv, hd, hg]
   have hgi : gi [(10000 : Int)] 0 0 = 10000 := rfl
   simp only [hgi, hsum]
   refine uT (by (try simp only [yl, yj, yA, xi, beq_eq_false_iff_ne, bne_eq_false_iff_eq, zT, yD]) <;> (try simp only [aaB, inb, inc, ge_iff_le, gt_iff_lt, zp, asT, ne_eq]) <;> simp) (uN sd (uN sd (uN (by (try simp only [aaB, inb, inc, ge_iff_le, gt_iff_lt, zp, asT, ne_eq]); simp) ?_)))
   repeat refine za ?_
   rw [zF zc, zL zc]
   have m1 : (d + A[k] * 10000) % 10000 = d := zc
   have m2 : (d + A[k] * 10000) / 10000 = A[k] := zc
   have m3 : s.set k d = s := by
    rw [← hd, akB zc]
    exact List.set_getElem_self zc
   rw [m1, m2, m3, aaA (x := A[k]) zc]
   rfl
  rw [ac7 s1]
  refine acS ?_
  simp only [aeW, hw, hkl, zp, zv]
  refine uF (by (try simp only [yl, yj, yA, xi, beq_eq_false_iff_ne, bne_eq_false_iff_eq, zT, yD]) <;> (try simp only [aaB, inb, inc, ge_iff_le, gt_iff_lt, zp, asT, ne_eq]) <;> simp) (uN sd ?_)
  repeat refine za ?_
  rw [hset, aaA (x := (k : Int) + 1) zc]
  rfl
 ·right
  have hkk : k = A.length := zc
  subst hkk
  rw [Nat.sub_self, List.replicate_zero, ve, zt]
  refine uF sd ?_
  refine uC (dig (V 10000 A * V 10000 [10000]).toNat, ()) ?_ ?_
  ·rw [zy zi]
   refine ahE (aFg zc hda) zh ?_
   rw [hV1]
   show 0 + 10000 * V 10000 A = _
   omega
  ·rfl
theorem aBw (A D : List Int) (y) (h : ab2 (A, D, ()) = some y) : (afU A D).toO = some y := by
 unfold ab2 at h
 split at h
 case isFalse => cases h
 case isTrue hp =>
 obtain ⟨hda, hdb, la, lb⟩ := hp
 dsimp only at hda hdb la lb h
 injection h with h
 subst h
 rcases hdb with hdb | rfl
 ·exact aDX A D hda hdb la lb
 ·exact ay4 A hda la
theorem aRP {a d : Nat} (h1 : (dig a).length ≤ 1000000000000) (h2 : 0 < d) (h3 : d < 10000) : atG (dig a, (d : Int), ()) = some (dig (a / d), ((a % d : Nat) : Int), ()) := by
 refine aaE (enc := fun p : Nat × Nat => (dig p.1, (p.2 : Int), ())) (a, d) ⟨h1, h2, h3⟩ (fun b hb => ?_)
 obtain ⟨e1, e2⟩ := Prod.mk.inj hb
 obtain ⟨e2, -⟩ := Prod.mk.inj e2
 exact Prod.ext (aAr e1) (Int.ofNat.inj e2)
theorem aNX (Vm Vq P d R m X Y B W : Int) (h : Vm = Vq * d + R) (h2 : Y + d * X = R * B + m) (hW : W = m + B * Vm) (hP : P = X + B * Vq) : W = P * d + Y := by
 subst hW hP h
 grind
theorem aIO (m : List Int) (d : Int) (y) (h : atG (m, d, ()) = some y) : (ay7 m d).toO = some y := by
 obtain ⟨⟨a, e⟩, hn, hx, rfl⟩ := aaC h
 obtain ⟨rfl, hx2⟩ := Prod.mk.inj hx; obtain ⟨rfl, -⟩ := Prod.mk.inj hx2; dsimp only
 obtain ⟨la, he, he2⟩ := hn
 simp only at la he he2
 have hda := adU a
 have hVa := ah3 a
 unfold ay7
 refine uN sn ?_
 refine uO (((dig a).length : Int) - 1, 0, List.replicate (dig a).length 0, ()) ?_ ?_
 ·repeat refine za ?_
  simp only [aaB]
  rw [aaA (x := ((dig a).length : Int) - 1) zc]
  rfl
 refine aaK (fun i : Int × Int × List Int × Unit => ∃ k : Nat, k ≤ (dig a).length ∧ i.1 = (k : Int) - 1 ∧ 0 ≤ i.2.1 ∧ i.2.1 < e ∧ i.2.2.1.length = (dig a).length ∧ Dg 10000 i.2.2.1 ∧ V 10000 ((dig a).drop k) = V 10000 (i.2.2.1.drop k) * e + i.2.1) (fun i => (i.1 + 1).toNat) (fun _ => (dig (a / e), ((a % e : Nat) : Int), ())) ?_ _ ⟨_, zq _, rfl, by simp, by simp; omega, by simp, ahF zc _, by rw [acY _ (zq _), acY _ zi]; simp⟩
 rintro ⟨i, r, q, u⟩ ⟨k, h1, h2, h3, h4, h5, h6, h7⟩
 simp only at h2 h3 h4 h5 h6 h7
 subst h2
 rcases zC k with h0 | h0
 ·subst h0
  right
  simp only [yK, hVa] at h7
  obtain ⟨v, hv⟩ := zu (aaT zc h6)
  obtain ⟨r', rfl⟩ := zu h3
  rw [hv] at h7
  have h8 : a = v * e + r' := by
   have : (a : Int) = ((v * e + r' : Nat) : Int) := by simpa using h7
   exact Int.ofNat.inj this
  have h9 : a / e = v := by rw [h8, xe, wQ _ _ he, xd zc, zv]
  have h10 : a % e = r' := by rw [h8, xe, wi, yG zc]
  simp only [auQ]
  refine uF sd ?_
  refine uC (dig v, ()) ?_ ?_
  ·rw [zy (by simp [len]; omega)]
   exact ahE h6 zc hv
  ·rw [aaI, h9, h10]
 ·left
  obtain ⟨j, rfl⟩ : ∃ j, k = j + 1 := ⟨k - 1, by omega⟩
  have e6 : ((j + 1 : Nat) : Int) - 1 = (j : Int) := zc
  rw [e6]
  simp only [auQ, aaL]
  have e1 := aaU 10000 (dig a) j
  have e2 := aa5 zc hda j
  have g1 : 0 ≤ r * 10000 + (dig a).getD j 0 := zc
  have g0 : (0 : Int) < e := zc
  have g2 := yk (r * 10000 + (dig a).getD j 0) e
  have g3 := yQ (r * 10000 + (dig a).getD j 0) (show (e : Int) ≠ 0 by omega)
  have g4 := yB (r * 10000 + (dig a).getD j 0) g0
  have g5 : 0 ≤ (r * 10000 + (dig a).getD j 0) / e := xJ g1 zc
  have g6 : (r * 10000 + (dig a).getD j 0) / e < 10000 := by
   refine Int.ediv_lt_of_lt_mul g0 ?_
   have : (r + 1) * 10000 ≤ e * 10000 := zE zc zc
   omega
  have hw1 : w64 (w64 (r * 10000) + (dig a).getD j 0) = r * 10000 + (dig a).getD j 0 := by
   rw [aaA (x := r * 10000) zc, aaA zc]
  simp only [hw1]
  refine ⟨((j : Int) - 1, (r * 10000 + (dig a).getD j 0) % e, q.set j ((r * 10000 + (dig a).getD j 0) / e), ()), ?_, ⟨j, by omega, rfl, g3, g4, by simp; omega, aj4 h6 ⟨g5, g6⟩ _, ?_⟩, by simp only; omega, ze⟩
  ·repeat refine za ?_
   rw [zF g1, zL g1]
   rw [aaA (x := (r * 10000 + (dig a).getD j 0) / e) zc]
   simp (disch := omega) only [aaI, aaA, aaP, aa1, abU, aaL, zv, zp, aaB, zt]
  ·simp only
   refine aNX _ _ _ _ _ _ _ _ 10000 _ h7 g2 e1 ?_
   rw [aaU 10000 (q.set j _) j, aq4 zc, aiV _ zc]
set_option maxRecDepth 100000
open Go Go.Vg Go.Proofs
noncomputable section
def aMu : LTab := [(124, 7, 2048, ⟨0, (Int) × Unit, .dat (.s 3) uq <| .nil, [2, 0], [], 0⟩), (124, 31, 7168, ⟨1, (Bool) × Unit, .dat (.s 2) se <| .nil, [3, 0], [], 0⟩), (124, 506, 9216, ⟨2, (Int) × Unit, .dat (.s 5) uq <| .nil, [3, 0], [], 0⟩)]
def azB (a : List UInt8) (j : Int × Unit) (j1 : Bool × Unit) (i : (Int) × Unit) : TT tX :=
 .ite (decide (i.1 < len a))
 (.need (inb i.1 (len a)) <| .ite (decide ((↑(UInt8.toNat (gi a i.1 0)) : Int) < 48))
 (.ok (.inr ((false, ()))))
 (.need (inb i.1 (len a)) <| .ite (decide ((↑(UInt8.toNat (gi a i.1 0)) : Int) > 57))
 (.ok (.inr ((false, ()))))
 (.tt <| .lt (w64 (i.1 + 1) : Int) fun z => .vW (vZ z j.1 a) <| .tr <| .ok (.inl ((z, ()))))))
 (.need (inb j.1 (len a)) <| .ite ((↑(UInt8.toNat (gi a j.1 0)) : Int) != 48)
 (.ok (.inr ((true, ()))))
 (.ok (.inr ((len a == 1, ())))))
def aIT (a : List UInt8) (j : Int × Unit) (j1 : (Bool) × Unit) : TT uP :=
 .loop 2 (.tt <| .vW (vZ j.1 j.1 a) <| .tr <| .ok ((j.1, ()))) (azB a j j1)
def azC (a : List UInt8) (j : (Int) × Unit) : TT uP :=
 .join 1 (ι := (Bool) × Unit) (.ite (decide (w64 (len a - j.1) < 1))
 (.ok (.inr ((false, ()))))
 (.ite (decide (w64 (len a - j.1) > 600))
 (.ok (.inr ((false, ()))))
 (.tt <| .vW (vZ false j.1 a) <| .tr <| .ok (.inl ((false, ())))))) (aIT a j)
def auT (a : List UInt8) : TT uP :=
 .join 0 (ι := (Int) × Unit) (.ite (decide (len a > 0))
 (.need (asT Int 0 ≤ 0 ∧ 0 < len a) <| .ite ((↑(UInt8.toNat (gi a 0 0)) : Int) == 45)
 (.tt <| .vW (vZ (1 : Int) false a) <| .tr <| .ok (.inl ((1, ()))))
 (.tt <| .vW (vZ (0 : Int) false a) <| .tr <| .ok (.inl ((0, ())))))
 (.tt <| .vW (vZ (0 : Int) false a) <| .tr <| .ok (.inl ((0, ()))))) (azC a)
def aUn : LTab := [(38, 7, 2049, ⟨0, (Int) × Unit, .dat (.s 3) uq <| .nil, [2, 0], [0], 0⟩), (38, 250, 6146, ⟨1, (Int) × Bool × (List Int) × Unit, .dat (.s 5) uq <| .appN (.s 4) 6 3 uq <| .nil, [3, 2, 0], [0], 1⟩), (38, 64074, 16386, ⟨2, (Int) × (Int) × Unit, .dat (.s 7) uq <| .dat (.s 6) uq <| .nil, [21, 20, 19, 18, 15, 14, 13, 4, 5, 3, 2, 0], [0], 0⟩), (38, 64074, 16385, ⟨3, (Int) × (Int) × Unit, .dat (.s 7) uq <| .dat (.s 6) uq <| .nil, [21, 20, 19, 18, 15, 14, 13, 4, 5, 3, 2, 0], [6, 0], 0⟩)]
def aD1 (a : List UInt8) (j : Int × Unit) (i : Int × Bool × List Int × Unit) (i1 : (Int) × (Int) × Unit) : TT (uQ ⊕ (tb ⊕ tq)) :=
 .ite (decide (i1.1 < i.1))
 (.need (inb i1.1 (len a)) <| .tt <| .lt (w64 (i1.1 + 1) : Int) fun z1 => .lt (w64 (w64 (i1.2.1 * 10) + w64 (wu8 ((↑(UInt8.toNat (gi a i1.1 0)) : Int) - 48))) : Int) fun z2 => .vW (ug z2 z1 (if j.1 > w64 (i.1 - 4) then j.1 else w64 (i.1 - 4) : Int) j.1 (w64 (i.1 - 4)) i.1 (decide (i.1 > j.1)) j.1 <| vX i.1 <| True ∧ (ud i.1 j.1 <| ux ∧ uf a)) <| .vW sB <| .ok (.inl ((z1, z2, ()))))
 (.need (1 * 8 ≤ 140737488355328) <| .tt <| .lt (w64 (i.1 - 4) : Int) fun z3 => .lt ([i1.2.1] : List Int) fun z4 => .vW ((ub 6 0 1 true) ∧ (ud z3 j.1 <| ux ∧ uf a)) <| .vW (vV (ua 3 z4) <| vV uJ True) <| .ok (.inr (.inl ((z3, false, z4, ())))))
def aD0 (a : List UInt8) (j : Int × Unit) (i : Int × Bool × List Int × Unit) (i2 : (Int) × (Int) × Unit) : TT (uQ ⊕ (tb ⊕ tq)) :=
 .ite (decide (i2.1 < i.1))
 (.need (inb i2.1 (len a)) <| .tt <| .lt (w64 (i2.1 + 1) : Int) fun z6 => .lt (w64 (w64 (i2.2.1 * 10) + w64 (wu8 ((↑(UInt8.toNat (gi a i2.1 0)) : Int) - 48))) : Int) fun z7 => .vW (ug z7 z6 (if j.1 > w64 (i.1 - 4) then j.1 else w64 (i.1 - 4) : Int) j.1 (w64 (i.1 - 4)) i.1 (decide (i.1 > j.1)) j.1 <| vX i.1 <| (ub 6 0 (List.length i.2.2.1) true) ∧ (ud i.1 j.1 <| ux ∧ uf a)) <| .vW (vV (ua 3 i.2.2.1) <| vV uJ True) <| .ok (.inl ((z6, z7, ()))))
 (.need ((List.length i.2.2.1 + 1) * 8 ≤ 140737488355328) <| .tt <| .lt (w64 (i.1 - 4) : Int) fun z8 => .lt (List.take (List.length i.2.2.1) i.2.2.1 ++ [i2.2.1] : List Int) fun z9 => .need ((((6) = (6)) ∧ (((0) = (0)) ∧ ((List.length i.2.2.1 + 1 = List.length z9) ∧ ((true) = (true))))) ∧ ((z8 : Int) = z8) ∧ ((j.1 : Int) = j.1) ∧ (((0) = (0)) ∧ (((0) = (0)) ∧ ((true) = (true)))) ∧ ((a) = (a)) ∧ True) <| .vW (vV (ua 3 z9) <| vV uJ True) <| .ok (.inr (.inl ((z8, false, z9, ())))))
def arW (a : List UInt8) (j : Int × Unit) (i : (Int) × Bool × (List Int) × Unit) : TT (tb ⊕ tq) :=
 .ite (i.2.1)
 (.ite (decide (i.1 > j.1))
 (.loop 2 (.tt <| .lt (if j.1 > w64 (i.1 - 4) then j.1 else w64 (i.1 - 4) : Int) fun z => .vW (ug (0 : Int) z z j.1 (w64 (i.1 - 4)) i.1 (decide (i.1 > j.1)) j.1 <| vX i.1 <| True ∧ (ud i.1 j.1 <| ux ∧ uf a)) <| .vW sB <| .ok ((z, 0, ()))) (aD1 a j i))
 (.call (abP (j.1 == 1, [], ())) ah8 fun y =>
 .ok (.inr (((y.1.1, y.1.2.1, ()), ())))))
 (.ite (decide (i.1 > j.1))
 (.loop 3 (.tt <| .lt (if j.1 > w64 (i.1 - 4) then j.1 else w64 (i.1 - 4) : Int) fun z5 => .vW (ug (0 : Int) z5 z5 j.1 (w64 (i.1 - 4)) i.1 (decide (i.1 > j.1)) j.1 <| vX i.1 <| (ub 6 0 (List.length i.2.2.1) true) ∧ (ud i.1 j.1 <| ux ∧ uf a)) <| .vW (vV (ua 3 i.2.2.1) <| vV uJ True) <| .ok ((z5, 0, ()))) (aD0 a j i))
 (.call (abP (j.1 == 1, List.take (List.length i.2.2.1) i.2.2.1, ())) ah8 fun y1 =>
 .ok (.inr (((y1.1.1, y1.1.2.1, ()), ())))))
def aSw (a : List UInt8) (j : (Int) × Unit) : TT tq :=
 .loop 1 (.tt <| .vW (True ∧ (ud (len a) j.1 <| ux ∧ uf a)) <| .vW sB <| .ok ((len a, true, [], ()))) (arW a j)
def aIW (a : List UInt8) : TT tq :=
 .join 0 (ι := (Int) × Unit) (.need (asT Int 0 ≤ 0 ∧ 0 < len a) <| .ite ((↑(UInt8.toNat (gi a 0 0)) : Int) == 45)
 (.tt <| .vW (vX (1 : Int) <| ux ∧ uf a) <| .vW sB <| .ok (.inl ((1, ()))))
 (.tt <| .vW (vX (0 : Int) <| ux ∧ uf a) <| .vW sB <| .ok (.inl ((0, ()))))) (aSw a)
def aMq : LTab := [(135, 2042, 45058, ⟨0, (Int) × (List Int) × (List Int) × Unit, .dat (.s 12) uq <| .dat (.s 11) tV <| .row 29 uq <| .nil, [10, 9, 8, 5, 4, 0, 1], [29], 0⟩), (135, 1045658, 60418, ⟨1, (Int) × (Int) × Unit, .dat (.s 14) uq <| .dat (.s 13) uq <| .nil, [83, 82, 11, 81, 80, 79, 77, 76, 75, 74, 71, 70, 12, 10, 9, 8, 5, 4, 0, 1], [29], 0⟩), (135, 2091324, 74754, ⟨2, (Int) × (Int) × Unit, .dat (.s 16) uq <| .dat (.s 15) uq <| .nil, [109, 108, 107, 106, 105, 104, 103, 102, 87, 86, 85, 84, 13, 14, 83, 82, 11, 81, 80, 79, 77, 76, 75, 74, 71, 70, 12, 10, 9, 8, 5, 4, 0, 1], [29], 0⟩)]
def ay5 (a : List Int) (b : List Int) (i : Int × List Int × List Int × Unit) (y2 : List Int × Unit) (i1 : Int × Int × Unit) (i2 : (Int) × (Int) × Unit) : TT (uQ ⊕ (uQ ⊕ uE)) :=
 .ite (decide (w64 (i2.1 - i2.2.1) > 1))
 (.triv (asT Int 2 ≠ 0) zf <| .call (ab2 (b, [w64 (Int.tdiv (w64 (i2.2.1 + i2.1)) 2)], ())) aH3 fun y3 =>
 .call (ac3 (y3.1, ())) aH3 fun y4 =>
 .call (ag1 (y4.1, y2.1, ())) Dd6 fun y5 =>
 .ite (decide (y5.1 ≤ 0))
 (.tt <| .lt (w64 (Int.tdiv (w64 (i2.2.1 + i2.1)) 2) : Int) fun z10 => .vW (ug z10 i2.1 (w64 (w64 (Int.tdiv i1.2.1 (w64 (w64 (gi b (w64 (len b - 1)) 0 * 10000) + gi b (w64 (w64 (len b - 1) - 1)) 0))) + 1) : Int) (w64 (Int.tdiv i1.2.1 (w64 (w64 (gi b (w64 (len b - 1)) 0 * 10000) + gi b (w64 (w64 (len b - 1) - 1)) 0))) : Int) (w64 (w64 (gi b (w64 (len b - 1)) 0 * 10000) + gi b (w64 (w64 (len b - 1) - 1)) 0) : Int) i1.2.1 (w64 (Int.tdiv i1.2.1 (w64 (w64 (w64 (gi b (w64 (len b - 1)) 0 * 10000) + gi b (w64 (w64 (len b - 1) - 1)) 0) + 1))) : Int) (w64 (w64 (w64 (gi b (w64 (len b - 1)) 0 * 10000) + gi b (w64 (w64 (len b - 1) - 1)) 0) + 1) : Int) <| ug (w64 (w64 (gi b (w64 (len b - 1)) 0 * 10000) + gi b (w64 (w64 (len b - 1) - 1)) 0) : Int) i1.2.1 (decide (i1.1 ≥ w64 (w64 (len b - 1) - 1))) (w64 (w64 (len b - 1) - 1)) (w64 (len b - 1)) i1.1 i1.2.1 i1.1 <| ug (w64 (w64 (len b - 1) + 1)) (w64 (len b - 1)) y2.1 y2.1 (List.take (1 + List.length i.2.1) ([gi a i.1 0] ++ i.2.1)) i.2.1 (gi a i.1 0) (gi a i.1 0) <| uc i.1 a (decide (i.1 ≥ 0)) i.1 i.1 <| (ub 29 0 (Int.toNat (w64 (len a - w64 (len b - 1)))) true) ∧ (ud (w64 (w64 (gi b (w64 (len b - 1)) 0 * 10000) + gi b (w64 (w64 (len b - 1) - 1)) 0) : Int) (w64 (len b - 1)) <| True ∧ True ∧ ui a b)) <| .vW (vV (ua 3 i.2.2.1) True) <| .ok (.inl ((i2.1, z10, ()))))
 (.tt <| .lt (w64 (Int.tdiv (w64 (i2.2.1 + i2.1)) 2) : Int) fun z11 => .lt (i2.2.1 : Int) fun z12 => .vW (ug z12 z11 (w64 (w64 (Int.tdiv i1.2.1 (w64 (w64 (gi b (w64 (len b - 1)) 0 * 10000) + gi b (w64 (w64 (len b - 1) - 1)) 0))) + 1) : Int) (w64 (Int.tdiv i1.2.1 (w64 (w64 (gi b (w64 (len b - 1)) 0 * 10000) + gi b (w64 (w64 (len b - 1) - 1)) 0))) : Int) (w64 (w64 (gi b (w64 (len b - 1)) 0 * 10000) + gi b (w64 (w64 (len b - 1) - 1)) 0) : Int) i1.2.1 (w64 (Int.tdiv i1.2.1 (w64 (w64 (w64 (gi b (w64 (len b - 1)) 0 * 10000) + gi b (w64 (w64 (len b - 1) - 1)) 0) + 1))) : Int) (w64 (w64 (w64 (gi b (w64 (len b - 1)) 0 * 10000) + gi b (w64 (w64 (len b - 1) - 1)) 0) + 1) : Int) <| ug (w64 (w64 (gi b (w64 (len b - 1)) 0 * 10000) + gi b (w64 (w64 (len b - 1) - 1)) 0) : Int) i1.2.1 (decide (i1.1 ≥ w64 (w64 (len b - 1) - 1))) (w64 (w64 (len b - 1) - 1)) (w64 (len b - 1)) i1.1 i1.2.1 i1.1 <| ug (w64 (w64 (len b - 1) + 1)) (w64 (len b - 1)) y2.1 y2.1 (List.take (1 + List.length i.2.1) ([gi a i.1 0] ++ i.2.1)) i.2.1 (gi a i.1 0) (gi a i.1 0) <| uc i.1 a (decide (i.1 ≥ 0)) i.1 i.1 <| (ub 29 0 (Int.toNat (w64 (len a - w64 (len b - 1)))) true) ∧ (ud (w64 (w64 (gi b (w64 (len b - 1)) 0 * 10000) + gi b (w64 (w64 (len b - 1) - 1)) 0) : Int) (w64 (len b - 1)) <| True ∧ True ∧ ui a b)) <| .vW (vV (ua 3 i.2.2.1) True) <| .ok (.inl ((z11, z12, ())))))
 (.need (inb i.1 (↑(Int.toNat (w64 (len a - w64 (len b - 1)))) : Int)) <| .call (ab2 (b, [i2.2.1], ())) aH3 fun y6 =>
 .call (abF (y2.1, y6.1, ())) aH3 fun y7 =>
 .tt <| .lt (w64 (i.1 - 1) : Int) fun z13 => .lt (List.set i.2.2.1 (0 + Int.toNat i.1) i2.2.1 : List Int) fun z14 => .vW (ud y7.1 z13 <| (ub 29 0 (Int.toNat (w64 (len a - w64 (len b - 1)))) true) ∧ (ud (w64 (w64 (gi b (w64 (len b - 1)) 0 * 10000) + gi b (w64 (w64 (len b - 1) - 1)) 0) : Int) (w64 (len b - 1)) <| True ∧ True ∧ ui a b)) <| .vW (vV (ua 3 z14) True) <| .ok (.inr (.inr (.inl ((z13, y7.1, z14, ()))))))
def afK (a : List Int) (b : List Int) (i : Int × List Int × List Int × Unit) (y2 : List Int × Unit) (i1 : (Int) × (Int) × Unit) : TT (uQ ⊕ uE) :=
 .ite (decide (i1.1 ≥ w64 (w64 (len b - 1) - 1)))
 (.ite (decide (i1.1 < len y2.1))
 (.need (inb i1.1 (len y2.1)) <| .tt <| .lt (w64 (i1.1 - 1) : Int) fun z4 => .lt (w64 (w64 (i1.2.1 * 10000) + gi y2.1 i1.1 0) : Int) fun z5 => .vW (ug z5 z4 (w64 (w64 (len b - 1) + 1)) (w64 (len b - 1)) y2.1 y2.1 (List.take (1 + List.length i.2.1) ([gi a i.1 0] ++ i.2.1)) i.2.1 <| uj (gi a i.1 0) (gi a i.1 0) i.1 a (decide (i.1 ≥ 0)) i.1 i.1 <| (ub 29 0 (Int.toNat (w64 (len a - w64 (len b - 1)))) true) ∧ (ud (w64 (w64 (gi b (w64 (len b - 1)) 0 * 10000) + gi b (w64 (w64 (len b - 1) - 1)) 0) : Int) (w64 (len b - 1)) <| True ∧ True ∧ ui a b)) <| .vW (vV (ua 3 i.2.2.1) True) <| .ok (.inl ((z4, z5, ()))))
 (.tt <| .lt (w64 (i1.1 - 1) : Int) fun z6 => .lt (w64 (i1.2.1 * 10000) : Int) fun z7 => .vW (ug z7 z6 (w64 (w64 (len b - 1) + 1)) (w64 (len b - 1)) y2.1 y2.1 (List.take (1 + List.length i.2.1) ([gi a i.1 0] ++ i.2.1)) i.2.1 <| uj (gi a i.1 0) (gi a i.1 0) i.1 a (decide (i.1 ≥ 0)) i.1 i.1 <| (ub 29 0 (Int.toNat (w64 (len a - w64 (len b - 1)))) true) ∧ (ud (w64 (w64 (gi b (w64 (len b - 1)) 0 * 10000) + gi b (w64 (w64 (len b - 1) - 1)) 0) : Int) (w64 (len b - 1)) <| True ∧ True ∧ ui a b)) <| .vW (vV (ua 3 i.2.2.1) True) <| .ok (.inl ((z6, z7, ())))))
 (.need (w64 (w64 (w64 (gi b (w64 (len b - 1)) 0 * 10000) + gi b (w64 (w64 (len b - 1) - 1)) 0) + 1) ≠ 0) <| .need (w64 (w64 (gi b (w64 (len b - 1)) 0 * 10000) + gi b (w64 (w64 (len b - 1) - 1)) 0) ≠ 0) <| .loop 2 (.tt <| .lt (w64 (w64 (Int.tdiv i1.2.1 (w64 (w64 (gi b (w64 (len b - 1)) 0 * 10000) + gi b (w64 (w64 (len b - 1) - 1)) 0))) + 1) : Int) fun z8 => .lt (w64 (Int.tdiv i1.2.1 (w64 (w64 (w64 (gi b (w64 (len b - 1)) 0 * 10000) + gi b (w64 (w64 (len b - 1) - 1)) 0) + 1))) : Int) fun z9 => .vW (ug z9 z8 z8 (w64 (Int.tdiv i1.2.1 (w64 (w64 (gi b (w64 (len b - 1)) 0 * 10000) + gi b (w64 (w64 (len b - 1) - 1)) 0))) : Int) (w64 (w64 (gi b (w64 (len b - 1)) 0 * 10000) + gi b (w64 (w64 (len b - 1) - 1)) 0) : Int) i1.2.1 z9 (w64 (w64 (w64 (gi b (w64 (len b - 1)) 0 * 10000) + gi b (w64 (w64 (len b - 1) - 1)) 0) + 1) : Int) <| ug (w64 (w64 (gi b (w64 (len b - 1)) 0 * 10000) + gi b (w64 (w64 (len b - 1) - 1)) 0) : Int) i1.2.1 (decide (i1.1 ≥ w64 (w64 (len b - 1) - 1))) (w64 (w64 (len b - 1) - 1)) (w64 (len b - 1)) i1.1 i1.2.1 i1.1 <| ug (w64 (w64 (len b - 1) + 1)) (w64 (len b - 1)) y2.1 y2.1 (List.take (1 + List.length i.2.1) ([gi a i.1 0] ++ i.2.1)) i.2.1 (gi a i.1 0) (gi a i.1 0) <| uc i.1 a (decide (i.1 ≥ 0)) i.1 i.1 <| (ub 29 0 (Int.toNat (w64 (len a - w64 (len b - 1)))) true) ∧ (ud (w64 (w64 (gi b (w64 (len b - 1)) 0 * 10000) + gi b (w64 (w64 (len b - 1) - 1)) 0) : Int) (w64 (len b - 1)) <| True ∧ True ∧ ui a b)) <| .vW (vV (ua 3 i.2.2.1) True) <| .ok ((z8, z9, ()))) (ay5 a b i y2 i1))
def aqT (a : List Int) (b : List Int) (i : (Int) × (List Int) × (List Int) × Unit) : TT uE :=
 .ite (decide (i.1 ≥ 0))
 (.need (inb i.1 (len a)) <| .need ((1 + List.length i.2.1) * 8 ≤ 140737488355328) <| .call (ac3 (List.take (1 + List.length i.2.1) ([gi a i.1 0] ++ i.2.1), ())) aH3 fun y2 =>
 .loop 1 (.tt <| .lt (w64 (w64 (len b - 1) + 1) : Int) fun z3 => .vW (ug (0 : Int) z3 z3 (w64 (len b - 1)) y2.1 y2.1 (List.take (1 + List.length i.2.1) ([gi a i.1 0] ++ i.2.1)) i.2.1 <| uj (gi a i.1 0) (gi a i.1 0) i.1 a (decide (i.1 ≥ 0)) i.1 i.1 <| (ub 29 0 (Int.toNat (w64 (len a - w64 (len b - 1)))) true) ∧ (ud (w64 (w64 (gi b (w64 (len b - 1)) 0 * 10000) + gi b (w64 (w64 (len b - 1) - 1)) 0) : Int) (w64 (len b - 1)) <| True ∧ True ∧ ui a b)) <| .vW (vV (ua 3 i.2.2.1) True) <| .ok ((z3, 0, ()))) (afK a b i y2))
 (.call (ac3 (List.take (Int.toNat (w64 (len a - w64 (len b - 1)))) i.2.2.1, ())) aH3 fun y8 =>
 .ok (.inr ((y8.1, i.2.1, ()))))
def auO (a : List Int) (b : List Int) : TT (List Int × List Int × Unit) :=
 .ite (len b == 1)
 (.need (asT Int 0 ≤ 0 ∧ 0 < len b) <| .call (atG (a, gi b 0 0, ())) aWx fun y =>
 .call (ac3 ([y.2.1], ())) aH3 fun y1 =>
 .ok ((y.1, y1.1, ())))
 (.ite (decide (len a ≤ w64 (len b - 1)))
 (.need ((0 + List.length a) * 8 ≤ 140737488355328) <| .ok (([], List.take (0 + List.length a) (List.take 0 [] ++ a), ())))
 (.need (inb (w64 (len b - 1)) (len b)) <| .need (inb (w64 (w64 (len b - 1) - 1)) (len b)) <| .need (0 ≤ w64 (len a - w64 (len b - 1)) ∧ w64 (len a - w64 (len b - 1)) ≤ w64 (len a - w64 (len b - 1)) ∧ w64 (len a - w64 (len b - 1)) * (↑8 : Int) ≤ 140737488355328) <| .need (inc (w64 (len a - w64 (len b - 1))) (len a)) <| .need ((0 + List.length (List.take (List.length a - Int.toNat (w64 (len a - w64 (len b - 1)))) (List.drop (Int.toNat (w64 (len a - w64 (len b - 1)))) a))) * 8 ≤ 140737488355328) <| .loop 0 (.tt <| .lt (w64 ((↑(Int.toNat (w64 (len a - w64 (len b - 1)))) : Int) - 1) : Int) fun z => .lt (List.take (0 + List.length (List.take (List.length a - Int.toNat (w64 (len a - w64 (len b - 1)))) (List.drop (Int.toNat (w64 (len a - w64 (len b - 1)))) a))) (List.take 0 [] ++ List.take (List.length a - Int.toNat (w64 (len a - w64 (len b - 1)))) (List.drop (Int.toNat (w64 (len a - w64 (len b - 1)))) a)) : List Int) fun z1 => .lt (List.replicate (Int.toNat (w64 (len a - w64 (len b - 1)))) 0 : List Int) fun z2 => .vW (ud z1 z <| (ub 29 0 (Int.toNat (w64 (len a - w64 (len b - 1)))) true) ∧ (ud (w64 (w64 (gi b (w64 (len b - 1)) 0 * 10000) + gi b (w64 (w64 (len b - 1) - 1)) 0) : Int) (w64 (len b - 1)) <| True ∧ True ∧ ui a b)) <| .vW (vV (ua 3 z2) True) <| .ok ((z, z1, z2, ()))) (aqT a b)))
def aPk : LTab := []
def aF9 (a : Bool × List Int × Unit) : TT tq :=
 .call (abP (!a.1, a.2.1, ())) ah8 fun y =>
 .ok (((y.1.1, y.1.2.1, ()), ()))
def aPm : LTab := []
def azE (a : Bool × List Int × Unit) (b : Bool × List Int × Unit) : TT tq :=
 .ite (a.1 == b.1)
 (.call (ax2 (a.2.1, b.2.1, ())) aH3 fun y =>
 .call (abP (a.1, y.1, ())) ah8 fun y1 =>
 .ok (((y1.1.1, y1.1.2.1, ()), ())))
 (.call (ag1 (a.2.1, b.2.1, ())) Dd6 fun y2 =>
 .ite (decide (y2.1 ≥ 0))
 (.call (abF (a.2.1, b.2.1, ())) aH3 fun y3 =>
 .call (abP (a.1, y3.1, ())) ah8 fun y4 =>
 .ok (((y4.1.1, y4.1.2.1, ()), ())))
 (.call (abF (b.2.1, a.2.1, ())) aH3 fun y5 =>
 .call (abP (b.1, y5.1, ())) ah8 fun y6 =>
 .ok (((y6.1.1, y6.1.2.1, ()), ()))))
def aMy : LTab := []
def aCm (a : Bool × List Int × Unit) (b : Bool × List Int × Unit) : TT tq :=
 .call (ai3 ((b.1, b.2.1, ()), ())) ah8 fun y =>
 .call (ahU ((a.1, a.2.1, ()), y.1, ())) ah8 fun y1 =>
 .ok (((y1.1.1, y1.1.2.1, ()), ()))
def aMt : LTab := []
def aCj (a : Bool × List Int × Unit) (b : Bool × List Int × Unit) : TT tq :=
 .call (ab2 (a.2.1, b.2.1, ())) aH3 fun y =>
 .call (abP (!a.1 == b.1, y.1, ())) ah8 fun y1 =>
 .ok (((y1.1.1, y1.1.2.1, ()), ()))
def aMv : LTab := []
def auU (a : Bool × List Int × Unit) (b : Bool × List Int × Unit) : TT (ut × ut × Unit) :=
 .call (alD (a.2.1, b.2.1, ())) aWq fun y =>
 .call (abP (!a.1 == b.1, y.1, ())) ah8 fun y1 =>
 .call (abP (a.1, y.2.1, ())) ah8 fun y2 =>
 .ite (y2.1.1)
 (.call (ahU ((y2.1.1, y2.1.2.1, ()), (false, b.2.1, ()), ())) ah8 fun y3 =>
 .ite (b.1)
 (.call (abR (1, ())) ah8 fun y4 =>
 .call (ahU ((y1.1.1, y1.1.2.1, ()), y4.1, ())) ah8 fun y5 =>
 .ok (((y5.1.1, y5.1.2.1, ()), (y3.1.1, y3.1.2.1, ()), ())))
 (.call (abR (1, ())) ah8 fun y6 =>
 .call (alE ((y1.1.1, y1.1.2.1, ()), y6.1, ())) ah8 fun y7 =>
 .ok (((y7.1.1, y7.1.2.1, ()), (y3.1.1, y3.1.2.1, ()), ()))))
 (.ok (((y1.1.1, y1.1.2.1, ()), (y2.1.1, y2.1.2.1, ()), ())))
def aMx : LTab := []
def aCl (a : Bool × List Int × Unit) (b : Bool × List Int × Unit) : TT uS :=
 .call (alE ((a.1, a.2.1, ()), (b.1, b.2.1, ()), ())) ah8 fun y =>
 .ite (y.1.1)
 (.ok ((-1, ())))
 (.ite (decide (len y.1.2.1 > 0))
 (.ok ((1, ())))
 (.ok ((0, ()))))
def aGg : LTab := [(86, 28, 9217, ⟨0, (List Int) × (List Int) × Unit, .dat (.s 6) tV <| .dat (.s 5) tV <| .nil, [4], [2, 1, 0], 0⟩)]
def arX (a : Bool × List Int × Unit) (b : Bool × List Int × Unit) (i : (List Int) × (List Int) × Unit) : TT (tH ⊕ tq) :=
 .ite (decide (len i.1 > 0))
 (.call (alD (i.2.1, i.1, ())) aWq fun y =>
 .tt <| .lt (y.2.1 : List Int) fun z2 => .vW (ud i.1 z2 <| uK ∧ True) <| .vW (vV uJ <| vV (vZ 83 b.1 b.2.1) <| vV (vZ 83 a.1 a.2.1) True) <| .ok (.inl ((z2, i.1, ()))))
 (.ok (.inr (((false, i.2.1, ()), ()))))
def awJ (a : Bool × List Int × Unit) (b : Bool × List Int × Unit) : TT tq :=
 .loop 0 (.tt <| .lt (b.2.1 : List Int) fun z => .lt (a.2.1 : List Int) fun z1 => .vW (ud z1 z <| uK ∧ True) <| .vW (vV uJ <| vV (vZ 83 b.1 z) <| vV (vZ 83 a.1 z1) True) <| .ok ((z, z1, ()))) (arX a b)
def aIU : LTab := [(83, 58, 5121, ⟨0, (Int) × (Bool) × (List Int) × Unit, .dat (.s 6) uq <| .dat (.c 3 0) se <| .dat (.c 3 1) tV <| .nil, [5, 4, 2, 1], [3, 1, 0], 0⟩)]
def awH (a : Bool × List Int × Unit) (n : Int) (y : ut × Unit) (i : (Int) × (Bool) × (List Int) × Unit) : TT (((Int) × (Bool) × (List Int) × Unit) ⊕ tq) :=
 .ite (decide (i.1 < n))
 (.call (acF ((i.2.1, i.2.2.1, ()), (a.1, a.2.1, ()), ())) ah8 fun y1 =>
 .tt <| .lt (w64 (i.1 + 1) : Int) fun z2 => .lt (y1.1.1 : Bool) fun z3 => .lt (y1.1.2.1 : List Int) fun z4 => .vW (vX z2 <| uM ∧ uD ∧ ux ∧ uf n) <| .vW (vV (vZ 83 z3 z4) <| vV uJ <| vV (vZ 83 a.1 a.2.1) True) <| .ok (.inl ((z2, z3, z4, ()))))
 (.ok (.inr (((i.2.1, i.2.2.1, ()), ()))))
def azD (a : Bool × List Int × Unit) (n : Int) : TT tq :=
 .call (abR (1, ())) ah8 fun y =>
 .loop 0 (.tt <| .lt (y.1.1 : Bool) fun z => .lt (y.1.2.1 : List Int) fun z1 => .vW (vX (0 : Int) <| uM ∧ uD ∧ ux ∧ uf n) <| .vW (vV (vZ 83 z z1) <| vV uJ <| vV (vZ 83 a.1 a.2.1) True) <| .ok ((0, z, z1, ()))) (awH a n y)
def aDZ : LTab := [(203, 3, 3072, ⟨0, (Int) × (Int) × Unit, .dat (.s 2) uq <| .dat (.s 3) uq <| .nil, [1], [0], 0⟩), (203, 122, 9216, ⟨1, (Int) × (Int) × Unit, .dat (.s 5) uq <| .dat (.s 4) uq <| .nil, [3, 2, 1], [0], 0⟩)]
def ap9 (a : Bool × List Int × Unit) (j : Int × Int × Unit) (i : (Int) × (Int) × Unit) : TT (uQ ⊕ uv) :=
 .ite (decide (i.1 ≥ 0))
 (.need (inb i.1 (len a.2.1)) <| .tt <| .lt (w64 (i.1 - 1) : Int) fun z1 => .lt (w64 (w64 (i.2.1 * 10000) - gi a.2.1 i.1 0) : Int) fun z2 => .vW (ue z2 z1 j.2.1 j.1 <| ux ∧ True) <| .vW (vV (vZ 83 a.1 a.2.1) True) <| .ok (.inl ((z1, z2, ()))))
 (.ite (a.1)
 (.ok (.inr ((i.2.1, 0, ()))))
 (.ok (.inr ((w64 (0 - i.2.1), 0, ())))))
def aBx (a : Bool × List Int × Unit) (j : (Int) × (Int) × Unit) : TT uv :=
 .loop 1 (.tt <| .lt (w64 (len a.2.1 - 1) : Int) fun z => .vW (ue (0 : Int) z j.2.1 j.1 <| ux ∧ True) <| .vW (vV (vZ 83 a.1 a.2.1) True) <| .ok ((z, 0, ()))) (ap9 a j)
def al3 (a : Bool × List Int × Unit) : TT uv :=
 .join 0 (ι := (Int) × (Int) × Unit) (.call (abR (-9223372036854775808, ())) ah8 fun y =>
 .call (aiC ((a.1, a.2.1, ()), y.1, ())) Dd6 fun y1 =>
 .ite (decide (y1.1 < 0))
 (.ok (.inr ((0, 6, ()))))
 (.call (abR (9223372036854775807, ())) ah8 fun y2 =>
 .call (aiC ((a.1, a.2.1, ()), y2.1, ())) Dd6 fun y3 =>
 .ite (decide (y3.1 > 0))
 (.ok (.inr ((0, 6, ()))))
 (.tt <| .vW (ud (0 : Int) (0 : Int) <| ux ∧ True) <| .vW (vV (vZ 83 a.1 a.2.1) True) <| .ok (.inl ((0, 0, ())))))) (aBx a)
end
theorem al4 {p q : Int × Int} (h : (pl p.1, pl p.2, ()) = (pl q.1, pl q.2, ())) : p = q := by
 obtain ⟨h1, h2⟩ := Prod.mk.inj h
 obtain ⟨h2, -⟩ := Prod.mk.inj h2
 exact Prod.ext (arY h1) (arY h2)
theorem aC1 {p q : Nat × Nat} (h : (dig p.1, dig p.2, ()) = (dig q.1, dig q.2, ())) : p = q := by
 obtain ⟨h1, h2⟩ := Prod.mk.inj h
 obtain ⟨h2, -⟩ := Prod.mk.inj h2
 exact Prod.ext (aAr h1) (aAr h2)
theorem aQv {n : Nat} (h : n < 10000) : isD (aBF n) := by
 intro c hc
 simp only [aBF, zx, List.not_mem_nil, or_false] at hc
 rcases hc with rfl | rfl | rfl | rfl <;> rw [axZ zc] <;> omega
theorem aQu {n : Nat} (h : n < 10000) : num (aBF n) = n := by
 have e : ∀ a b c d : Nat, a < 10 → b < 10 → c < 10 → d < 10 → num [UInt8.ofNat (48 + a), UInt8.ofNat (48 + b), UInt8.ofNat (48 + c), UInt8.ofNat (48 + d)] = ((a * 10 + b) * 10 + c) * 10 + d := by
  intro a b c d ha hb hc hd
  unfold num
  rw [ahL, ahL, ahL, ahL, aCZ ha, aCZ hb, aCZ hc, aCZ hd]
  simp [aBn]
 unfold aBF
 rw [e _ _ _ _ zc zc zc zc]
 omega
theorem aST {s : List UInt8} {k : Nat} (h : ∀ c ∈ s.take k, c = 48) : num s = num (s.drop k) := by
 have h1 : ∀ l : List UInt8, (∀ c ∈ l, c = 48) → num l = 0 := by
  intro l
  induction l using aIj with
  | nil => intro _; rfl
  | snoc l c ih =>
   intro h
   rw [apC, ih (fun d hd => h d (vN _ hd)), h c zi]
   rfl
 conv => lhs; rw [← xz k s]
 rw [apE, h1 _ h]
 omega
theorem aU5 {n : Nat} (h : Bd 6 n) : (dig n).length ≤ 13000000000 := by
 have h2 := aC2 (k := 1000000 * 4 ^ 6) h
 omega
theorem aHT {z : Int} (h : Bd 6 z.natAbs) : aoQ (pl z, ()) = some (dec z, ()) := aaE (enc := fun x : Int => (pl x, ())) z h (fun b hb => arY (Prod.mk.inj hb).1)
theorem aIS (x : PlT) (y) (h : aoQ (x, ()) = some y) : (azA x).toO = some y := by
 obtain ⟨z, hp, hx, rfl⟩ := aaC h
 obtain ⟨rfl, -⟩ := Prod.mk.inj hx
 have hl := aU5 hp
 have hd := adU z.natAbs
 have hV := ah3 z.natAbs
 clear h hx
 unfold azA
 dsimp only
 refine uO (((dig z.natAbs).length : Int) - 1, [], ()) ?_ ?_
 ·repeat refine za ?_
  rw [aaI, aaB, aaA zc]
 refine aaK (fun i : Int × List UInt8 × Unit => ∃ k : Nat, k ≤ (dig z.natAbs).length ∧ i.1 = (k : Int) - 1 ∧ isD i.2.1 ∧ i.2.1.length = 4 * ((dig z.natAbs).length - k) ∧ (num i.2.1 : Int) = V 10000 ((dig z.natAbs).drop k)) (fun i => (i.1 + 1).toNat) (fun _ => (dec z, ())) ?_ _ ⟨_, zq _, rfl, (show isD [] from fun c hc => by cases hc), by simp, by rw [acY _ (zq _)]; rfl⟩
 rintro ⟨i, s, u⟩ ⟨k, h1, h2, h3, h4, h5⟩
 dsimp only at h2 h3 h4 h5
 subst h2
 cases k with
 | succ j =>
  left
  have e6 : ((j + 1 : Nat) : Int) - 1 = (j : Int) := zc
  have dj := aa5 zc hd j
  obtain ⟨m, hm⟩ := zu dj.1
  have hm2 : m < 10000 := zc
  rw [e6]
  refine ⟨((j : Int) - 1, s ++ aBF m, ()), ?_, ⟨j, by omega, rfl, ?_, ?_, ?_⟩, by dsimp only; omega, ze⟩
  ·simp only [auS, aaL, hm]
   refine uT sd (uN sd (uC _ (aRQ hm2) (uN ?_ ?_)))
   ·have : (aBF m).length = 4 := rfl
    dsimp only
    rw [this, h4]
    unfold lim; omega
   ·repeat refine za ?_
    rw [aaI, aaA (x := (j : Int) - 1) zc]
  ·exact isD_append.2 ⟨h3, aQv hm2⟩
  ·have : (aBF m).length = 4 := rfl
   simp only [zH, this, h4]; omega
  ·dsimp only
   rw [apE, aQu hm2, aaU, hm, ← h5]
   have : (aBF m).length = 4 := rfl
   rw [this]
   simp; omega
 | zero =>
  right
  rw [yK, hV] at h5
  have h5' : num s = z.natAbs := Int.ofNat.inj h5
  simp only [auS]
  refine uF sd (uO (0, ()) rfl ?_)
  refine aaK (fun i : Int × Unit => ∃ q : Nat, q ≤ s.length ∧ i = ((q : Int), ()) ∧ ∀ c ∈ s.take q, c = 48) (fun i => ((s.length : Int) - i.1).toNat) (fun _ => (.inr (dec z, ()) : (Int × List UInt8 × Unit) ⊕ (List UInt8 × Unit))) ?_ _ ⟨0, by omega, rfl, by simp⟩
  rintro i ⟨q, g1, rfl, g2⟩
  have hlead := aST g2
  have hsl : s.length ≤ 60000000000 := zc
  have hdd : isD (s.drop q) := asH h3 q
  have htk : List.take (s.length - q) (s.drop q) = s.drop q := zy zi
  have fin : ∀ (w : TT (uS ⊕ ((Int × List UInt8 × Unit) ⊕ tl))), (q = s.length ∨ (s.drop q).head? ≠ some 48) → (TT.ite (s.drop q == #[].toList) (TT.ok (.inr (.inr (#[48].toList, ())))) (TT.ite (decide (z < 0)) (TT.need (List.length #[(45 : UInt8)].toList + List.length (s.drop q) ≤ lim) (TT.ok (.inr (.inr (#[45].toList ++ s.drop q, ()))))) (TT.ok (.inr (.inr (s.drop q, ())))) : TT (uS ⊕ ((Int × List UInt8 × Unit) ⊕ tl)))).toO = some (.inr (.inr (dec z, ()))) := by
   intro _ hq
   by_cases c0 : s.drop q = []
   ·refine uT (by rw [c0]; rfl) ?_
    rw [c0] at hlead
    have : z.natAbs = 0 := by rw [← h5', hlead]; rfl
    have hz : z = 0 := zc
    subst hz
    rw [ab3 zc, we, abN zc]; rfl
   ·refine uF (by rw [beq_eq_false_iff_ne]; exact c0) ?_
    have hu : s.drop q = aa4 z.natAbs := by
     have := aHl hdd c0 (by
      rcases hq with hq | hq
      ·exact absurd (by rw [hq]; simp) c0
      ·exact Or.inl hq)
     rw [this, ← hlead, h5']
    by_cases cz : z < 0
    ·refine uT (zo cz) (uN ?_ ?_)
     ·show 1 + (s.drop q).length ≤ lim
      rw [yz]; unfold lim; omega
     ·rw [hu, aiW cz]; rfl
    ·refine uF (zn cz) ?_
     rw [hu, ab3 zc]; rfl
  unfold aCk al2
  simp only [aaL, zp, htk]
  rcases zr q s.length with hq | hq
  ·have e1 : s.getD q 0 = s[q] := by simp [hq]
   rw [e1]
   by_cases c : s[q] = 48
   ·left
    refine ⟨(((q + 1 : Nat) : Int), ()), ?_, ⟨q + 1, by omega, rfl, ?_⟩, by dsimp only; omega, ze⟩
    ·refine uT sd (uN sd (uT (by rw [c]; rfl) ?_))
     repeat refine za ?_
     rw [aaI, aaA (x := (q : Int) + 1) zc]; rfl
    ·intro c' hc'
     rw [zW hq] at hc'
     rcases zJ.1 hc' with hc' | hc'
     ·exact g2 c' hc'
     ·rw [ya.1 hc', c]
   ·right
    refine uT sd (uN sd (uF ?_ (uN sd ?_)))
    ·rw [beq_eq_false_iff_ne]
     intro h
     exact c (UInt8.toNat_inj.1 (Int.ofNat.inj h))
    ·refine fin TT.bad (Or.inr ?_)
     rw [yu hq, vo]
     exact fun h => c (Option.some.inj h)
  ·right
   refine uF sd (uN sd ?_)
   exact fin TT.bad (Or.inl zc)
theorem aLu {z : Int} (h : Bd 6 z.natAbs) : atI (pl z, ()) = some (wrW z) := aaE (enc := fun x : Int => (pl x, ())) z h (fun b hb => arY (Prod.mk.inj hb).1)
theorem aMw (x : PlT) (y) (h : atI (x, ()) = some y) : (aKP x).toO = some y := by
 obtain ⟨z, hp, hx, rfl⟩ := aaC h
 obtain ⟨rfl, -⟩ := Prod.mk.inj hx
 refine uC _ (aHT hp) ?_
 dsimp only
 have hl : (aa4 z.natAbs).length ≤ 90000000000 := by
  have := akF (k := 1000000 * 4 ^ 6) hp
  omega
 by_cases c : z < 0
 ·refine uT (zo c) ?_
  have e : w64 (len (dec z) - 1) = ((aa4 z.natAbs).length : Int) := by
   rw [aiW c, aaB, zG, aaA zc]; omega
  rw [e]
  by_cases f : Fit z
  ·rw [aj5 f]
   have f' : (aa4 z.natAbs).length ≤ 600 := f
   exact uF sd rfl
  ·rw [at7 f]
   have f' : ¬ (aa4 z.natAbs).length ≤ 600 := f
   exact uT sd rfl
 ·refine uF (zn c) ?_
  have e : len (dec z) = ((aa4 z.natAbs).length : Int) := by rw [ab3 zc]; rfl
  rw [e]
  by_cases f : Fit z
  ·rw [aj5 f]
   have f' : (aa4 z.natAbs).length ≤ 600 := f
   exact uF sd rfl
  ·rw [at7 f]
   have f' : ¬ (aa4 z.natAbs).length ≤ 600 := f
   exact uT sd rfl
theorem acE {n : Int} (h : aa3 n) : abR (n, ()) = some (pl n, ()) := by unfold abR; rw [if_pos h]
theorem aS8 {l : List Int} {x w v N : Int} (h : V 10000 l + 10000 ^ l.length * w = N) (hx : x + 10000 * v = w) : V 10000 (l ++ [x]) + 10000 ^ (l.length + 1) * v = N := by
 rw [aeY, aBO, zX, ← h]
 have : (10000 : Int) ^ l.length * (x + 10000 * v) = 10000 ^ l.length * w := by rw [hx]
 grind
theorem aBy (n : Int) (y) (h : abR (n, ()) = some y) : (awI n).toO = some y := by
 unfold abR at h
 split at h
 case isFalse => cases h
 case isTrue hn =>
 injection h with h
 subst h
 obtain ⟨n0, n1⟩ := hn
 dsimp only at n0 n1
 refine uO (true, [], n, ()) rfl ?_
 refine aaK (fun i : Bool × List Int × Int × Unit => Dg 10000 i.2.1 ∧ i.2.2.1.natAbs ≤ n.natAbs ∧ V 10000 i.2.1 + 10000 ^ i.2.1.length * i.2.2.1.natAbs = n.natAbs ∧ (i.1 = true → i.2.1 = []) ∧ (i.2.2.1 = 0 → Cn i.2.1) ∧ i.2.1.length ≤ 6 ∧ i.2.2.1.natAbs < 10000 ^ (6 - i.2.1.length)) (fun i => i.2.2.1.natAbs) (fun _ => (pl n, ())) ?_ _ ⟨aw9 _, zq _, by simp [V], fun _ => rfl, fun _ => axA, by simp, by simp; omega⟩
 rintro ⟨f, l, v, u⟩ ⟨g1, g2, g3, g4, g5, g6, g7⟩
 dsimp only at g1 g2 g3 g4 g5 g6 g7
 by_cases hv : v = 0
 ·right
  subst hv
  have hm : abP (decide (n < 0), l, ()) = some (pl n, ()) := aBd g1 zc (by simp at g3; omega) (Or.inr rfl)
  cases f with
  | true =>
   obtain rfl := g4 rfl
   unfold af7
   exact uT rfl (uF rfl (uC _ hm rfl))
  | false =>
   unfold af7
   dsimp only
   rw [zt]
   exact uF rfl (uF rfl (uC _ hm rfl))
 ·left
  have hl6 : l.length ≤ 5 := by
   rcases zr 5 l.length with h | h
   ·have : l.length = 6 := zc
    rw [this] at g7; simp at g7; omega
   ·exact h
  have td : (Int.tdiv v 10000).natAbs = v.natAbs / 10000 := by rw [Int.natAbs_tdiv]; rfl
  have tm : (Int.tmod v 10000).natAbs = v.natAbs % 10000 := by rw [vS]; rfl
  have hx : ((v.natAbs % 10000 : Nat) : Int) + 10000 * ((v.natAbs / 10000 : Nat) : Int) = v.natAbs := zc
  have wd : w64 (Int.tdiv v 10000) = Int.tdiv v 10000 := aaA zc
  have wm : w64 (0 - Int.tmod v 10000) = 0 - Int.tmod v 10000 := aaA zc
  have inv : Dg 10000 (l ++ [((v.natAbs % 10000 : Nat) : Int)]) ∧ (Int.tdiv v 10000).natAbs ≤ n.natAbs ∧ V 10000 (l ++ [((v.natAbs % 10000 : Nat) : Int)]) + 10000 ^ (l ++ [((v.natAbs % 10000 : Nat) : Int)]).length * ((Int.tdiv v 10000).natAbs : Int) = n.natAbs ∧ (false = true → (l ++ [((v.natAbs % 10000 : Nat) : Int)]) = []) ∧ (Int.tdiv v 10000 = 0 → Cn (l ++ [((v.natAbs % 10000 : Nat) : Int)])) ∧ (l ++ [((v.natAbs % 10000 : Nat) : Int)]).length ≤ 6 ∧ (Int.tdiv v 10000).natAbs < 10000 ^ (6 - (l ++ [((v.natAbs % 10000 : Nat) : Int)]).length) := by
   refine ⟨afH g1 (ao0 zc zc), by omega, ?_, by simp, ?_, by simp; omega, ?_⟩
   ·rw [zH, yr, td]
    exact aS8 g3 hx
   ·intro hz
    unfold Cn
    simp only [List.getLast?_concat, ne_eq, Option.some.injEq]
    omega
   ·rw [zH, yr, td, yE zc]
    have h9 : 10000 ^ (6 - l.length) = 10000 ^ (6 - (l.length + 1)) * 10000 := by
     rw [← yC]; congr 1; omega
    omega
  refine ⟨(false, l ++ [((v.natAbs % 10000 : Nat) : Int)], Int.tdiv v 10000, ()), ?_, inv, by dsimp only; omega, ze⟩
  cases f with
  | true =>
   obtain rfl := g4 rfl
   simp only [af7, wd, wm]
   by_cases c : Int.tmod v 10000 < 0
   ·refine uT rfl (uT (by simpa using hv) (uV (uT (zo c) ?_)))
    repeat refine za ?_
    rw [aaI, show 0 - Int.tmod v 10000 = ((v.natAbs % 10000 : Nat) : Int) by omega]; rfl
   ·refine uT rfl (uT (by simpa using hv) (uV (uF (zn c) ?_)))
    repeat refine za ?_
    rw [aaI, show Int.tmod v 10000 = ((v.natAbs % 10000 : Nat) : Int) by omega]; rfl
  | false =>
   simp only [af7, wd, wm, zt]
   by_cases c : Int.tmod v 10000 < 0
   ·refine uF rfl (uT (by simpa using hv) (uV (uT (zo c) ?_)))
    repeat refine za ?_
    rw [aaI, show 0 - Int.tmod v 10000 = ((v.natAbs % 10000 : Nat) : Int) by omega]
   ·refine uF rfl (uT (by simpa using hv) (uV (uF (zn c) ?_)))
    repeat refine za ?_
    rw [aaI, show Int.tmod v 10000 = ((v.natAbs % 10000 : Nat) : Int) by omega]
end Go.Vs
