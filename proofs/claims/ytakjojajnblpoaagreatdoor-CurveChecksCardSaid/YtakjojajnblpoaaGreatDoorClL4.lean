/-
  Trees of what the functions compute, and their laws. Own work; no condition.
-/
import Derived.Test.YtakjojajnblpoaaGreatDoorClL3
import Derived.Test.YtakjojajnblpoaaGreatDoorProg
set_option linter.unusedVariables false
set_option linter.unusedSimpArgs false
set_option maxRecDepth 100000
namespace Go.Vs
open Go Go.Vg Go.Proofs
noncomputable section
def aNL : LTab := [(130, 28, 4097, ⟨0, (Int) × Unit, .dat (.s 3) vZ <| .nil, [2, 0], [], 0⟩)]
def aCS (d : List Int) (i : (Int) × Unit) : TT (uq ⊕ uj) :=
 .ite (decide (i.1 > 0))
 (.need (inb (w64 (i.1 - 1)) (len d)) <| .ite (gi d (w64 (i.1 - 1)) 0 == 0)
 (.tt <| .lt (w64 (i.1 - 1) : Int) fun z => .vI (vJ z <| True ∧ vR d) <| .tr <| .ok (.inl ((z, ()))))
 (.need (inc i.1 (len d)) <| .ok (.inr ((List.take (Int.toNat i.1) d, ())))))
 (.need (inc i.1 (len d)) <| .ok (.inr ((List.take (Int.toNat i.1) d, ()))))
def aGT (d : List Int) : TT uj :=
 .loop 0 (.tt <| .vI (vJ (len d) <| True ∧ vR d) <| .tr <| .ok ((len d, ()))) (aCS d)
def aKC : LTab := []
def aCR (below : Bool) (d : List Int) : TT tx :=
 .call (acJ (d, ())) aGz fun y =>
 .ite (below)
 (.ok (((decide (len y.1 > 0), y.1, ()), ())))
 (.ok (((false, y.1, ()), ())))
def aCW : LTab := [(40, 60, 5122, ⟨0, Bool × (List Int) × (Int) × Unit, .appN (.s 3) 5 3 vZ <| .dat (.s 0) vZ <| .nil, [4, 2], [0], 1⟩)]
def aeV (n : Int) (i : Bool × (List Int) × (Int) × Unit) : TT ((Bool × (List Int) × (Int) × Unit) ⊕ tx) :=
 .ite (i.1)
 (.ite (i.2.2.1 != 0)
 (.triv (asT Int 10000 ≠ 0) zf <| .ite (decide (Int.tmod i.2.2.1 10000 < 0))
 (.need (1 * 8 ≤ 140737488355328) <| .triv (asT Int 10000 ≠ 0) zf <| .tt <| .lt ([w64 (0 - Int.tmod i.2.2.1 10000)] : List Int) fun z => .lt (w64 (Int.tdiv i.2.2.1 10000) : Int) fun z1 => .vI (vJ z1 <| tO ∧ (vJ (decide (n < 0)) <| ue ∧ True)) <| .vI (vH (vM 3 z) <| vH uJ True) <| .ok (.inl ((false, z, z1, ()))))
 (.need (1 * 8 ≤ 140737488355328) <| .triv (asT Int 10000 ≠ 0) zf <| .tt <| .lt ([Int.tmod i.2.2.1 10000] : List Int) fun z2 => .lt (w64 (Int.tdiv i.2.2.1 10000) : Int) fun z3 => .vI (vJ z3 <| tO ∧ (vJ (decide (n < 0)) <| ue ∧ True)) <| .vI (vH (vM 3 z2) <| vH uJ True) <| .ok (.inl ((false, z2, z3, ())))))
 (.call (ab1 (decide (n < 0), [], ())) ayY fun y =>
 .ok (.inr (((y.1.1, y.1.2.1, ()), ())))))
 (.ite (i.2.2.1 != 0)
 (.triv (asT Int 10000 ≠ 0) zf <| .ite (decide (Int.tmod i.2.2.1 10000 < 0))
 (.need ((List.length i.2.1 + 1) * 8 ≤ 140737488355328) <| .triv (asT Int 10000 ≠ 0) zf <| .tt <| .lt (List.take (List.length i.2.1) i.2.1 ++ [w64 (0 - Int.tmod i.2.2.1 10000)] : List Int) fun z4 => .lt (w64 (Int.tdiv i.2.2.1 10000) : Int) fun z5 => .need (((z5 : Int) = z5) ∧ (((5) = (5)) ∧ (((0) = (0)) ∧ ((List.length i.2.1 + 1 = List.length z4) ∧ ((true) = (true))))) ∧ ((decide (n < 0)) = (decide (n < 0))) ∧ (((0) = (0)) ∧ (((0) = (0)) ∧ ((true) = (true)))) ∧ True) <| .vI (vH (vM 3 z4) <| vH uJ True) <| .ok (.inl ((false, z4, z5, ()))))
 (.need ((List.length i.2.1 + 1) * 8 ≤ 140737488355328) <| .triv (asT Int 10000 ≠ 0) zf <| .tt <| .lt (List.take (List.length i.2.1) i.2.1 ++ [Int.tmod i.2.2.1 10000] : List Int) fun z6 => .lt (w64 (Int.tdiv i.2.2.1 10000) : Int) fun z7 => .need (((z7 : Int) = z7) ∧ (((5) = (5)) ∧ (((0) = (0)) ∧ ((List.length i.2.1 + 1 = List.length z6) ∧ ((true) = (true))))) ∧ ((decide (n < 0)) = (decide (n < 0))) ∧ (((0) = (0)) ∧ (((0) = (0)) ∧ ((true) = (true)))) ∧ True) <| .vI (vH (vM 3 z6) <| vH uJ True) <| .ok (.inl ((false, z6, z7, ())))))
 (.call (ab1 (decide (n < 0), List.take (List.length i.2.1) i.2.1, ())) ayY fun y1 =>
 .ok (.inr (((y1.1.1, y1.1.2.1, ()), ())))))
def asV (n : Int) : TT tx :=
 .loop 0 (.tt <| .vI (vJ n <| True ∧ (vJ (decide (n < 0)) <| ue ∧ True)) <| .vI (vH uJ True) <| .ok ((true, [], n, ()))) (aeV n)
def aKD : LTab := []
def avA (n : Int) : TT uM :=
 .triv (asT Int 1000 ≠ 0) zf <| .triv (asT Int 100 ≠ 0) zf <| .triv (asT Int 10 ≠ 0) zf <| .triv (asT Int 10 ≠ 0) zf <| .triv (asT Int 10 ≠ 0) zf <| .triv (asT Int 10 ≠ 0) zf <| .ok ((List.map (fun n => UInt8.ofNat (Int.toNat n)) (List.take 4 [wu8 (w64 (48 + w64 (Int.tdiv n 1000))), wu8 (w64 (48 + Int.tmod (w64 (Int.tdiv n 100)) 10)), wu8 (w64 (48 + Int.tmod (w64 (Int.tdiv n 10)) 10)), wu8 (w64 (48 + Int.tmod n 10))]), ()))
def aKF : LTab := [(125, 58, 8192, ⟨0, (Int) × (List UInt8) × Unit, .dat (.s 4) vZ <| .dat (.s 3) (Ty.str) <| .nil, [2, 1], [0], 0⟩), (125, 124, 11264, ⟨1, (Int) × Unit, .dat (.s 5) vZ <| .nil, [3, 2, 1], [0], 0⟩)]
def ajU (i1 : (Int) × Unit) (i : Int × List UInt8 × Unit) (a : Bool × List Int × Unit) : TT (uq ⊕ tl) :=
 .need (inc i1.1 (len i.2.1)) <| .ite (List.take (List.length i.2.1 - Int.toNat i1.1) (List.drop (Int.toNat i1.1) i.2.1) == #[].toList)
 (.ok (.inr (.inr ((#[48].toList, ())))))
 (.ite (a.1)
 (.need (List.length #[45].toList + List.length (List.take (List.length i.2.1 - Int.toNat i1.1) (List.drop (Int.toNat i1.1) i.2.1)) ≤ lim) <| .ok (.inr (.inr ((#[45].toList ++ List.take (List.length i.2.1 - Int.toNat i1.1) (List.drop (Int.toNat i1.1) i.2.1), ())))))
 (.ok (.inr (.inr ((List.take (List.length i.2.1 - Int.toNat i1.1) (List.drop (Int.toNat i1.1) i.2.1), ()))))))
def azK (a : Bool × List Int × Unit) (i : Int × List UInt8 × Unit) (i1 : (Int) × Unit) : TT (uq ⊕ tl) :=
 .ite (decide (i1.1 < len i.2.1))
 (.need (inb i1.1 (len i.2.1)) <| .ite ((↑(UInt8.toNat (gi i.2.1 i1.1 0)) : Int) == 48)
  (.tt <| .lt (w64 (i1.1 + 1) : Int) fun z3 => .vI (vT z3 i.2.1 (#[].toList : List UInt8) <| ue ∧ True) <| .vI (vH (vL 83 a.1 a.2.1) True) <| .ok (.inl ((z3, ()))))
  (ajU i1 i a))
 (ajU i1 i a)
def aq6 (a : Bool × List Int × Unit) (i : (Int) × (List UInt8) × Unit) : TT tl :=
 .ite (decide (i.1 ≥ 0))
 (.need (inb i.1 (len a.2.1)) <| .call (ap5 (gi a.2.1 i.1 0, ())) Dd2 fun y =>
 .need (List.length i.2.1 + List.length y.1 ≤ lim) <| .tt <| .lt (w64 (i.1 - 1) : Int) fun z1 => .lt (i.2.1 ++ y.1 : List UInt8) fun z2 => .vI (vT z2 z1 (#[].toList : List UInt8) <| ue ∧ True) <| .vI (vH (vL 83 a.1 a.2.1) True) <| .ok (.inl ((z1, z2, ()))))
 (.loop 1 (.tt <| .vI (vT (0 : Int) i.2.1 (#[].toList : List UInt8) <| ue ∧ True) <| .vI (vH (vL 83 a.1 a.2.1) True) <| .ok ((0, ()))) (azK a i))
def avC (a : Bool × List Int × Unit) : TT uM :=
 .loop 0 (.tt <| .lt (w64 (len a.2.1 - 1) : Int) fun z => .vI (vT (#[].toList : List UInt8) z (#[].toList : List UInt8) <| ue ∧ True) <| .vI (vH (vL 83 a.1 a.2.1) True) <| .ok ((z, #[].toList, ()))) (aq6 a)
def aNM : LTab := []
def aGU (a : Bool × List Int × Unit) : TT uX :=
 .call (ap6 ((a.1, a.2.1, ()), ())) Dd2 fun y =>
 .ite (a.1)
 (.ite (decide (w64 (len y.1 - 1) > 600))
 (.ok ((#[].toList, 6, ())))
 (.ok ((y.1, 0, ()))))
 (.ite (decide (len y.1 > 600))
 (.ok ((#[].toList, 6, ())))
 (.ok ((y.1, 0, ()))))
def aIb : LTab := [(132, 58, 10240, ⟨0, (Int) × Unit, .dat (.s 5) vZ <| .nil, [0, 1], [], 0⟩)]
def au8 (a : List Int) (b : List Int) (i : (Int) × Unit) : TT (uq ⊕ uz) :=
 .ite (decide (i.1 ≥ 0))
 (.need (inb i.1 (len a)) <| .need (inb i.1 (len b)) <| .ite (gi a i.1 0 != gi b i.1 0)
 (.need (inb i.1 (len a)) <| .need (inb i.1 (len b)) <| .ok (.inr ((w64 (gi a i.1 0 - gi b i.1 0), ()))))
 (.tt <| .lt (w64 (i.1 - 1) : Int) fun z1 => .vI (vL z1 a b) <| .tr <| .ok (.inl ((z1, ())))))
 (.ok (.inr ((0, ()))))
def aq3 (a : List Int) (b : List Int) : TT uz :=
 .ite (len a != len b)
 (.ok ((w64 (len a - len b), ())))
 (.loop 0 (.tt <| .lt (w64 (len a - 1) : Int) fun z => .vI (vL z a b) <| .tr <| .ok ((z, ()))) (au8 a b))
def aNK : LTab := [(131, 122, 4098, ⟨0, (Int) × (Int) × Bool × (List Int) × Unit, .dat (.s 7) vZ <| .dat (.s 6) vZ <| .appN (.s 5) 4 3 vZ <| .nil, [4, 0, 1], [], 1⟩)]
def adJ (i : (Int) × (Int) × Bool × (List Int) × Unit) (a : List Int) (b : List Int) : TT uQ :=
 .ite (decide (i.1 < len a))
 (.need (inb i.1 (len a)) <| .ite (decide (i.1 < len b))
 (.need (inb i.1 (len b)) <| .triv (asT Int 10000 ≠ 0) zf <| .need ((List.length i.2.2.2.1 + 1) * 8 ≤ 140737488355328) <| .triv (asT Int 10000 ≠ 0) zf <| .tt <| .lt (w64 (i.1 + 1) : Int) fun z36 => .lt (w64 (Int.tdiv (w64 (w64 (i.2.1 + gi a i.1 0) + gi b i.1 0)) 10000) : Int) fun z37 => .lt (List.take (List.length i.2.2.2.1) i.2.2.2.1 ++ [Int.tmod (w64 (w64 (i.2.1 + gi a i.1 0) + gi b i.1 0)) 10000] : List Int) fun z38 => .need ((((4) = (4)) ∧ (((0) = (0)) ∧ ((List.length i.2.2.2.1 + 1 = List.length z38) ∧ ((true) = (true))))) ∧ ((z37 : Int) = z37) ∧ ((z36 : Int) = z36) ∧ True ∧ ((a) = (a)) ∧ ((b) = (b)) ∧ True) <| .vI (vH (vM 3 z38) True) <| .ok (.inl ((z36, z37, false, z38, ()))))
 (.triv (asT Int 10000 ≠ 0) zf <| .need ((List.length i.2.2.2.1 + 1) * 8 ≤ 140737488355328) <| .triv (asT Int 10000 ≠ 0) zf <| .tt <| .lt (w64 (i.1 + 1) : Int) fun z39 => .lt (w64 (Int.tdiv (w64 (i.2.1 + gi a i.1 0)) 10000) : Int) fun z40 => .lt (List.take (List.length i.2.2.2.1) i.2.2.2.1 ++ [Int.tmod (w64 (i.2.1 + gi a i.1 0)) 10000] : List Int) fun z41 => .need ((((4) = (4)) ∧ (((0) = (0)) ∧ ((List.length i.2.2.2.1 + 1 = List.length z41) ∧ ((true) = (true))))) ∧ ((z40 : Int) = z40) ∧ ((z39 : Int) = z39) ∧ True ∧ ((a) = (a)) ∧ ((b) = (b)) ∧ True) <| .vI (vH (vM 3 z41) True) <| .ok (.inl ((z39, z40, false, z41, ())))))
 (.ite (decide (i.1 < len b))
 (.need (inb i.1 (len b)) <| .triv (asT Int 10000 ≠ 0) zf <| .need ((List.length i.2.2.2.1 + 1) * 8 ≤ 140737488355328) <| .triv (asT Int 10000 ≠ 0) zf <| .tt <| .lt (w64 (i.1 + 1) : Int) fun z42 => .lt (w64 (Int.tdiv (w64 (i.2.1 + gi b i.1 0)) 10000) : Int) fun z43 => .lt (List.take (List.length i.2.2.2.1) i.2.2.2.1 ++ [Int.tmod (w64 (i.2.1 + gi b i.1 0)) 10000] : List Int) fun z44 => .need ((((4) = (4)) ∧ (((0) = (0)) ∧ ((List.length i.2.2.2.1 + 1 = List.length z44) ∧ ((true) = (true))))) ∧ ((z43 : Int) = z43) ∧ ((z42 : Int) = z42) ∧ True ∧ ((a) = (a)) ∧ ((b) = (b)) ∧ True) <| .vI (vH (vM 3 z44) True) <| .ok (.inl ((z42, z43, false, z44, ()))))
 (.triv (asT Int 10000 ≠ 0) zf <| .need ((List.length i.2.2.2.1 + 1) * 8 ≤ 140737488355328) <| .triv (asT Int 10000 ≠ 0) zf <| .tt <| .lt (w64 (i.1 + 1) : Int) fun z45 => .lt (w64 (Int.tdiv i.2.1 10000) : Int) fun z46 => .lt (List.take (List.length i.2.2.2.1) i.2.2.2.1 ++ [Int.tmod i.2.1 10000] : List Int) fun z47 => .need ((((4) = (4)) ∧ (((0) = (0)) ∧ ((List.length i.2.2.2.1 + 1 = List.length z47) ∧ ((true) = (true))))) ∧ ((z46 : Int) = z46) ∧ ((z45 : Int) = z45) ∧ True ∧ ((a) = (a)) ∧ ((b) = (b)) ∧ True) <| .vI (vH (vM 3 z47) True) <| .ok (.inl ((z45, z46, false, z47, ())))))
def adI (i : (Int) × (Int) × Bool × (List Int) × Unit) (a : List Int) (b : List Int) : TT uQ :=
 .ite (decide (i.1 < len a))
 (.need (inb i.1 (len a)) <| .ite (decide (i.1 < len b))
 (.need (inb i.1 (len b)) <| .triv (asT Int 10000 ≠ 0) zf <| .need (1 * 8 ≤ 140737488355328) <| .triv (asT Int 10000 ≠ 0) zf <| .tt <| .lt (w64 (i.1 + 1) : Int) fun z => .lt (w64 (Int.tdiv (w64 (w64 (i.2.1 + gi a i.1 0) + gi b i.1 0)) 10000) : Int) fun z1 => .lt ([Int.tmod (w64 (w64 (i.2.1 + gi a i.1 0) + gi b i.1 0)) 10000] : List Int) fun z2 => .vI (tg ∧ (vP z1 z <| True ∧ vU a b)) <| .vI (vH (vM 3 z2) True) <| .ok (.inl ((z, z1, false, z2, ()))))
 (.triv (asT Int 10000 ≠ 0) zf <| .need (1 * 8 ≤ 140737488355328) <| .triv (asT Int 10000 ≠ 0) zf <| .tt <| .lt (w64 (i.1 + 1) : Int) fun z3 => .lt (w64 (Int.tdiv (w64 (i.2.1 + gi a i.1 0)) 10000) : Int) fun z4 => .lt ([Int.tmod (w64 (i.2.1 + gi a i.1 0)) 10000] : List Int) fun z5 => .vI (tg ∧ (vP z4 z3 <| True ∧ vU a b)) <| .vI (vH (vM 3 z5) True) <| .ok (.inl ((z3, z4, false, z5, ())))))
 (.ite (decide (i.1 < len b))
 (.need (inb i.1 (len b)) <| .triv (asT Int 10000 ≠ 0) zf <| .need (1 * 8 ≤ 140737488355328) <| .triv (asT Int 10000 ≠ 0) zf <| .tt <| .lt (w64 (i.1 + 1) : Int) fun z6 => .lt (w64 (Int.tdiv (w64 (i.2.1 + gi b i.1 0)) 10000) : Int) fun z7 => .lt ([Int.tmod (w64 (i.2.1 + gi b i.1 0)) 10000] : List Int) fun z8 => .vI (tg ∧ (vP z7 z6 <| True ∧ vU a b)) <| .vI (vH (vM 3 z8) True) <| .ok (.inl ((z6, z7, false, z8, ()))))
 (.triv (asT Int 10000 ≠ 0) zf <| .need (1 * 8 ≤ 140737488355328) <| .triv (asT Int 10000 ≠ 0) zf <| .tt <| .lt (w64 (i.1 + 1) : Int) fun z9 => .lt (w64 (Int.tdiv i.2.1 10000) : Int) fun z10 => .lt ([Int.tmod i.2.1 10000] : List Int) fun z11 => .vI (tg ∧ (vP z10 z9 <| True ∧ vU a b)) <| .vI (vH (vM 3 z11) True) <| .ok (.inl ((z9, z10, false, z11, ())))))
def alB (a : List Int) (b : List Int) (i : (Int) × (Int) × Bool × (List Int) × Unit) : TT uQ :=
 .ite (i.2.2.1)
 (.ite (decide (i.1 < len a))
  (adI i a b)
  (.ite (decide (i.1 < len b))
   (adI i a b)
   (.ite (decide (i.2.1 > 0))
    (adI i a b)
    (.ok (.inr (([], ())))))))
 (.ite (decide (i.1 < len a))
  (adJ i a b)
  (.ite (decide (i.1 < len b))
   (adJ i a b)
   (.ite (decide (i.2.1 > 0))
    (adJ i a b)
    (.ok (.inr ((List.take (List.length i.2.2.2.1) i.2.2.2.1, ())))))))
def aGS (a : List Int) (b : List Int) : TT uj :=
 .loop 0 (.tt <| .vI (True ∧ (vP (0 : Int) (0 : Int) <| True ∧ vU a b)) <| .tr <| .ok ((0, 0, true, [], ()))) (alB a b)
def avB : LTab := [(133, 122, 4098, ⟨0, (Int) × (Int) × Bool × (List Int) × Unit, .dat (.s 7) vZ <| .dat (.s 6) vZ <| .appN (.s 5) 4 3 vZ <| .nil, [4, 0, 1], [], 1⟩)]
def abT (a : List Int) (b : List Int) (i : (Int) × (Int) × Bool × (List Int) × Unit) : TT uQ :=
 .ite (i.2.2.1)
 (.ite (decide (i.1 < len a))
 (.need (inb i.1 (len a)) <| .ite (decide (i.1 < len b))
 (.need (inb i.1 (len b)) <| .ite (decide (w64 (w64 (gi a i.1 0 - i.2.1) - gi b i.1 0) < 0))
 (.need (1 * 8 ≤ 140737488355328) <| .tt <| .lt (w64 (i.1 + 1) : Int) fun z => .lt ([w64 (w64 (w64 (gi a i.1 0 - i.2.1) - gi b i.1 0) + 10000)] : List Int) fun z1 => .vI (tg ∧ (vP (1 : Int) z <| True ∧ vU a b)) <| .vI (vH (vM 3 z1) True) <| .ok (.inl ((z, 1, false, z1, ()))))
 (.need (1 * 8 ≤ 140737488355328) <| .tt <| .lt (w64 (i.1 + 1) : Int) fun z2 => .lt ([w64 (w64 (gi a i.1 0 - i.2.1) - gi b i.1 0)] : List Int) fun z3 => .vI (tg ∧ (vP (0 : Int) z2 <| True ∧ vU a b)) <| .vI (vH (vM 3 z3) True) <| .ok (.inl ((z2, 0, false, z3, ())))))
 (.ite (decide (w64 (gi a i.1 0 - i.2.1) < 0))
 (.need (1 * 8 ≤ 140737488355328) <| .tt <| .lt (w64 (i.1 + 1) : Int) fun z4 => .lt ([w64 (w64 (gi a i.1 0 - i.2.1) + 10000)] : List Int) fun z5 => .vI (tg ∧ (vP (1 : Int) z4 <| True ∧ vU a b)) <| .vI (vH (vM 3 z5) True) <| .ok (.inl ((z4, 1, false, z5, ()))))
 (.need (1 * 8 ≤ 140737488355328) <| .tt <| .lt (w64 (i.1 + 1) : Int) fun z6 => .lt ([w64 (gi a i.1 0 - i.2.1)] : List Int) fun z7 => .vI (tg ∧ (vP (0 : Int) z6 <| True ∧ vU a b)) <| .vI (vH (vM 3 z7) True) <| .ok (.inl ((z6, 0, false, z7, ()))))))
 (.call (acJ ([], ())) aGz fun y =>
 .ok (.inr ((y.1, ())))))
 (.ite (decide (i.1 < len a))
 (.need (inb i.1 (len a)) <| .ite (decide (i.1 < len b))
 (.need (inb i.1 (len b)) <| .ite (decide (w64 (w64 (gi a i.1 0 - i.2.1) - gi b i.1 0) < 0))
 (.need ((List.length i.2.2.2.1 + 1) * 8 ≤ 140737488355328) <| .tt <| .lt (w64 (i.1 + 1) : Int) fun z8 => .lt (List.take (List.length i.2.2.2.1) i.2.2.2.1 ++ [w64 (w64 (w64 (gi a i.1 0 - i.2.1) - gi b i.1 0) + 10000)] : List Int) fun z9 => .need ((((4) = (4)) ∧ (((0) = (0)) ∧ ((List.length i.2.2.2.1 + 1 = List.length z9) ∧ ((true) = (true))))) ∧ ((1 : Int) = 1) ∧ ((z8 : Int) = z8) ∧ True ∧ ((a) = (a)) ∧ ((b) = (b)) ∧ True) <| .vI (vH (vM 3 z9) True) <| .ok (.inl ((z8, 1, false, z9, ()))))
 (.need ((List.length i.2.2.2.1 + 1) * 8 ≤ 140737488355328) <| .tt <| .lt (w64 (i.1 + 1) : Int) fun z10 => .lt (List.take (List.length i.2.2.2.1) i.2.2.2.1 ++ [w64 (w64 (gi a i.1 0 - i.2.1) - gi b i.1 0)] : List Int) fun z11 => .need ((((4) = (4)) ∧ (((0) = (0)) ∧ ((List.length i.2.2.2.1 + 1 = List.length z11) ∧ ((true) = (true))))) ∧ ((0 : Int) = 0) ∧ ((z10 : Int) = z10) ∧ True ∧ ((a) = (a)) ∧ ((b) = (b)) ∧ True) <| .vI (vH (vM 3 z11) True) <| .ok (.inl ((z10, 0, false, z11, ())))))
 (.ite (decide (w64 (gi a i.1 0 - i.2.1) < 0))
 (.need ((List.length i.2.2.2.1 + 1) * 8 ≤ 140737488355328) <| .tt <| .lt (w64 (i.1 + 1) : Int) fun z12 => .lt (List.take (List.length i.2.2.2.1) i.2.2.2.1 ++ [w64 (w64 (gi a i.1 0 - i.2.1) + 10000)] : List Int) fun z13 => .need ((((4) = (4)) ∧ (((0) = (0)) ∧ ((List.length i.2.2.2.1 + 1 = List.length z13) ∧ ((true) = (true))))) ∧ ((1 : Int) = 1) ∧ ((z12 : Int) = z12) ∧ True ∧ ((a) = (a)) ∧ ((b) = (b)) ∧ True) <| .vI (vH (vM 3 z13) True) <| .ok (.inl ((z12, 1, false, z13, ()))))
 (.need ((List.length i.2.2.2.1 + 1) * 8 ≤ 140737488355328) <| .tt <| .lt (w64 (i.1 + 1) : Int) fun z14 => .lt (List.take (List.length i.2.2.2.1) i.2.2.2.1 ++ [w64 (gi a i.1 0 - i.2.1)] : List Int) fun z15 => .need ((((4) = (4)) ∧ (((0) = (0)) ∧ ((List.length i.2.2.2.1 + 1 = List.length z15) ∧ ((true) = (true))))) ∧ ((0 : Int) = 0) ∧ ((z14 : Int) = z14) ∧ True ∧ ((a) = (a)) ∧ ((b) = (b)) ∧ True) <| .vI (vH (vM 3 z15) True) <| .ok (.inl ((z14, 0, false, z15, ()))))))
 (.call (acJ (List.take (List.length i.2.2.2.1) i.2.2.2.1, ())) aGz fun y1 =>
 .ok (.inr ((y1.1, ())))))
def alC (a : List Int) (b : List Int) : TT uj :=
 .loop 0 (.tt <| .vI (True ∧ (vP (0 : Int) (0 : Int) <| True ∧ vU a b)) <| .tr <| .ok ((0, 0, true, [], ()))) (abT a b)
def aCO : LTab := [(134, 58, 9217, ⟨0, (Int) × (List Int) × Unit, .dat (.s 6) vZ <| .row 6 vZ <| .nil, [5, 4, 0, 1], [6], 0⟩), (134, 14922, 15361, ⟨1, (Int) × (Int) × (List Int) × Unit, .dat (.s 8) vZ <| .dat (.s 7) vZ <| .row 6 vZ <| .nil, [18, 17, 16, 15, 6, 5, 4, 0, 1], [6], 0⟩)]
def adU (a : List Int) (b : List Int) (i : Int × List Int × Unit) (i1 : (Int) × (Int) × (List Int) × Unit) : TT (uy ⊕ uU) :=
 .ite (decide (i1.1 < len b))
 (.need (inb (w64 (i.1 + i1.1)) (↑(Int.toNat (w64 (len a + len b))) : Int)) <| .need (inb i.1 (len a)) <| .need (inb i1.1 (len b)) <| .triv (asT Int 10000 ≠ 0) zf <| .need (inb (w64 (i.1 + i1.1)) (↑(Int.toNat (w64 (len a + len b))) : Int)) <| .triv (asT Int 10000 ≠ 0) zf <| .tt <| .lt (w64 (i1.1 + 1) : Int) fun z2 => .lt (w64 (Int.tdiv (w64 (w64 (i1.2.1 + List.getD i1.2.2.1 (0 + Int.toNat (w64 (i.1 + i1.1))) 0) + w64 (gi a i.1 0 * gi b i1.1 0))) 10000) : Int) fun z3 => .lt (List.set i1.2.2.1 (0 + Int.toNat (w64 (i.1 + i1.1))) (Int.tmod (w64 (w64 (i1.2.1 + List.getD i1.2.2.1 (0 + Int.toNat (w64 (i.1 + i1.1))) 0) + w64 (gi a i.1 0 * gi b i1.1 0))) 10000) : List Int) fun z4 => .vI (vV z3 z2 (decide (i.1 < len a)) (len a) a i.1 i.1 <| (vN 6 0 (Int.toNat (w64 (len a + len b))) true) ∧ True ∧ vU a b) <| .vI (vH (vM 3 z4) True) <| .ok (.inl ((z2, z3, z4, ()))))
 (.need (inb (w64 (i.1 + len b)) (↑(Int.toNat (w64 (len a + len b))) : Int)) <| .tt <| .lt (w64 (i.1 + 1) : Int) fun z5 => .lt (List.set i1.2.2.1 (0 + Int.toNat (w64 (i.1 + len b))) i1.2.1 : List Int) fun z6 => .vI (vJ z5 <| (vN 6 0 (Int.toNat (w64 (len a + len b))) true) ∧ True ∧ vU a b) <| .vI (vH (vM 3 z6) True) <| .ok (.inr (.inl ((z5, z6, ())))))
def ajT (a : List Int) (b : List Int) (i : (Int) × (List Int) × Unit) : TT uU :=
 .ite (decide (i.1 < len a))
 (.loop 1 (.tt <| .lt (i.2.1 : List Int) fun z1 => .vI (vV (0 : Int) (0 : Int) (decide (i.1 < len a)) (len a) a i.1 i.1 <| (vN 6 0 (Int.toNat (w64 (len a + len b))) true) ∧ True ∧ vU a b) <| .vI (vH (vM 3 z1) True) <| .ok ((0, 0, z1, ()))) (adU a b i))
 (.call (acJ (List.take (Int.toNat (w64 (len a + len b))) i.2.1, ())) aGz fun y =>
 .ok (.inr ((y.1, ()))))
def aeL (a : List Int) (b : List Int) : TT uj :=
 .need (0 ≤ w64 (len a + len b) ∧ w64 (len a + len b) ≤ w64 (len a + len b) ∧ w64 (len a + len b) * (↑8 : Int) ≤ 140737488355328) <| .loop 0 (.tt <| .lt (List.replicate (Int.toNat (w64 (len a + len b))) 0 : List Int) fun z => .vI (vJ (0 : Int) <| (vN 6 0 (Int.toNat (w64 (len a + len b))) true) ∧ True ∧ vU a b) <| .vI (vH (vM 3 z) True) <| .ok ((0, z, ()))) (ajT a b)
def aKB : LTab := [(171, 122, 11265, ⟨0, (Int) × (Int) × (List Int) × Unit, .dat (.s 8) vZ <| .dat (.s 7) vZ <| .row 4 vZ <| .nil, [6, 5, 4, 0, 1], [4], 0⟩)]
def aq4 (a : List Int) (d : Int) (i : (Int) × (Int) × (List Int) × Unit) : TT (uy ⊕ tz) :=
 .ite (decide (i.1 ≥ 0))
 (.need (inb i.1 (len a)) <| .need (d ≠ 0) <| .need (inb i.1 (↑(Int.toNat (len a)) : Int)) <| .need (d ≠ 0) <| .tt <| .lt (w64 (i.1 - 1) : Int) fun z2 => .lt (Int.tmod (w64 (w64 (i.2.1 * 10000) + gi a i.1 0)) d : Int) fun z3 => .lt (List.set i.2.2.1 (0 + Int.toNat i.1) (w64 (Int.tdiv (w64 (w64 (i.2.1 * 10000) + gi a i.1 0)) d)) : List Int) fun z4 => .vI (vP z3 z2 <| (vN 4 0 (Int.toNat (len a)) true) ∧ (vJ (0 : Int) <| True ∧ vU a d)) <| .vI (vH (vM 3 z4) True) <| .ok (.inl ((z2, z3, z4, ()))))
 (.call (acJ (List.take (Int.toNat (len a)) i.2.2.1, ())) aGz fun y =>
 .ok (.inr ((y.1, i.2.1, ()))))
def au9 (a : List Int) (d : Int) : TT tz :=
 .need (0 ≤ len a ∧ len a ≤ len a ∧ len a * (↑8 : Int) ≤ 140737488355328) <| .loop 0 (.tt <| .lt (w64 (len a - 1) : Int) fun z => .lt (List.replicate (Int.toNat (len a)) 0 : List Int) fun z1 => .vI (vP (0 : Int) z <| (vN 4 0 (Int.toNat (len a)) true) ∧ (vJ (0 : Int) <| True ∧ vU a d)) <| .vI (vH (vM 3 z1) True) <| .ok ((z, 0, z1, ()))) (aq4 a d)
end
open Go Go.Vg
theorem af4 {l : List Int} (h : Dg 10000 l) (hl : l.length ≤ 1000000000000) {n : Nat} (hv : V 10000 l = n) : acJ (l, ()) = some (dig n, ()) := by
 unfold acJ
 rw [if_pos ⟨h, hl⟩]
 simp only [hv, zp]
theorem aIc (d : List Int) (y) (h : acJ (d, ()) = some y) : (aGT d).toO = some y := by
 unfold acJ at h
 split at h
 case isFalse => cases h
 case isTrue hp =>
 obtain ⟨hd, hl⟩ := hp
 dsimp only at hd hl h
 injection h with h
 subst h
 refine uO ((d.length : Int), ()) rfl ?_
 refine aaL (fun i : Int × Unit => ∃ k : Nat, k ≤ d.length ∧ i = ((k : Int), ()) ∧ V 10000 (d.take k) = V 10000 d) (fun i => i.1.toNat) (fun _ => (dig (V 10000 d).toNat, ())) ?_ _ ⟨_, zq _, rfl, by rw [zt]⟩
 rintro i ⟨k, h1, rfl, h2⟩
 have hn := aaS zc hd
 have fin : Cn (d.take k) → d.take k = dig (V 10000 d).toNat := fun hc => aBM (ab4 hd k) hc (by rw [h2]; omega)
 unfold aCS
 rcases zF k with h0 | h0
 ·right
  subst h0
  refine uF sd (uN sd ?_)
  show some (Sum.inr (d.take (Int.toNat (0 : Nat)), ())) = _
  rw [zp, fin (by simp [Cn])]
 ·have hw : w64 ((k : Int) - 1) = ((k - 1 : Nat) : Int) := by rw [aaA (x := (k : Int) - 1) zc]; omega
  have hg : d.getD (k - 1) 0 = d[k - 1] := by simp [show k - 1 < d.length by omega]
  have ht := akF 10000 (l := d) (i := k - 1) zc
  rw [show k - 1 + 1 = k by omega] at ht
  simp only [hw, aaM, hg]
  by_cases c : d[k - 1] = 0
  ·left
   refine ⟨(((k - 1 : Nat) : Int), ()), ?_, ⟨k - 1, by omega, rfl, ?_⟩, by dsimp only; omega, ze⟩
   ·refine uT sd (uN sd (uT (by rw [c]; rfl) ?_))
    repeat refine za ?_
    rfl
   ·rw [← h2, ht, c]; simp
  ·right
   refine uT sd (uN sd (uF (by simpa using c) (uN sd ?_)))
   show some (Sum.inr (d.take (Int.toNat (k : Int)), ())) = _
   rw [zp, fin ?_]
   unfold Cn
   rw [yQ, zK, yH h1, yq, if_pos zc, zR zc]
   simpa using c
theorem aE6 (b : Bool) (d : List Int) (y) (h : ab1 (b, d, ()) = some y) : (aCR b d).toO = some y := by
 unfold ab1 at h
 split at h
 case isFalse => cases h
 case isTrue hp =>
 obtain ⟨hd, hl⟩ := hp
 dsimp only at hd hl h
 injection h with h
 subst h
 obtain ⟨n, hn⟩ := zw (aaS zc hd)
 rw [hn, zp]
 refine uC _ (af4 hd hl hn) ?_
 have e : decide (len (dig n) > 0) = decide ((n : Int) ≠ 0) := by
  refine decide_eq_decide.2 ?_
  have := dig_nil_iff (n := n)
  rw [aaB]
  constructor
  ·intro h h2
   rw [this.2 zc] at h
   simp at h
  ·intro h
   rcases zF (dig n).length with h3 | h3
   ·have := this.1 (zW.1 h3); omega
   ·omega
 cases b
 ·exact uF rfl rfl
 ·refine uT rfl ?_
  show some ((decide (len (dig n) > 0), dig n, ()), ()) = _
  rw [e]; rfl
theorem aEp {l : List Int} {b : Bool} {z : Int} (h : Dg 10000 l) (hl : l.length ≤ 1000000000000) (hv : V 10000 l = z.natAbs) (hb : z = 0 ∨ b = decide (z < 0)) : ab1 (b, l, ()) = some (pl z, ()) := by
 unfold ab1
 rw [if_pos ⟨h, hl⟩]
 simp only [hv, zp]
 congr 2
 unfold pl
 congr 1
 by_cases h0 : z = 0
 ·subst h0; simp
 ·rw [zo (show ((z.natAbs : Int) ≠ 0) by omega), Bool.and_true]
  rcases hb with h2 | h2
  ·exact absurd h2 h0
  ·exact h2
theorem agY {n : Nat} {b : Bool} {z : Int} (hl : (dig n).length ≤ 1000000000000) (hv : n = z.natAbs) (hb : z = 0 ∨ b = decide (z < 0)) : ab1 (b, dig n, ()) = some (pl z, ()) := aEp (adY n) hl (by rw [aiN, hv]) hb
theorem aM8 {n : Nat} (h : n < 10000) : ap5 ((n : Int), ()) = some (ayO n, ()) := aaK (enc := fun x : Nat => ((x : Int), ())) n h (fun b hb => Int.ofNat.inj (Prod.mk.inj hb).1)
theorem aE7 (n : Int) (y) (h : ap5 (n, ()) = some y) : (avA n).toO = some y := by
 obtain ⟨k, hk, hx, rfl⟩ := aaE h
 obtain ⟨rfl, -⟩ := Prod.mk.inj hx
 have d1 : ∀ m : Nat, 0 < m → Int.tdiv (k : Int) m = ((k / m : Nat) : Int) := fun m hm => by rw [zL zc]; simp
 have e1 := d1 1000 zc
 have e2 := d1 100 zc
 have e3 := d1 10 zc
 have m1 : ∀ j : Nat, Int.tmod (j : Int) 10 = ((j % 10 : Nat) : Int) := fun j => by rw [zE zc]; omega
 have w1 : ∀ j : Nat, j < 10000 → w64 (j : Int) = j := fun j hj => aaA zc
 have w2 : ∀ j : Nat, j < 10 → wu8 (w64 (48 + (j : Int))) = ((48 + j : Nat) : Int) := fun j hj => by rw [aaA (x := 48 + (j : Int)) zc, abJ zc]; omega
 unfold avA
 have f1 : Int.tdiv (k : Int) 1000 = ((k / 1000 : Nat) : Int) := e1
 have f2 : Int.tdiv (k : Int) 100 = ((k / 100 : Nat) : Int) := e2
 have f3 : Int.tdiv (k : Int) 10 = ((k / 10 : Nat) : Int) := e3
 refine uV (uV (uV (uV (uV (uV ?_)))))
 rw [aaH, f1, f2, f3, w1 (k / 1000) zc, w1 (k / 100) zc, w1 (k / 10) zc, m1, m1, m1, w2 _ zc, w2 _ zc, w2 _ zc, w2 _ zc]
 rfl
theorem asK (a b : List Int) (h1 : Dg 10000 a) (h2 : Dg 10000 b) (h3 : a.length ≤ 1000000000000) (h4 : b.length ≤ 1000000000000) : afQ (a, b, ()) = some (aPc a b, ()) := by unfold afQ; rw [if_pos ⟨h1, h2, h3, h4⟩]
theorem aCQ (a b : List Int) (y) (h : afQ (a, b, ()) = some y) : (aq3 a b).toO = some y := by
 unfold afQ at h
 split at h
 case isFalse => cases h
 case isTrue hp =>
 obtain ⟨ha, hb, hl, hl2⟩ := hp
 dsimp only at ha hb hl hl2 h
 injection h with h
 subst h
 unfold aq3 aPc
 by_cases c : a.length = b.length
 case neg =>
  rw [if_pos c]
  refine uT sd ?_
  rw [aaH, aaB, aaB, aaA zc]
 rw [if_neg (fun h => h c)]
 refine uF sd ?_
 refine uO ((a.length : Int) - 1, ()) ?_ ?_
 ·repeat refine za ?_
  rw [aaH, aaB, aaA zc]
 refine aaL (fun i : Int × Unit => ∃ k : Nat, k ≤ a.length ∧ i = ((k : Int) - 1, ()) ∧ aNp a b a.length = aNp a b k) (fun i => (i.1 + 1).toNat) (fun _ => (aNp a b a.length, ())) ?_ _ ⟨_, zq _, rfl, rfl⟩
 rintro i ⟨k, h1, rfl, h2⟩
 unfold au8
 dsimp only
 cases k with
 | zero =>
  right
  refine uF sd ?_
  rw [h2]; rfl
 | succ j =>
  have e6 : ((j + 1 : Nat) : Int) - 1 = (j : Int) := zc
  simp only [e6, aaM]
  have da := aa2 zc ha j
  have db := aa2 zc hb j
  by_cases c2 : a.getD j 0 = b.getD j 0
  ·left
   refine ⟨((j : Int) - 1, ()), ?_, ⟨j, by omega, rfl, ?_⟩, by dsimp only; omega, ze⟩
   ·refine uT sd (uN sd (uN sd (uF (by rw [c2]; simp) ?_)))
    repeat refine za ?_
    rw [aaH, aaA zc]
   ·rw [h2]; show (if _ then _ else _) = _; rw [if_neg (fun h => h c2)]
  ·right
   refine uT sd (uN sd (uN sd (uT (by simpa using c2) (uN sd (uN sd ?_)))))
   rw [aaH, aaA zc, h2]
   show _ = some (Sum.inr (if _ then _ else _, ()))
   rw [if_pos c2]
theorem aCu {a b : List Int} (ha : Dg 10000 a) (hb : Dg 10000 b) : ∀ k, (aNp a b k < 0 ↔ V 10000 (a.take k) < V 10000 (b.take k)) ∧ (aNp a b k = 0 ↔ V 10000 (a.take k) = V 10000 (b.take k))
 | 0 => by simp [aNp]
 | k + 1 => by
  obtain ⟨i1, i2⟩ := aCu ha hb k
  have ea := aa5 10000 a k
  have eb := aa5 10000 b k
  have la := ac5 zc ha k
  have lb := ac5 zc hb k
  have na := aaS zc (ab4 ha k)
  have nb := aaS zc (ab4 hb k)
  unfold aNp
  rw [ea, eb]
  by_cases c : a.getD k 0 = b.getD k 0
  ·rw [if_neg (fun h => h c), c]
   omega
  ·rw [if_pos c]
   rcases zS (a.getD k 0) (b.getD k 0) with h | h
   ·have h5 : (10000 : Int) ^ k * (a.getD k 0 + 1) ≤ 10000 ^ k * b.getD k 0 := zC zc zc
    rw [xZ] at h5
    omega
   ·have h5 : (10000 : Int) ^ k * (b.getD k 0 + 1) ≤ 10000 ^ k * a.getD k 0 := zC zc zc
    rw [xZ] at h5
    omega
theorem aGY (m n : Nat) : (aPc (dig m) (dig n) < 0 ↔ m < n) ∧ (aPc (dig m) (dig n) = 0 ↔ m = n) := by
 unfold aPc
 by_cases c : (dig m).length = (dig n).length
 ·rw [if_neg (fun h => h c)]
  obtain ⟨h1, h2⟩ := aCu (adY m) (adY n) (dig m).length
  rw [abE _ (zq _), abE _ zc, aiN, aiN] at h1 h2
  omega
 ·rw [if_pos c]
  rcases zr (dig m).length (dig n).length with h | h
  ·have := anF h; omega
  ·have := anF (m := n) (n := m) zc; omega
theorem aNB {a b s : List Int} {k : Nat} {c x c' : Int} (h5 : s.length = k) (h7 : V 10000 s + 10000 ^ k * c = V 10000 (a.take k) + V 10000 (b.take k)) (hx : x + 10000 * c' = a.getD k 0 + b.getD k 0 + c) : V 10000 (s ++ [x]) + 10000 ^ (k + 1) * c' = V 10000 (a.take (k + 1)) + V 10000 (b.take (k + 1)) := by
 rw [aeB, aCa, h5, aa5, aa5, zZ]
 have : (10000 : Int) ^ k * (x + 10000 * c') = 10000 ^ k * (a.getD k 0 + b.getD k 0 + c) := by rw [hx]
 grind
theorem aNz {x : Int} (h : 0 ≤ x) : Int.tdiv x 10000 = x / 10000 := zL h
theorem aNu {x : Int} (h : 0 ≤ x) : Int.tmod x 10000 = x % 10000 := zE h
theorem aH9 (m o : List Int) (y) (h : auH (m, o, ()) = some y) : (aGS m o).toO = some y := by
 obtain ⟨⟨a, b⟩, hn, hx, rfl⟩ := aaE h
 obtain ⟨rfl, hx2⟩ := Prod.mk.inj hx; obtain ⟨rfl, -⟩ := Prod.mk.inj hx2; dsimp only
 obtain ⟨la, lb⟩ := hn
 simp only at la lb
 have hda := adY a
 have hdb := adY b
 have hVa := aiN a
 have hVb := aiN b
 clear hx hx2 h
 have hca := aHm a
 have hcb := aHm b
 generalize dig a = A at *
 generalize dig b = B at *
 refine uO (0, 0, true, [], ()) rfl ?_
 refine aaL (fun i : Int × Int × Bool × List Int × Unit => ∃ k : Nat, k ≤ A.length + B.length + 1 ∧ i.1 = (k : Int) ∧ 0 ≤ i.2.1 ∧ i.2.1 ≤ 1 ∧ i.2.2.2.1.length = k ∧ Dg 10000 i.2.2.2.1 ∧ V 10000 i.2.2.2.1 + 10000 ^ k * i.2.1 = V 10000 (A.take k) + V 10000 (B.take k) ∧ (i.2.2.1 = true → i.2.2.2.1 = []) ∧ (A.length ≤ k → B.length ≤ k → i.2.1 = 0 → Cn i.2.2.2.1) ∧ (i.2.1 = 0 ∨ k ≤ A.length ∨ k ≤ B.length)) (fun i => (((A.length + B.length + 2 : Nat) : Int) - i.1).toNat) (fun _ => (dig (a + b), ())) ?_ _ ⟨0, by omega, rfl, by simp, by simp, rfl, ax2 _, by simp [V], fun _ => rfl, fun _ _ _ => atP, Or.inl rfl⟩
 rintro ⟨i, c, f, s, u⟩ ⟨k, h1, h2, h3, h4, h5, h6, h7, h8, h9, h10⟩
 dsimp only at h2 h3 h4 h5 h6 h7 h8 h9 h10
 subst h2
 have da := aa2 zc hda k
 have db := aa2 zc hdb k
 have hS : 0 ≤ A.getD k 0 + B.getD k 0 + c := zc
 by_cases hgo : k < A.length ∨ k < B.length ∨ 0 < c
 ·left
  have e1 := yi (A.getD k 0 + B.getD k 0 + c) 10000
  refine ⟨(((k + 1 : Nat) : Int), (A.getD k 0 + B.getD k 0 + c) / 10000, false, s ++ [(A.getD k 0 + B.getD k 0 + c) % 10000], ()), ?_, ⟨k + 1, by omega, rfl, by dsimp only; omega, by dsimp only; omega, by simp; omega, afE h6 (anK zc zc), aNB h5 h7 e1, by simp, ?_, ?_⟩, by dsimp only; omega, ze⟩
  ·have zA : ¬ k < A.length → A.getD k 0 = 0 := fun h => ahA zc 0
   have zB : ¬ k < B.length → B.getD k 0 = 0 := fun h => ahA zc 0
   have eD : ∀ x : Int, x = A.getD k 0 + B.getD k 0 + c → Int.tdiv x 10000 = (A.getD k 0 + B.getD k 0 + c) / 10000 ∧ Int.tmod x 10000 = (A.getD k 0 + B.getD k 0 + c) % 10000 := fun x hx => by rw [hx]; exact ⟨aNz hS, aNu hS⟩
   have w1 : w64 (c + A.getD k 0) = c + A.getD k 0 := aaA zc
   have w2 : w64 (c + A.getD k 0 + B.getD k 0) = c + A.getD k 0 + B.getD k 0 := aaA zc
   have w3 : w64 (c + B.getD k 0) = c + B.getD k 0 := aaA zc
   have w4 : w64 ((A.getD k 0 + B.getD k 0 + c) / 10000) = (A.getD k 0 + B.getD k 0 + c) / 10000 := aaA zc
   have w5 : w64 ((k : Int) + 1) = ((k + 1 : Nat) : Int) := by rw [aaA (x := (k : Int) + 1) zc]; omega
   cases f with
   | true =>
    obtain rfl := h8 rfl
    simp only [alB, adI, adJ, aaM, w1, w2, w3, w5]
    by_cases cA : k < A.length <;> by_cases cB : k < B.length
    ·obtain ⟨q1, q2⟩ := eD (c + A.getD k 0 + B.getD k 0) zc
     simp only [q1, q2, w4]
     repeat refine za ?_
     rfl
    ·obtain ⟨q1, q2⟩ := eD (c + A.getD k 0) (by have := zB cB; omega)
     simp only [q1, q2, w4]
     repeat refine za ?_
     rfl
    ·obtain ⟨q1, q2⟩ := eD (c + B.getD k 0) (by have := zA cA; omega)
     simp only [q1, q2, w4]
     repeat refine za ?_
     rfl
    ·obtain ⟨q1, q2⟩ := eD c (by have := zA cA; have := zB cB; omega)
     have hc0 : 0 < c := zc
     simp only [q1, q2, w4]
     repeat refine za ?_
     rfl
   | false =>
    simp only [alB, adI, adJ, aaM, w1, w2, w3, w5, zt]
    by_cases cA : k < A.length <;> by_cases cB : k < B.length
    ·obtain ⟨q1, q2⟩ := eD (c + A.getD k 0 + B.getD k 0) zc
     simp only [q1, q2, w4]
     repeat refine za ?_
     rfl
    ·obtain ⟨q1, q2⟩ := eD (c + A.getD k 0) (by have := zB cB; omega)
     simp only [q1, q2, w4]
     repeat refine za ?_
     rfl
    ·obtain ⟨q1, q2⟩ := eD (c + B.getD k 0) (by have := zA cA; omega)
     simp only [q1, q2, w4]
     repeat refine za ?_
     rfl
    ·obtain ⟨q1, q2⟩ := eD c (by have := zA cA; have := zB cB; omega)
     have hc0 : 0 < c := zc
     simp only [q1, q2, w4]
     repeat refine za ?_
     rfl
  ·intro g1 g2 g3
   dsimp only at g3 ⊢
   unfold Cn
   simp only [List.getLast?_concat, ne_eq, Option.some.injEq]
   intro g4
   have hz : A.getD k 0 + B.getD k 0 + c = 0 := zc
   have ca : ¬ k < A.length := by
    intro hk
    have : k = A.length - 1 := zc
    unfold Cn at hca
    rw [yQ, ← this, zR hk] at hca
    rw [aiH hk] at *
    exact hca (by congr 1; omega)
   have cb : ¬ k < B.length := by
    intro hk
    have : k = B.length - 1 := zc
    unfold Cn at hcb
    rw [yQ, ← this, zR hk] at hcb
    rw [aiH hk] at *
    exact hcb (by congr 1; omega)
   omega
  ·dsimp only
   by_cases cA : k < A.length
   ·right; left; omega
   ·by_cases cB : k < B.length
    ·right; right; omega
    ·left
     have := ahA (l := A) (k := k) zc 0
     have := ahA (l := B) (k := k) zc 0
     omega
 ·right
  have hc : c = 0 := zc
  subst hc
  rw [abE _ zc, abE _ zc, hVa, hVb] at h7
  have hs : s = dig (a + b) := aBM h6 (h9 zc zc rfl) zc
  cases f with
  | true =>
   obtain rfl := h8 rfl
   unfold alB adI adJ
   repeat refine za ?_
   rw [← hs]; rfl
  | false =>
   unfold alB adI adJ
   repeat refine za ?_
   rw [← hs, aaH, zt]
theorem al9 {a b : List Int} (h1 : Dg 10000 a) (h2 : Dg 10000 b) (h3 : a.length ≤ 1000000000000) (h4 : b.length ≤ a.length) (h5 : V 10000 b ≤ V 10000 a) {n : Nat} (hn : V 10000 a - V 10000 b = n) : aa9 (a, b, ()) = some (dig n, ()) := by
 unfold aa9
 rw [if_pos ⟨h1, h2, h3, h4, h5⟩]
 simp only [hn, zp]
theorem aMj {a b s : List Int} {k : Nat} {c x c' : Int} (h5 : s.length = k) (h7 : V 10000 s = V 10000 (a.take k) - V 10000 (b.take k) + 10000 ^ k * c) (hx : x = a.getD k 0 - b.getD k 0 - c + 10000 * c') : V 10000 (s ++ [x]) = V 10000 (a.take (k + 1)) - V 10000 (b.take (k + 1)) + 10000 ^ (k + 1) * c' := by
 rw [aeB, aCa, h5, aa5, aa5, zZ, h7, hx]
 grind
theorem aq5 (A B : List Int) (y) (h : aa9 (A, B, ()) = some y) : (alC A B).toO = some y := by
 unfold aa9 at h
 split at h
 case isFalse => cases h
 case isTrue hp =>
 obtain ⟨hda, hdb, la, lb, hle⟩ := hp
 dsimp only at hda hdb la lb hle h
 injection h with h
 subst h
 refine uO (0, 0, true, [], ()) rfl ?_
 refine aaL (fun i : Int × Int × Bool × List Int × Unit => ∃ k : Nat, k ≤ A.length ∧ i.1 = (k : Int) ∧ 0 ≤ i.2.1 ∧ i.2.1 ≤ 1 ∧ i.2.2.2.1.length = k ∧ Dg 10000 i.2.2.2.1 ∧ V 10000 i.2.2.2.1 = V 10000 (A.take k) - V 10000 (B.take k) + 10000 ^ k * i.2.1 ∧ (i.2.2.1 = true → i.2.2.2.1 = [])) (fun i => ((A.length : Int) - i.1).toNat) (fun _ => (dig (V 10000 A - V 10000 B).toNat, ())) ?_ _ ⟨0, by omega, rfl, by simp, by simp, rfl, ax2 _, by simp [V], fun _ => rfl⟩
 rintro ⟨i, c, f, s, u⟩ ⟨k, h1, h2, h3, h4, h5, h6, h7, h8⟩
 dsimp only at h2 h3 h4 h5 h6 h7 h8
 subst h2
 have da := aa2 zc hda k
 have db := aa2 zc hdb k
 have w5 : w64 ((k : Int) + 1) = ((k + 1 : Nat) : Int) := by rw [aaA (x := (k : Int) + 1) zc]; omega
 have w1 : w64 (A.getD k 0 - c) = A.getD k 0 - c := aaA zc
 have w2 : w64 (A.getD k 0 - c - B.getD k 0) = A.getD k 0 - c - B.getD k 0 := aaA zc
 have w3 : w64 (A.getD k 0 - c + 10000) = A.getD k 0 - c + 10000 := aaA zc
 have w4 : w64 (A.getD k 0 - c - B.getD k 0 + 10000) = A.getD k 0 - c - B.getD k 0 + 10000 := aaA zc
 rcases zr k A.length with hk | hk
 ·left
  have fin : ∀ x c' : Int, 0 ≤ x ∧ x < 10000 → 0 ≤ c' ∧ c' ≤ 1 → x = A.getD k 0 - B.getD k 0 - c + 10000 * c' → (∃ k_1 : Nat, k_1 ≤ A.length ∧ ((k + 1 : Nat) : Int) = (k_1 : Int) ∧ 0 ≤ c' ∧ c' ≤ 1 ∧ (s ++ [x]).length = k_1 ∧ Dg 10000 (s ++ [x]) ∧ V 10000 (s ++ [x]) = V 10000 (A.take k_1) - V 10000 (B.take k_1) + 10000 ^ k_1 * c' ∧ (false = true → (s ++ [x]) = [])) ∧ ((A.length : Int) - ((k + 1 : Nat) : Int)).toNat < ((A.length : Int) - (k : Int)).toNat :=
   fun x c' hx hc he => ⟨⟨k + 1, by omega, rfl, hc.1, hc.2, by simp; omega, afE h6 (anK hx.1 hx.2), aMj h5 h7 he, by simp⟩, by omega⟩
  have zB : ¬ k < B.length → B.getD k 0 = 0 := fun h => ahA zc 0
  by_cases cn : A.getD k 0 - c - B.getD k 0 < 0
  ·obtain ⟨g1, g2⟩ := fin (A.getD k 0 - c - B.getD k 0 + 10000) 1 zc zc zc
   refine ⟨(((k + 1 : Nat) : Int), 1, false, s ++ [A.getD k 0 - c - B.getD k 0 + 10000], ()), ?_, g1, g2, ze⟩
   cases f with
   | true =>
    obtain rfl := h8 rfl
    simp only [abT, aaM, w1, w2, w3, w4, w5]
    by_cases cB : k < B.length
    ·repeat refine za ?_
     rfl
    ·have := zB cB
     rw [this, wE] at *
     repeat refine za ?_
     rfl
   | false =>
    simp only [abT, aaM, w1, w2, w3, w4, w5, zt]
    by_cases cB : k < B.length
    ·repeat refine za ?_
     rfl
    ·have := zB cB
     rw [this, wE] at *
     repeat refine za ?_
     rfl
  ·obtain ⟨g1, g2⟩ := fin (A.getD k 0 - c - B.getD k 0) 0 zc zc zc
   refine ⟨(((k + 1 : Nat) : Int), 0, false, s ++ [A.getD k 0 - c - B.getD k 0], ()), ?_, g1, g2, ze⟩
   cases f with
   | true =>
    obtain rfl := h8 rfl
    simp only [abT, aaM, w1, w2, w3, w4, w5]
    by_cases cB : k < B.length
    ·repeat refine za ?_
     rfl
    ·have := zB cB
     rw [this, wE] at *
     repeat refine za ?_
     rfl
   | false =>
    simp only [abT, aaM, w1, w2, w3, w4, w5, zt]
    by_cases cB : k < B.length
    ·repeat refine za ?_
     rfl
    ·have := zB cB
     rw [this, wE] at *
     repeat refine za ?_
     rfl
 ·right
  have hkk : k = A.length := zc
  subst hkk
  rw [abE _ (zq _), abE _ lb] at h7
  have hlt := aJF zc h6
  rw [h5] at hlt
  have hc : c = 0 := by
   rcases zS 0 c with hc | hc
   ·have hc1 : c = 1 := zc
    subst hc1
    omega
   ·omega
  subst hc
  cases f with
  | true =>
   obtain rfl := h8 rfl
   unfold abT
   refine uT rfl (uF sd (uC (dig (V 10000 A - V 10000 B).toNat, ()) (af4 h6 zi zc) rfl))
  | false =>
   unfold abT
   dsimp only
   rw [zt]
   refine uF rfl (uF sd (uC (dig (V 10000 A - V 10000 B).toNat, ()) (af4 h6 zc zc) rfl))
theorem aJB (Vs P c A K x T X Y d e Q B : Int) (h : Vs + P * c = A + K * (x * T)) (h2 : X + B * Y = c + d + x * e) (hP : P = K * Q) : Vs + P * (X - d) + P * B * Y = A + K * (x * (T + Q * e)) := by
 subst hP
 have h3 : K * Q * (X + B * Y) = K * Q * (c + d + x * e) := by rw [h2]
 grind
theorem aIH {a b B : Int} (ha : 0 ≤ a ∧ a < B) (hb : 0 ≤ b ∧ b < B) : 0 ≤ a * b ∧ a * b ≤ (B - 1) * (B - 1) := by
 refine ⟨yg ha.1 hb.1, ?_⟩
 have h1 : a * b ≤ a * (B - 1) := zC zc ha.1
 have h2 : a * (B - 1) ≤ (B - 1) * (B - 1) := zD zc zc
 omega
theorem atM {a b : List Int} (h1 : Dg 10000 a) (h2 : Dg 10000 b ∨ b = [10000]) (h3 : a.length ≤ 400000000000) (h4 : b.length ≤ 400000000000) {n : Nat} (hn : V 10000 a * V 10000 b = n) : acB (a, b, ()) = some (dig n, ()) := by
 unfold acB
 rw [if_pos ⟨h1, h2, h3, h4⟩]
 simp only [hn, zp]
theorem aA5 (A D : List Int) (hda : Dg 10000 A) (hdb : Dg 10000 D) (la : A.length ≤ 400000000000) (lb : D.length ≤ 400000000000) : (aeL A D).toO = some (dig (V 10000 A * V 10000 D).toNat, ()) := by
 have nb := aaS zc hdb
 have hw : w64 (len A + len D) = ((A.length + D.length : Nat) : Int) := by
  simp only [aaB]; rw [aaA (x := (A.length : Int) + D.length) zc]; omega
 unfold aeL
 simp only [hw]
 refine uN zc ?_
 refine uO (0, List.replicate (A.length + D.length) 0, ()) ?_ ?_
 ·repeat refine za ?_
  simp (disch := omega) only [aaH, aaA, aaO, aaZ, abJ, aaM, zv, zp, aaB, zt]
 have hBb : V 10000 D < 10000 ^ D.length := aJF zc hdb
 refine aaL (fun i => ∃ k : Nat, k ≤ A.length ∧ i.1 = (k : Int) ∧ i.2.1.length = A.length + D.length ∧ Dg 10000 i.2.1 ∧ V 10000 i.2.1 = V 10000 (A.take k) * V 10000 D) (fun i => ((A.length : Int) - i.1).toNat) (fun _ => (dig (V 10000 A * V 10000 D).toNat, ())) ?_ _ ⟨0, ye _, rfl, by simp, af5 zc _, by simp [V, asB]⟩
 rintro ⟨i, s, u⟩ ⟨k, h1, h2, h3, h4, h5⟩
 simp only at h2 h3 h4 h5
 subst h2
 simp only [ajT, aaM, hw]
 have ea := aa5 10000 A k
 have da := aa2 zc hda k
 rcases zr k A.length with hk | hk
 ·left
  have hs : V 10000 s < 10000 ^ (k + D.length) := by
   rw [h5, we]
   have e1 := ac5 zc hda k
   have e2 := aaS zc (ab4 hda k)
   have e3 : V 10000 (A.take k) * V 10000 D ≤ V 10000 (A.take k) * 10000 ^ D.length := zC zc e2
   have e4 : V 10000 (A.take k) * 10000 ^ D.length < 10000 ^ k * 10000 ^ D.length := Int.mul_lt_mul_of_pos_right e1 (yE zc)
   omega
  have hz := alM zc h4 hs
  obtain ⟨r, hin, s', rfl, q1, q2, q3⟩ : ∃ r : ((Int × List Int × Unit) ⊕ (List Int × Unit)), acW (fun i1 => (adU A D ((k : Int), s, ()) i1).toO) (0, 0, s, ()) = some r ∧ ∃ s', r = Sum.inl (((k + 1 : Nat) : Int), s', ()) ∧ s'.length = A.length + D.length ∧ Dg 10000 s' ∧ V 10000 s' = V 10000 (A.take (k + 1)) * V 10000 D := by
   refine acM (fun j => ∃ q : Nat, q ≤ D.length ∧ j.1 = (q : Int) ∧ 0 ≤ j.2.1 ∧ j.2.1 < 10000 ∧ j.2.2.1.length = A.length + D.length ∧ Dg 10000 j.2.2.1 ∧ (∀ t, k + D.length ≤ t → j.2.2.1.getD t 0 = 0) ∧ V 10000 j.2.2.1 + 10000 ^ (k + q) * j.2.1 = V 10000 (A.take k) * V 10000 D + 10000 ^ k * (A.getD k 0 * V 10000 (D.take q))) (fun j => ((D.length : Int) - j.1).toNat) _ ?_ _ ⟨0, ye _, rfl, by simp, by simp, h3, h4, hz, by simp [V, h5]⟩
   rintro ⟨j, c, s1, u1⟩ ⟨q, g1, g2, g3, g4, g5, g6, g7, g8⟩
   simp only at g2 g3 g4 g5 g6 g7 g8
   subst g2
   have hkq : w64 ((k : Int) + q) = ((k + q : Nat) : Int) := by rw [aaA (x := (k : Int) + q) zc]; omega
   have hkl : w64 ((k : Int) + len D) = ((k + D.length : Nat) : Int) := by rw [aaB, aaA (x := (k : Int) + (D.length : Int)) zc]; omega
   simp only [adU, aaM, hw, hkq, hkl, zp, zv]
   have eb := aa5 10000 D q
   have db := aa2 zc hdb q
   have ds := aa2 zc g6 (k + q)
   have hm := aIH da db
   rcases zr q D.length with hq | hq
   ·left
    have hsum : 0 ≤ c + s1.getD (k + q) 0 + A.getD k 0 * D.getD q 0 := zc
    have e1 := yi (c + s1.getD (k + q) 0 + A.getD k 0 * D.getD q 0) 10000
    have ww : w64 (w64 (c + s1.getD (k + q) 0) + w64 (A.getD k 0 * D.getD q 0)) = c + s1.getD (k + q) 0 + A.getD k 0 * D.getD q 0 := by
     rw [aaA (x := c + s1.getD (k + q) 0) zc, aaA (x := A.getD k 0 * D.getD q 0) zc, aaA zc]
    simp only [ww]
    have e2 : 0 ≤ (c + s1.getD (k + q) 0 + A.getD k 0 * D.getD q 0) % 10000 ∧ (c + s1.getD (k + q) 0 + A.getD k 0 * D.getD q 0) % 10000 < 10000 := zc
    have e3 : 0 ≤ (c + s1.getD (k + q) 0 + A.getD k 0 * D.getD q 0) / 10000 ∧ (c + s1.getD (k + q) 0 + A.getD k 0 * D.getD q 0) / 10000 < 10000 := zc
    refine ⟨(((q + 1 : Nat) : Int), (c + s1.getD (k + q) 0 + A.getD k 0 * D.getD q 0) / 10000, s1.set (k + q) ((c + s1.getD (k + q) 0 + A.getD k 0 * D.getD q 0) % 10000), ()), ?_, ⟨q + 1, by omega, rfl, e3.1, e3.2, by simp; omega, aiB g6 e2 _, ?_, ?_⟩, by simp only; omega⟩
    ·repeat refine za ?_
     rw [zE hsum, zL hsum, aaA (x := (q : Int) + 1) zc, aaA (x := (c + s1.getD (k + q) 0 + A.getD k 0 * D.getD q 0) / 10000) zc]
     rfl
    ·intro t ht
     rw [an5 _ zc]; exact g7 t ht
    ·simp only
     rw [axG _ zc, eb, show k + (q + 1) = k + q + 1 by omega, zZ]
     exact aJB _ _ _ _ _ _ _ _ _ _ _ _ _ g8 e1 (we _ _ _)
   ·right
    have hqq : q = D.length := zc
    subst hqq
    rw [abE _ (zq _)] at g8
    refine ⟨.inl (((k + 1 : Nat) : Int), s1.set (k + D.length) c, ()), ?_, _, rfl, by simp; omega, aiB g6 ⟨g3, g4⟩ _, ?_⟩
    ·repeat refine za ?_
     rw [aaA (x := (k : Int) + 1) zc]
     rfl
    ·rw [axG _ zc, g7 _ zc, ea, wR]
     simp only [wE]
     rw [g8]
     grind
  refine ⟨(((k + 1 : Nat) : Int), s', ()), ?_, ⟨k + 1, by omega, rfl, q1, q2, q3⟩, by simp only; omega, ze⟩
  refine uT sd ?_
  refine uO (0, 0, s, ()) ?_ ?_
  ·repeat refine za ?_
   rfl
  ·exact hin
 ·right
  have hkk : k = A.length := zc
  rw [hkk, abE _ (zq _)] at h5
  have hnn := aaS zc h4
  refine uF sd ?_
  refine uC (dig (V 10000 A * V 10000 D).toNat, ()) ?_ ?_
  ·rw [zu zh]
   exact af4 h4 zc zc
  ·rfl
theorem au6 (A : List Int) (hda : Dg 10000 A) (la : A.length ≤ 400000000000) : (aeL A [10000]).toO = some (dig (V 10000 A * V 10000 [10000]).toNat, ()) := by
 have na := aaS zc hda
 have hV1 : V 10000 [10000] = 10000 := by simp [V]
 have hw : w64 (len A + len [(10000 : Int)]) = ((A.length + 1 : Nat) : Int) := by
  simp only [aaB, yu]; rw [aaA zc]; omega
 unfold aeL
 simp only [hw]
 refine uN zc ?_
 refine uO (0, List.replicate (A.length + 1) 0, ()) ?_ ?_
 ·repeat refine za ?_
  simp (disch := omega) only [aaH, aaA, aaO, aaZ, abJ, aaM, zv, zp, aaB, zt]
 refine aaL (fun i => ∃ k : Nat, k ≤ A.length ∧ i.1 = (k : Int) ∧ i.2.1 = ((0 :: A.take k) ++ List.replicate (A.length - k) 0)) (fun i => ((A.length : Int) - i.1).toNat) (fun _ => (dig (V 10000 A * V 10000 [10000]).toNat, ())) ?_ _ ⟨0, ye _, rfl, by simp [xi]⟩
 rintro ⟨i, s, u⟩ ⟨k, h1, h2, h3⟩
 simp only at h2 h3
 subst h2 h3
 simp only [ajT, aaM, hw]
 have da := aa2 zc hda k
 rcases zr k A.length with hk | hk
 ·left
  have hrep : List.replicate (A.length - k) (0 : Int) = 0 :: List.replicate (A.length - (k + 1)) 0 := by
   rw [show A.length - k = (A.length - (k + 1)) + 1 by omega, xi]
  have hset : ((0 :: A.take k) ++ List.replicate (A.length - k) 0).set (k + 1) A[k] = ((0 :: A.take (k + 1)) ++ List.replicate (A.length - (k + 1)) 0) := by
   rw [hrep, List.set_append_right _ _ zh]
   have : k + 1 - (0 :: A.take k).length = 0 := zh
   rw [this, List.set_cons_zero]
   simp only [vq, zO hk, yT, yW]
  have hcur : 0 ≤ ((0 :: A.take k) ++ List.replicate (A.length - k) 0).getD k 0 ∧ ((0 :: A.take k) ++ List.replicate (A.length - k) 0).getD k 0 < 10000 := by
   refine aa2 zc (afE (aCi zc (ab4 hda k)) (af5 zc _)) k
  have hlen : ((0 :: A.take k) ++ List.replicate (A.length - k) 0).length = A.length + 1 := zh
  generalize ((0 :: A.take k) ++ List.replicate (A.length - k) 0) = s at *
  generalize hd : s.getD k 0 = d at hcur
  have hg : A.getD k 0 = A[k] := by simp [hk]
  rw [hg] at da
  refine ⟨(((k + 1 : Nat) : Int), ((0 :: A.take (k + 1)) ++ List.replicate (A.length - (k + 1)) 0), ()), ?_, ⟨k + 1, by omega, rfl, rfl⟩, by simp only; omega, ze⟩
  refine uT sd ?_
  refine uO (0, 0, s, ()) ?_ ?_
  ·repeat refine za ?_
   rfl
  have hk0 : w64 ((k : Int) + 0) = ((k : Nat) : Int) := by rw [aaA zc]; omega
  have hkl : w64 ((k : Int) + len [(10000 : Int)]) = ((k + 1 : Nat) : Int) := by rw [aaB, yu, aaA zc]; omega
  have hsum : w64 (w64 (0 + d) + w64 (A[k] * 10000)) = d + A[k] * 10000 := by
   rw [aaA (x := 0 + d) zc, aaA (x := A[k] * 10000) zc, aaA zc]; omega
  have s1 : (adU A [10000] ((k : Int), s, ()) (0, 0, s, ())).toO = some (.inl (1, A[k], s, ())) := by
   simp only [adU, aaM, hw, hk0, zp, zv, hd, hg]
   have hgi : gi [(10000 : Int)] 0 0 = 10000 := rfl
   simp only [hgi, hsum]
   refine uT (by (try simp only [yp, yv, zV, xh, beq_eq_false_iff_ne, bne_eq_false_iff_eq, zU, yP]) <;> (try simp only [aaB, inb, inc, ge_iff_le, gt_iff_lt, zp, asT, ne_eq]) <;> simp) (uN sd (uN sd (uN (by (try simp only [aaB, inb, inc, ge_iff_le, gt_iff_lt, zp, asT, ne_eq]); simp) ?_)))
   repeat refine za ?_
   rw [zE zc, zL zc]
   have m1 : (d + A[k] * 10000) % 10000 = d := zc
   have m2 : (d + A[k] * 10000) / 10000 = A[k] := zc
   have m3 : s.set k d = s := by
    rw [← hd, aiH zc]
    exact List.set_getElem_self zc
   rw [m1, m2, m3, aaA (x := A[k]) zc]
   rfl
  rw [acL s1]
  refine ab8 ?_
  simp only [adU, hw, hkl, zp, zv]
  refine uF (by (try simp only [yp, yv, zV, xh, beq_eq_false_iff_ne, bne_eq_false_iff_eq, zU, yP]) <;> (try simp only [aaB, inb, inc, ge_iff_le, gt_iff_lt, zp, asT, ne_eq]) <;> simp) (uN sd ?_)
  repeat refine za ?_
  rw [hset, aaA (x := (k : Int) + 1) zc]
  rfl
 ·right
  have hkk : k = A.length := zc
  subst hkk
  rw [Nat.sub_self, List.replicate_zero, wT, zt]
  refine uF sd ?_
  refine uC (dig (V 10000 A * V 10000 [10000]).toNat, ()) ?_ ?_
  ·rw [zu zi]
   refine af4 (aCi zc hda) zh ?_
   rw [hV1]
   show 0 + 10000 * V 10000 A = _
   omega
  ·rfl
theorem ayG (A D : List Int) (y) (h : acB (A, D, ()) = some y) : (aeL A D).toO = some y := by
 unfold acB at h
 split at h
 case isFalse => cases h
 case isTrue hp =>
 obtain ⟨hda, hdb, la, lb⟩ := hp
 dsimp only at hda hdb la lb h
 injection h with h
 subst h
 rcases hdb with hdb | rfl
 ·exact aA5 A D hda hdb la lb
 ·exact au6 A hda la
theorem aM7 {a d : Nat} (h1 : (dig a).length ≤ 1000000000000) (h2 : 0 < d) (h3 : d < 10000) : ap4 (dig a, (d : Int), ()) = some (dig (a / d), ((a % d : Nat) : Int), ()) := by
 refine aaK (enc := fun p : Nat × Nat => (dig p.1, (p.2 : Int), ())) (a, d) ⟨h1, h2, h3⟩ (fun b hb => ?_)
 obtain ⟨e1, e2⟩ := Prod.mk.inj hb
 obtain ⟨e2, -⟩ := Prod.mk.inj e2
 exact Prod.ext (awI e1) (Int.ofNat.inj e2)
theorem aJC (Vm Vq P d R m X Y B W : Int) (h : Vm = Vq * d + R) (h2 : Y + d * X = R * B + m) (hW : W = m + B * Vm) (hP : P = X + B * Vq) : W = P * d + Y := by
 subst hW hP h
 grind
theorem aE5 (m : List Int) (d : Int) (y) (h : ap4 (m, d, ()) = some y) : (au9 m d).toO = some y := by
 obtain ⟨⟨a, e⟩, hn, hx, rfl⟩ := aaE h
 obtain ⟨rfl, hx2⟩ := Prod.mk.inj hx; obtain ⟨rfl, -⟩ := Prod.mk.inj hx2; dsimp only
 obtain ⟨la, he, he2⟩ := hn
 simp only at la he he2
 have hda := adY a
 have hVa := aiN a
 unfold au9
 refine uN sn ?_
 refine uO (((dig a).length : Int) - 1, 0, List.replicate (dig a).length 0, ()) ?_ ?_
 ·repeat refine za ?_
  simp only [aaB]
  rw [aaA (x := ((dig a).length : Int) - 1) zc]
  rfl
 refine aaL (fun i : Int × Int × List Int × Unit => ∃ k : Nat, k ≤ (dig a).length ∧ i.1 = (k : Int) - 1 ∧ 0 ≤ i.2.1 ∧ i.2.1 < e ∧ i.2.2.1.length = (dig a).length ∧ Dg 10000 i.2.2.1 ∧ V 10000 ((dig a).drop k) = V 10000 (i.2.2.1.drop k) * e + i.2.1) (fun i => (i.1 + 1).toNat) (fun _ => (dig (a / e), ((a % e : Nat) : Int), ())) ?_ _ ⟨_, zq _, rfl, by simp, by simp; omega, by simp, af5 zc _, by rw [acT _ (zq _), acT _ zi]; simp⟩
 rintro ⟨i, r, q, u⟩ ⟨k, h1, h2, h3, h4, h5, h6, h7⟩
 simp only at h2 h3 h4 h5 h6 h7
 subst h2
 rcases zF k with h0 | h0
 ·subst h0
  right
  simp only [yM, hVa] at h7
  obtain ⟨v, hv⟩ := zw (aaS zc h6)
  obtain ⟨r', rfl⟩ := zw h3
  rw [hv] at h7
  have h8 : a = v * e + r' := by
   have : (a : Int) = ((v * e + r' : Nat) : Int) := by simpa using h7
   exact Int.ofNat.inj this
  have h9 : a / e = v := by rw [h8, xd, wF _ _ he, xb zc, zv]
  have h10 : a % e = r' := by rw [h8, xd, xV, yB zc]
  simp only [aq4]
  refine uF sd ?_
  refine uC (dig v, ()) ?_ ?_
  ·rw [zu (by simp [len]; omega)]
   exact af4 h6 zc hv
  ·rw [aaH, h9, h10]
 ·left
  obtain ⟨j, rfl⟩ : ∃ j, k = j + 1 := ⟨k - 1, by omega⟩
  have e6 : ((j + 1 : Nat) : Int) - 1 = (j : Int) := zc
  rw [e6]
  simp only [aq4, aaM]
  have e1 := aaU 10000 (dig a) j
  have e2 := aa2 zc hda j
  have g1 : 0 ≤ r * 10000 + (dig a).getD j 0 := zc
  have g0 : (0 : Int) < e := zc
  have g2 := yi (r * 10000 + (dig a).getD j 0) e
  have g3 := yN (r * 10000 + (dig a).getD j 0) (show (e : Int) ≠ 0 by omega)
  have g4 := yz (r * 10000 + (dig a).getD j 0) g0
  have g5 : 0 ≤ (r * 10000 + (dig a).getD j 0) / e := xz g1 zc
  have g6 : (r * 10000 + (dig a).getD j 0) / e < 10000 := by
   refine Int.ediv_lt_of_lt_mul g0 ?_
   have : (r + 1) * 10000 ≤ e * 10000 := zD zc zc
   omega
  have hw1 : w64 (w64 (r * 10000) + (dig a).getD j 0) = r * 10000 + (dig a).getD j 0 := by
   rw [aaA (x := r * 10000) zc, aaA zc]
  simp only [hw1]
  refine ⟨((j : Int) - 1, (r * 10000 + (dig a).getD j 0) % e, q.set j ((r * 10000 + (dig a).getD j 0) / e), ()), ?_, ⟨j, by omega, rfl, g3, g4, by simp; omega, aiB h6 ⟨g5, g6⟩ _, ?_⟩, by simp only; omega, ze⟩
  ·repeat refine za ?_
   rw [zE g1, zL g1]
   rw [aaA (x := (r * 10000 + (dig a).getD j 0) / e) zc]
   simp (disch := omega) only [aaH, aaA, aaO, aaZ, abJ, aaM, zv, zp, aaB, zt]
  ·simp only
   refine aJC _ _ _ _ _ _ _ _ 10000 _ h7 g2 e1 ?_
   rw [aaU 10000 (q.set j _) j, an6 zc, ahD _ zc]
set_option maxRecDepth 100000
open Go Go.Vg Go.Proofs
noncomputable section
def aIa : LTab := [(135, 2042, 45058, ⟨0, (Int) × (List Int) × (List Int) × Unit, .dat (.s 12) vZ <| .dat (.s 11) tD <| .row 29 vZ <| .nil, [10, 9, 8, 5, 4, 0, 1], [29], 0⟩), (135, 1045658, 60418, ⟨1, (Int) × (Int) × Unit, .dat (.s 14) vZ <| .dat (.s 13) vZ <| .nil, [83, 82, 11, 81, 80, 79, 77, 76, 75, 74, 71, 70, 12, 10, 9, 8, 5, 4, 0, 1], [29], 0⟩), (135, 2091324, 74754, ⟨2, (Int) × (Int) × Unit, .dat (.s 16) vZ <| .dat (.s 15) vZ <| .nil, [109, 108, 107, 106, 105, 104, 103, 102, 87, 86, 85, 84, 13, 14, 83, 82, 11, 81, 80, 79, 77, 76, 75, 74, 71, 70, 12, 10, 9, 8, 5, 4, 0, 1], [29], 0⟩)]
def au7 (a : List Int) (b : List Int) (i : Int × List Int × List Int × Unit) (y2 : List Int × Unit) (i1 : Int × Int × Unit) (i2 : (Int) × (Int) × Unit) : TT (ur ⊕ (ur ⊕ ui)) :=
 .ite (decide (w64 (i2.1 - i2.2.1) > 1))
 (.triv (asT Int 2 ≠ 0) zf <| .call (acB (b, [w64 (Int.tdiv (w64 (i2.2.1 + i2.1)) 2)], ())) aGz fun y3 =>
 .call (acJ (y3.1, ())) aGz fun y4 =>
 .call (afQ (y4.1, y2.1, ())) Dd6 fun y5 =>
 .ite (decide (y5.1 ≤ 0))
 (.tt <| .lt (w64 (Int.tdiv (w64 (i2.2.1 + i2.1)) 2) : Int) fun z10 => .vI (vS z10 i2.1 (w64 (w64 (Int.tdiv i1.2.1 (w64 (w64 (gi b (w64 (len b - 1)) 0 * 10000) + gi b (w64 (w64 (len b - 1) - 1)) 0))) + 1) : Int) (w64 (Int.tdiv i1.2.1 (w64 (w64 (gi b (w64 (len b - 1)) 0 * 10000) + gi b (w64 (w64 (len b - 1) - 1)) 0))) : Int) (w64 (w64 (gi b (w64 (len b - 1)) 0 * 10000) + gi b (w64 (w64 (len b - 1) - 1)) 0) : Int) i1.2.1 (w64 (Int.tdiv i1.2.1 (w64 (w64 (w64 (gi b (w64 (len b - 1)) 0 * 10000) + gi b (w64 (w64 (len b - 1) - 1)) 0) + 1))) : Int) (w64 (w64 (w64 (gi b (w64 (len b - 1)) 0 * 10000) + gi b (w64 (w64 (len b - 1) - 1)) 0) + 1) : Int) <| vS (w64 (w64 (gi b (w64 (len b - 1)) 0 * 10000) + gi b (w64 (w64 (len b - 1) - 1)) 0) : Int) i1.2.1 (decide (i1.1 ≥ w64 (w64 (len b - 1) - 1))) (w64 (w64 (len b - 1) - 1)) (w64 (len b - 1)) i1.1 i1.2.1 i1.1 <| vS (w64 (w64 (len b - 1) + 1)) (w64 (len b - 1)) y2.1 y2.1 (List.take (1 + List.length i.2.1) ([gi a i.1 0] ++ i.2.1)) i.2.1 (gi a i.1 0) (gi a i.1 0) <| vO i.1 a (decide (i.1 ≥ 0)) i.1 i.1 <| (vN 29 0 (Int.toNat (w64 (len a - w64 (len b - 1)))) true) ∧ (vP (w64 (w64 (gi b (w64 (len b - 1)) 0 * 10000) + gi b (w64 (w64 (len b - 1) - 1)) 0) : Int) (w64 (len b - 1)) <| True ∧ True ∧ vU a b)) <| .vI (vH (vM 3 i.2.2.1) True) <| .ok (.inl ((i2.1, z10, ()))))
 (.tt <| .lt (w64 (Int.tdiv (w64 (i2.2.1 + i2.1)) 2) : Int) fun z11 => .lt (i2.2.1 : Int) fun z12 => .vI (vS z12 z11 (w64 (w64 (Int.tdiv i1.2.1 (w64 (w64 (gi b (w64 (len b - 1)) 0 * 10000) + gi b (w64 (w64 (len b - 1) - 1)) 0))) + 1) : Int) (w64 (Int.tdiv i1.2.1 (w64 (w64 (gi b (w64 (len b - 1)) 0 * 10000) + gi b (w64 (w64 (len b - 1) - 1)) 0))) : Int) (w64 (w64 (gi b (w64 (len b - 1)) 0 * 10000) + gi b (w64 (w64 (len b - 1) - 1)) 0) : Int) i1.2.1 (w64 (Int.tdiv i1.2.1 (w64 (w64 (w64 (gi b (w64 (len b - 1)) 0 * 10000) + gi b (w64 (w64 (len b - 1) - 1)) 0) + 1))) : Int) (w64 (w64 (w64 (gi b (w64 (len b - 1)) 0 * 10000) + gi b (w64 (w64 (len b - 1) - 1)) 0) + 1) : Int) <| vS (w64 (w64 (gi b (w64 (len b - 1)) 0 * 10000) + gi b (w64 (w64 (len b - 1) - 1)) 0) : Int) i1.2.1 (decide (i1.1 ≥ w64 (w64 (len b - 1) - 1))) (w64 (w64 (len b - 1) - 1)) (w64 (len b - 1)) i1.1 i1.2.1 i1.1 <| vS (w64 (w64 (len b - 1) + 1)) (w64 (len b - 1)) y2.1 y2.1 (List.take (1 + List.length i.2.1) ([gi a i.1 0] ++ i.2.1)) i.2.1 (gi a i.1 0) (gi a i.1 0) <| vO i.1 a (decide (i.1 ≥ 0)) i.1 i.1 <| (vN 29 0 (Int.toNat (w64 (len a - w64 (len b - 1)))) true) ∧ (vP (w64 (w64 (gi b (w64 (len b - 1)) 0 * 10000) + gi b (w64 (w64 (len b - 1) - 1)) 0) : Int) (w64 (len b - 1)) <| True ∧ True ∧ vU a b)) <| .vI (vH (vM 3 i.2.2.1) True) <| .ok (.inl ((z11, z12, ())))))
 (.need (inb i.1 (↑(Int.toNat (w64 (len a - w64 (len b - 1)))) : Int)) <| .call (acB (b, [i2.2.1], ())) aGz fun y6 =>
 .call (aa9 (y2.1, y6.1, ())) aGz fun y7 =>
 .tt <| .lt (w64 (i.1 - 1) : Int) fun z13 => .lt (List.set i.2.2.1 (0 + Int.toNat i.1) i2.2.1 : List Int) fun z14 => .vI (vP y7.1 z13 <| (vN 29 0 (Int.toNat (w64 (len a - w64 (len b - 1)))) true) ∧ (vP (w64 (w64 (gi b (w64 (len b - 1)) 0 * 10000) + gi b (w64 (w64 (len b - 1) - 1)) 0) : Int) (w64 (len b - 1)) <| True ∧ True ∧ vU a b)) <| .vI (vH (vM 3 z14) True) <| .ok (.inr (.inr (.inl ((z13, y7.1, z14, ()))))))
def aeC (a : List Int) (b : List Int) (i : Int × List Int × List Int × Unit) (y2 : List Int × Unit) (i1 : (Int) × (Int) × Unit) : TT (ur ⊕ ui) :=
 .ite (decide (i1.1 ≥ w64 (w64 (len b - 1) - 1)))
 (.ite (decide (i1.1 < len y2.1))
 (.need (inb i1.1 (len y2.1)) <| .tt <| .lt (w64 (i1.1 - 1) : Int) fun z4 => .lt (w64 (w64 (i1.2.1 * 10000) + gi y2.1 i1.1 0) : Int) fun z5 => .vI (vS z5 z4 (w64 (w64 (len b - 1) + 1)) (w64 (len b - 1)) y2.1 y2.1 (List.take (1 + List.length i.2.1) ([gi a i.1 0] ++ i.2.1)) i.2.1 <| vV (gi a i.1 0) (gi a i.1 0) i.1 a (decide (i.1 ≥ 0)) i.1 i.1 <| (vN 29 0 (Int.toNat (w64 (len a - w64 (len b - 1)))) true) ∧ (vP (w64 (w64 (gi b (w64 (len b - 1)) 0 * 10000) + gi b (w64 (w64 (len b - 1) - 1)) 0) : Int) (w64 (len b - 1)) <| True ∧ True ∧ vU a b)) <| .vI (vH (vM 3 i.2.2.1) True) <| .ok (.inl ((z4, z5, ()))))
 (.tt <| .lt (w64 (i1.1 - 1) : Int) fun z6 => .lt (w64 (i1.2.1 * 10000) : Int) fun z7 => .vI (vS z7 z6 (w64 (w64 (len b - 1) + 1)) (w64 (len b - 1)) y2.1 y2.1 (List.take (1 + List.length i.2.1) ([gi a i.1 0] ++ i.2.1)) i.2.1 <| vV (gi a i.1 0) (gi a i.1 0) i.1 a (decide (i.1 ≥ 0)) i.1 i.1 <| (vN 29 0 (Int.toNat (w64 (len a - w64 (len b - 1)))) true) ∧ (vP (w64 (w64 (gi b (w64 (len b - 1)) 0 * 10000) + gi b (w64 (w64 (len b - 1) - 1)) 0) : Int) (w64 (len b - 1)) <| True ∧ True ∧ vU a b)) <| .vI (vH (vM 3 i.2.2.1) True) <| .ok (.inl ((z6, z7, ())))))
 (.need (w64 (w64 (w64 (gi b (w64 (len b - 1)) 0 * 10000) + gi b (w64 (w64 (len b - 1) - 1)) 0) + 1) ≠ 0) <| .need (w64 (w64 (gi b (w64 (len b - 1)) 0 * 10000) + gi b (w64 (w64 (len b - 1) - 1)) 0) ≠ 0) <| .loop 2 (.tt <| .lt (w64 (w64 (Int.tdiv i1.2.1 (w64 (w64 (gi b (w64 (len b - 1)) 0 * 10000) + gi b (w64 (w64 (len b - 1) - 1)) 0))) + 1) : Int) fun z8 => .lt (w64 (Int.tdiv i1.2.1 (w64 (w64 (w64 (gi b (w64 (len b - 1)) 0 * 10000) + gi b (w64 (w64 (len b - 1) - 1)) 0) + 1))) : Int) fun z9 => .vI (vS z9 z8 z8 (w64 (Int.tdiv i1.2.1 (w64 (w64 (gi b (w64 (len b - 1)) 0 * 10000) + gi b (w64 (w64 (len b - 1) - 1)) 0))) : Int) (w64 (w64 (gi b (w64 (len b - 1)) 0 * 10000) + gi b (w64 (w64 (len b - 1) - 1)) 0) : Int) i1.2.1 z9 (w64 (w64 (w64 (gi b (w64 (len b - 1)) 0 * 10000) + gi b (w64 (w64 (len b - 1) - 1)) 0) + 1) : Int) <| vS (w64 (w64 (gi b (w64 (len b - 1)) 0 * 10000) + gi b (w64 (w64 (len b - 1) - 1)) 0) : Int) i1.2.1 (decide (i1.1 ≥ w64 (w64 (len b - 1) - 1))) (w64 (w64 (len b - 1) - 1)) (w64 (len b - 1)) i1.1 i1.2.1 i1.1 <| vS (w64 (w64 (len b - 1) + 1)) (w64 (len b - 1)) y2.1 y2.1 (List.take (1 + List.length i.2.1) ([gi a i.1 0] ++ i.2.1)) i.2.1 (gi a i.1 0) (gi a i.1 0) <| vO i.1 a (decide (i.1 ≥ 0)) i.1 i.1 <| (vN 29 0 (Int.toNat (w64 (len a - w64 (len b - 1)))) true) ∧ (vP (w64 (w64 (gi b (w64 (len b - 1)) 0 * 10000) + gi b (w64 (w64 (len b - 1) - 1)) 0) : Int) (w64 (len b - 1)) <| True ∧ True ∧ vU a b)) <| .vI (vH (vM 3 i.2.2.1) True) <| .ok ((z8, z9, ()))) (au7 a b i y2 i1))
def anV (a : List Int) (b : List Int) (i : (Int) × (List Int) × (List Int) × Unit) : TT ui :=
 .ite (decide (i.1 ≥ 0))
 (.need (inb i.1 (len a)) <| .need ((1 + List.length i.2.1) * 8 ≤ 140737488355328) <| .call (acJ (List.take (1 + List.length i.2.1) ([gi a i.1 0] ++ i.2.1), ())) aGz fun y2 =>
 .loop 1 (.tt <| .lt (w64 (w64 (len b - 1) + 1) : Int) fun z3 => .vI (vS (0 : Int) z3 z3 (w64 (len b - 1)) y2.1 y2.1 (List.take (1 + List.length i.2.1) ([gi a i.1 0] ++ i.2.1)) i.2.1 <| vV (gi a i.1 0) (gi a i.1 0) i.1 a (decide (i.1 ≥ 0)) i.1 i.1 <| (vN 29 0 (Int.toNat (w64 (len a - w64 (len b - 1)))) true) ∧ (vP (w64 (w64 (gi b (w64 (len b - 1)) 0 * 10000) + gi b (w64 (w64 (len b - 1) - 1)) 0) : Int) (w64 (len b - 1)) <| True ∧ True ∧ vU a b)) <| .vI (vH (vM 3 i.2.2.1) True) <| .ok ((z3, 0, ()))) (aeC a b i y2))
 (.call (acJ (List.take (Int.toNat (w64 (len a - w64 (len b - 1)))) i.2.2.1, ())) aGz fun y8 =>
 .ok (.inr ((y8.1, i.2.1, ()))))
def aq2 (a : List Int) (b : List Int) : TT (List Int × List Int × Unit) :=
 .ite (len b == 1)
 (.need (asT Int 0 ≤ 0 ∧ 0 < len b) <| .call (ap4 (a, gi b 0 0, ())) aR0 fun y =>
 .call (acJ ([y.2.1], ())) aGz fun y1 =>
 .ok ((y.1, y1.1, ())))
 (.ite (decide (len a ≤ w64 (len b - 1)))
 (.need ((0 + List.length a) * 8 ≤ 140737488355328) <| .ok (([], List.take (0 + List.length a) (List.take 0 [] ++ a), ())))
 (.need (inb (w64 (len b - 1)) (len b)) <| .need (inb (w64 (w64 (len b - 1) - 1)) (len b)) <| .need (0 ≤ w64 (len a - w64 (len b - 1)) ∧ w64 (len a - w64 (len b - 1)) ≤ w64 (len a - w64 (len b - 1)) ∧ w64 (len a - w64 (len b - 1)) * (↑8 : Int) ≤ 140737488355328) <| .need (inc (w64 (len a - w64 (len b - 1))) (len a)) <| .need ((0 + List.length (List.take (List.length a - Int.toNat (w64 (len a - w64 (len b - 1)))) (List.drop (Int.toNat (w64 (len a - w64 (len b - 1)))) a))) * 8 ≤ 140737488355328) <| .loop 0 (.tt <| .lt (w64 ((↑(Int.toNat (w64 (len a - w64 (len b - 1)))) : Int) - 1) : Int) fun z => .lt (List.take (0 + List.length (List.take (List.length a - Int.toNat (w64 (len a - w64 (len b - 1)))) (List.drop (Int.toNat (w64 (len a - w64 (len b - 1)))) a))) (List.take 0 [] ++ List.take (List.length a - Int.toNat (w64 (len a - w64 (len b - 1)))) (List.drop (Int.toNat (w64 (len a - w64 (len b - 1)))) a)) : List Int) fun z1 => .lt (List.replicate (Int.toNat (w64 (len a - w64 (len b - 1)))) 0 : List Int) fun z2 => .vI (vP z1 z <| (vN 29 0 (Int.toNat (w64 (len a - w64 (len b - 1)))) true) ∧ (vP (w64 (w64 (gi b (w64 (len b - 1)) 0 * 10000) + gi b (w64 (w64 (len b - 1) - 1)) 0) : Int) (w64 (len b - 1)) <| True ∧ True ∧ vU a b)) <| .vI (vH (vM 3 z2) True) <| .ok ((z, z1, z2, ()))) (anV a b)))
def aKE : LTab := []
def aCT (a : Bool × List Int × Unit) : TT tx :=
 .call (ab1 (!a.1, a.2.1, ())) ayY fun y =>
 .ok (((y.1.1, y.1.2.1, ()), ()))
def aKG : LTab := []
def avD (a : Bool × List Int × Unit) (b : Bool × List Int × Unit) : TT tx :=
 .ite (a.1 == b.1)
 (.call (auH (a.2.1, b.2.1, ())) aGz fun y =>
 .call (ab1 (a.1, y.1, ())) ayY fun y1 =>
 .ok (((y1.1.1, y1.1.2.1, ()), ())))
 (.call (afQ (a.2.1, b.2.1, ())) Dd6 fun y2 =>
 .ite (decide (y2.1 ≥ 0))
 (.call (aa9 (a.2.1, b.2.1, ())) aGz fun y3 =>
 .call (ab1 (a.1, y3.1, ())) ayY fun y4 =>
 .ok (((y4.1.1, y4.1.2.1, ()), ())))
 (.call (aa9 (b.2.1, a.2.1, ())) aGz fun y5 =>
 .call (ab1 (b.1, y5.1, ())) ayY fun y6 =>
 .ok (((y6.1.1, y6.1.2.1, ()), ()))))
def aIf : LTab := []
def azL (a : Bool × List Int × Unit) (b : Bool × List Int × Unit) : TT tx :=
 .call (ajE ((b.1, b.2.1, ()), ())) ayY fun y =>
 .call (ahH ((a.1, a.2.1, ()), y.1, ())) ayY fun y1 =>
 .ok (((y1.1.1, y1.1.2.1, ()), ()))
def aId : LTab := []
def aq7 (a : Bool × List Int × Unit) (b : Bool × List Int × Unit) : TT (uo × uo × Unit) :=
 .call (ajD (a.2.1, b.2.1, ())) aRS fun y =>
 .call (ab1 (!a.1 == b.1, y.1, ())) ayY fun y1 =>
 .call (ab1 (a.1, y.2.1, ())) ayY fun y2 =>
 .ite (y2.1.1)
 (.call (ahH ((y2.1.1, y2.1.2.1, ()), (false, b.2.1, ()), ())) ayY fun y3 =>
 .ite (b.1)
 (.call (acC (1, ())) ayY fun y4 =>
 .call (ahH ((y1.1.1, y1.1.2.1, ()), y4.1, ())) ayY fun y5 =>
 .ok (((y5.1.1, y5.1.2.1, ()), (y3.1.1, y3.1.2.1, ()), ())))
 (.call (acC (1, ())) ayY fun y6 =>
 .call (amX ((y1.1.1, y1.1.2.1, ()), y6.1, ())) ayY fun y7 =>
 .ok (((y7.1.1, y7.1.2.1, ()), (y3.1.1, y3.1.2.1, ()), ()))))
 (.ok (((y1.1.1, y1.1.2.1, ()), (y2.1.1, y2.1.2.1, ()), ())))
def aCX : LTab := [(86, 28, 9217, ⟨0, (List Int) × (List Int) × Unit, .dat (.s 6) tD <| .dat (.s 5) tD <| .nil, [4], [2, 1, 0], 0⟩)]
def aoV (a : Bool × List Int × Unit) (b : Bool × List Int × Unit) (i : (List Int) × (List Int) × Unit) : TT (tf ⊕ tx) :=
 .ite (decide (len i.1 > 0))
 (.call (ajD (i.2.1, i.1, ())) aRS fun y =>
 .tt <| .lt (y.2.1 : List Int) fun z2 => .vI (vP i.1 z2 <| uv ∧ True) <| .vI (vH uJ <| vH (vL 83 b.1 b.2.1) <| vH (vL 83 a.1 a.2.1) True) <| .ok (.inl ((z2, i.1, ()))))
 (.ok (.inr (((false, i.2.1, ()), ()))))
def asW (a : Bool × List Int × Unit) (b : Bool × List Int × Unit) : TT tx :=
 .loop 0 (.tt <| .lt (b.2.1 : List Int) fun z => .lt (a.2.1 : List Int) fun z1 => .vI (vP z1 z <| uv ∧ True) <| .vI (vH uJ <| vH (vL 83 b.1 z) <| vH (vL 83 a.1 z1) True) <| .ok ((z, z1, ()))) (aoV a b)
end
theorem aoW {p q : Int × Int} (h : (pl p.1, pl p.2, ()) = (pl q.1, pl q.2, ())) : p = q := by
 obtain ⟨h1, h2⟩ := Prod.mk.inj h
 obtain ⟨h2, -⟩ := Prod.mk.inj h2
 exact Prod.ext (avF h1) (avF h2)
theorem aAk {p q : Nat × Nat} (h : (dig p.1, dig p.2, ()) = (dig q.1, dig q.2, ())) : p = q := by
 obtain ⟨h1, h2⟩ := Prod.mk.inj h
 obtain ⟨h2, -⟩ := Prod.mk.inj h2
 exact Prod.ext (awI h1) (awI h2)
theorem aLJ {n : Nat} (h : n < 10000) : isD (ayO n) := by
 intro c hc
 simp only [ayO, zy, List.not_mem_nil, or_false] at hc
 rcases hc with rfl | rfl | rfl | rfl <;> rw [auD zc] <;> omega
theorem aLI {n : Nat} (h : n < 10000) : num (ayO n) = n := by
 have e : ∀ a b c d : Nat, a < 10 → b < 10 → c < 10 → d < 10 → num [UInt8.ofNat (48 + a), UInt8.ofNat (48 + b), UInt8.ofNat (48 + c), UInt8.ofNat (48 + d)] = ((a * 10 + b) * 10 + c) * 10 + d := by
  intro a b c d ha hb hc hd
  unfold num
  rw [agC, agC, agC, agC, aAi ha, aAi hb, aAi hc, aAi hd]
  simp [ax7]
 unfold ayO
 rw [e _ _ _ _ zc zc zc zc]
 omega
theorem aOe {s : List UInt8} {k : Nat} (h : ∀ c ∈ s.take k, c = 48) : num s = num (s.drop k) := by
 have h1 : ∀ l : List UInt8, (∀ c ∈ l, c = 48) → num l = 0 := by
  intro l
  induction l using aEN with
  | nil => intro _; rfl
  | snoc l c ih =>
   intro h
   rw [ao8, ih (fun d hd => h d (vA _ hd)), h c zi]
   rfl
 conv => lhs; rw [← xq k s]
 rw [amH, h1 _ h]
 omega
theorem aQu {n : Nat} (h : Bd 6 n) : (dig n).length ≤ 13000000000 := by
 have h2 := aAl (k := 1000000 * 4 ^ 6) h
 omega
theorem aM9 {z : Int} (h : Bd 6 z.natAbs) : ap6 (pl z, ()) = some (dec z, ()) := aaK (enc := fun x : Int => (pl x, ())) z h (fun b hb => avF (Prod.mk.inj hb).1)
theorem aE9 (x : PlT) (y) (h : ap6 (x, ()) = some y) : (avC x).toO = some y := by
 obtain ⟨z, hp, hx, rfl⟩ := aaE h
 obtain ⟨rfl, -⟩ := Prod.mk.inj hx
 have hl := aQu hp
 have hd := adY z.natAbs
 have hV := aiN z.natAbs
 clear h hx
 unfold avC
 dsimp only
 refine uO (((dig z.natAbs).length : Int) - 1, [], ()) ?_ ?_
 ·repeat refine za ?_
  rw [aaH, aaB, aaA zc]
 refine aaL (fun i : Int × List UInt8 × Unit => ∃ k : Nat, k ≤ (dig z.natAbs).length ∧ i.1 = (k : Int) - 1 ∧ isD i.2.1 ∧ i.2.1.length = 4 * ((dig z.natAbs).length - k) ∧ (num i.2.1 : Int) = V 10000 ((dig z.natAbs).drop k)) (fun i => (i.1 + 1).toNat) (fun _ => (dec z, ())) ?_ _ ⟨_, zq _, rfl, (show isD [] from fun c hc => by cases hc), by simp, by rw [acT _ (zq _)]; rfl⟩
 rintro ⟨i, s, u⟩ ⟨k, h1, h2, h3, h4, h5⟩
 dsimp only at h2 h3 h4 h5
 subst h2
 cases k with
 | succ j =>
  left
  have e6 : ((j + 1 : Nat) : Int) - 1 = (j : Int) := zc
  have dj := aa2 zc hd j
  obtain ⟨m, hm⟩ := zw dj.1
  have hm2 : m < 10000 := zc
  rw [e6]
  refine ⟨((j : Int) - 1, s ++ ayO m, ()), ?_, ⟨j, by omega, rfl, ?_, ?_, ?_⟩, by dsimp only; omega, ze⟩
  ·simp only [aq6, aaM, hm]
   refine uT sd (uN sd (uC _ (aM8 hm2) (uN ?_ ?_)))
   ·have : (ayO m).length = 4 := rfl
    dsimp only
    rw [this, h4]
    unfold lim; omega
   ·repeat refine za ?_
    rw [aaH, aaA (x := (j : Int) - 1) zc]
  ·exact isD_append.2 ⟨h3, aLJ hm2⟩
  ·have : (ayO m).length = 4 := rfl
   simp only [zJ, this, h4]; omega
  ·dsimp only
   rw [amH, aLI hm2, aaU, hm, ← h5]
   have : (ayO m).length = 4 := rfl
   rw [this]
   simp; omega
 | zero =>
  right
  rw [yM, hV] at h5
  have h5' : num s = z.natAbs := Int.ofNat.inj h5
  simp only [aq6]
  refine uF sd (uO (0, ()) rfl ?_)
  refine aaL (fun i : Int × Unit => ∃ q : Nat, q ≤ s.length ∧ i = ((q : Int), ()) ∧ ∀ c ∈ s.take q, c = 48) (fun i => ((s.length : Int) - i.1).toNat) (fun _ => (.inr (dec z, ()) : (Int × List UInt8 × Unit) ⊕ (List UInt8 × Unit))) ?_ _ ⟨0, by omega, rfl, by simp⟩
  rintro i ⟨q, g1, rfl, g2⟩
  have hlead := aOe g2
  have hsl : s.length ≤ 60000000000 := zc
  have hdd : isD (s.drop q) := aBk h3 q
  have htk : List.take (s.length - q) (s.drop q) = s.drop q := zu zi
  have fin : ∀ (w : TT (uz ⊕ ((Int × List UInt8 × Unit) ⊕ uM))), (q = s.length ∨ (s.drop q).head? ≠ some 48) → (TT.ite (s.drop q == #[].toList) (TT.ok (.inr (.inr (#[48].toList, ())))) (TT.ite (decide (z < 0)) (TT.need (List.length #[(45 : UInt8)].toList + List.length (s.drop q) ≤ lim) (TT.ok (.inr (.inr (#[45].toList ++ s.drop q, ()))))) (TT.ok (.inr (.inr (s.drop q, ())))) : TT (uz ⊕ ((Int × List UInt8 × Unit) ⊕ uM)))).toO = some (.inr (.inr (dec z, ()))) := by
   intro _ hq
   by_cases c0 : s.drop q = []
   ·refine uT (by rw [c0]; rfl) ?_
    rw [c0] at hlead
    have : z.natAbs = 0 := by rw [← h5', hlead]; rfl
    have hz : z = 0 := zc
    subst hz
    rw [acP zc, Int.natAbs_zero, abK zc]; rfl
   ·refine uF (by rw [beq_eq_false_iff_ne]; exact c0) ?_
    have hu : s.drop q = aa3 z.natAbs := by
     have := aDY hdd c0 (by
      rcases hq with hq | hq
      ·exact absurd (by rw [hq]; simp) c0
      ·exact Or.inl hq)
     rw [this, ← hlead, h5']
    by_cases cz : z < 0
    ·refine uT (zo cz) (uN ?_ ?_)
     ·show 1 + (s.drop q).length ≤ lim
      rw [yy]; unfold lim; omega
     ·rw [hu, aiJ cz]; rfl
    ·refine uF (zn cz) ?_
     rw [hu, acP zc]; rfl
  unfold azK ajU
  simp only [aaM, zp, htk]
  rcases zr q s.length with hq | hq
  ·have e1 : s.getD q 0 = s[q] := by simp [hq]
   rw [e1]
   by_cases c : s[q] = 48
   ·left
    refine ⟨(((q + 1 : Nat) : Int), ()), ?_, ⟨q + 1, by omega, rfl, ?_⟩, by dsimp only; omega, ze⟩
    ·refine uT sd (uN sd (uT (by rw [c]; rfl) ?_))
     repeat refine za ?_
     rw [aaH, aaA (x := (q : Int) + 1) zc]; rfl
    ·intro c' hc'
     rw [zO hq] at hc'
     rcases zH.1 hc' with hc' | hc'
     ·exact g2 c' hc'
     ·rw [zX.1 hc', c]
   ·right
    refine uT sd (uN sd (uF ?_ (uN sd ?_)))
    ·rw [beq_eq_false_iff_ne]
     intro h
     exact c (UInt8.toNat_inj.1 (Int.ofNat.inj h))
    ·refine fin TT.bad (Or.inr ?_)
     rw [yo hq, wX]
     exact fun h => c (Option.some.inj h)
  ·right
   refine uF sd (uN sd ?_)
   exact fin TT.bad (Or.inl zc)
theorem aHx {z : Int} (h : Bd 6 z.natAbs) : ap7 (pl z, ()) = some (wrW z) := aaK (enc := fun x : Int => (pl x, ())) z h (fun b hb => avF (Prod.mk.inj hb).1)
theorem aIe (x : PlT) (y) (h : ap7 (x, ()) = some y) : (aGU x).toO = some y := by
 obtain ⟨z, hp, hx, rfl⟩ := aaE h
 obtain ⟨rfl, -⟩ := Prod.mk.inj hx
 refine uC _ (aM9 hp) ?_
 dsimp only
 have hl : (aa3 z.natAbs).length ≤ 90000000000 := by
  have := aiK (k := 1000000 * 4 ^ 6) hp
  omega
 by_cases c : z < 0
 ·refine uT (zo c) ?_
  have e : w64 (len (dec z) - 1) = ((aa3 z.natAbs).length : Int) := by
   rw [aiJ c, aaB, zG, aaA zc]; omega
  rw [e]
  by_cases f : Fit z
  ·rw [aiC f]
   have f' : (aa3 z.natAbs).length ≤ 600 := f
   exact uF sd rfl
  ·rw [aqQ f]
   have f' : ¬ (aa3 z.natAbs).length ≤ 600 := f
   exact uT sd rfl
 ·refine uF (zn c) ?_
  have e : len (dec z) = ((aa3 z.natAbs).length : Int) := by rw [acP zc]; rfl
  rw [e]
  by_cases f : Fit z
  ·rw [aiC f]
   have f' : (aa3 z.natAbs).length ≤ 600 := f
   exact uF sd rfl
  ·rw [aqQ f]
   have f' : ¬ (aa3 z.natAbs).length ≤ 600 := f
   exact uT sd rfl
theorem aiA {n : Int} (h : abD n) : acC (n, ()) = some (pl n, ()) := by unfold acC; rw [if_pos h]
theorem aOs {l : List Int} {x w v N : Int} (h : V 10000 l + 10000 ^ l.length * w = N) (hx : x + 10000 * v = w) : V 10000 (l ++ [x]) + 10000 ^ (l.length + 1) * v = N := by
 rw [aeB, aCa, zZ, ← h]
 have : (10000 : Int) ^ l.length * (x + 10000 * v) = 10000 ^ l.length * w := by rw [hx]
 grind
theorem ayH (n : Int) (y) (h : acC (n, ()) = some y) : (asV n).toO = some y := by
 unfold acC at h
 split at h
 case isFalse => cases h
 case isTrue hn =>
 injection h with h
 subst h
 obtain ⟨n0, n1⟩ := hn
 dsimp only at n0 n1
 refine uO (true, [], n, ()) rfl ?_
 refine aaL (fun i : Bool × List Int × Int × Unit => Dg 10000 i.2.1 ∧ i.2.2.1.natAbs ≤ n.natAbs ∧ V 10000 i.2.1 + 10000 ^ i.2.1.length * i.2.2.1.natAbs = n.natAbs ∧ (i.1 = true → i.2.1 = []) ∧ (i.2.2.1 = 0 → Cn i.2.1) ∧ i.2.1.length ≤ 6 ∧ i.2.2.1.natAbs < 10000 ^ (6 - i.2.1.length)) (fun i => i.2.2.1.natAbs) (fun _ => (pl n, ())) ?_ _ ⟨ax2 _, zq _, by simp [V], fun _ => rfl, fun _ => atP, by simp, by simp; omega⟩
 rintro ⟨f, l, v, u⟩ ⟨g1, g2, g3, g4, g5, g6, g7⟩
 dsimp only at g1 g2 g3 g4 g5 g6 g7
 by_cases hv : v = 0
 ·right
  subst hv
  have hm : ab1 (decide (n < 0), l, ()) = some (pl n, ()) := aEp g1 zc (by simp at g3; omega) (Or.inr rfl)
  cases f with
  | true =>
   obtain rfl := g4 rfl
   unfold aeV
   exact uT rfl (uF rfl (uC _ hm rfl))
  | false =>
   unfold aeV
   dsimp only
   rw [zt]
   exact uF rfl (uF rfl (uC _ hm rfl))
 ·left
  have hl6 : l.length ≤ 5 := by
   rcases zr 5 l.length with h | h
   ·have : l.length = 6 := zc
    rw [this] at g7; simp at g7; omega
   ·exact h
  have td : (Int.tdiv v 10000).natAbs = v.natAbs / 10000 := by rw [Int.natAbs_tdiv]; rfl
  have tm : (Int.tmod v 10000).natAbs = v.natAbs % 10000 := by rw [vG]; rfl
  have hx : ((v.natAbs % 10000 : Nat) : Int) + 10000 * ((v.natAbs / 10000 : Nat) : Int) = v.natAbs := zc
  have wd : w64 (Int.tdiv v 10000) = Int.tdiv v 10000 := aaA zc
  have wm : w64 (0 - Int.tmod v 10000) = 0 - Int.tmod v 10000 := aaA zc
  have inv : Dg 10000 (l ++ [((v.natAbs % 10000 : Nat) : Int)]) ∧ (Int.tdiv v 10000).natAbs ≤ n.natAbs ∧ V 10000 (l ++ [((v.natAbs % 10000 : Nat) : Int)]) + 10000 ^ (l ++ [((v.natAbs % 10000 : Nat) : Int)]).length * ((Int.tdiv v 10000).natAbs : Int) = n.natAbs ∧ (false = true → (l ++ [((v.natAbs % 10000 : Nat) : Int)]) = []) ∧ (Int.tdiv v 10000 = 0 → Cn (l ++ [((v.natAbs % 10000 : Nat) : Int)])) ∧ (l ++ [((v.natAbs % 10000 : Nat) : Int)]).length ≤ 6 ∧ (Int.tdiv v 10000).natAbs < 10000 ^ (6 - (l ++ [((v.natAbs % 10000 : Nat) : Int)]).length) := by
   refine ⟨afE g1 (anK zc zc), by omega, ?_, by simp, ?_, by simp; omega, ?_⟩
   ·rw [zJ, yu, td]
    exact aOs g3 hx
   ·intro hz
    unfold Cn
    simp only [List.getLast?_concat, ne_eq, Option.some.injEq]
    omega
   ·rw [zJ, yu, td, yK zc]
    have h9 : 10000 ^ (6 - l.length) = 10000 ^ (6 - (l.length + 1)) * 10000 := by
     rw [← yA]; congr 1; omega
    omega
  refine ⟨(false, l ++ [((v.natAbs % 10000 : Nat) : Int)], Int.tdiv v 10000, ()), ?_, inv, by dsimp only; omega, ze⟩
  cases f with
  | true =>
   obtain rfl := g4 rfl
   simp only [aeV, wd, wm]
   by_cases c : Int.tmod v 10000 < 0
   ·refine uT rfl (uT (by simpa using hv) (uV (uT (zo c) ?_)))
    repeat refine za ?_
    rw [aaH, show 0 - Int.tmod v 10000 = ((v.natAbs % 10000 : Nat) : Int) by omega]; rfl
   ·refine uT rfl (uT (by simpa using hv) (uV (uF (zn c) ?_)))
    repeat refine za ?_
    rw [aaH, show Int.tmod v 10000 = ((v.natAbs % 10000 : Nat) : Int) by omega]; rfl
  | false =>
   simp only [aeV, wd, wm, zt]
   by_cases c : Int.tmod v 10000 < 0
   ·refine uF rfl (uT (by simpa using hv) (uV (uT (zo c) ?_)))
    repeat refine za ?_
    rw [aaH, show 0 - Int.tmod v 10000 = ((v.natAbs % 10000 : Nat) : Int) by omega]
   ·refine uF rfl (uT (by simpa using hv) (uV (uF (zn c) ?_)))
    repeat refine za ?_
    rw [aaH, show Int.tmod v 10000 = ((v.natAbs % 10000 : Nat) : Int) by omega]
theorem ar8 {k n : Nat} (h : Bd k n) (hk : k ≤ 8) : (dig n).length ≤ 1000000000000 := zz (aEe h hk) zc
theorem axU {z : Int} (h : Bd 8 z.natAbs) : ajE (pl z, ()) = some (pl (-z), ()) := aaK (enc := fun x : Int => (pl x, ())) z h (fun b hb => avF (Prod.mk.inj hb).1)
theorem aE8 (x : PlT) (y) (h : ajE (x, ()) = some y) : (aCT x).toO = some y := by
 obtain ⟨z, hp, hx, rfl⟩ := aaE h
 obtain ⟨rfl, -⟩ := Prod.mk.inj hx
 refine uC (pl (-z), ()) (agY (ar8 hp zc) zc ?_) rfl
 by_cases h0 : z = 0
 ·left; omega
 ·right
  show (!decide (z < 0)) = decide (-z < 0)
  by_cases h1 : z < 0
  ·rw [zo h1, zn zc]; rfl
  ·rw [zn h1, zo zc]; rfl
theorem aO0 {a b : Nat} (h1 : (dig a).length ≤ 1000000000000) (h2 : (dig b).length ≤ 1000000000000) : auH (dig a, dig b, ()) = some (dig (a + b), ()) := aaK (enc := fun p : Nat × Nat => (dig p.1, dig p.2, ())) (a, b) ⟨h1, h2⟩ (fun b hb => aAk hb)
theorem aAA {a b : Nat} (h1 : (dig a).length ≤ 1000000000000) (h : b ≤ a) : aa9 (dig a, dig b, ()) = some (dig (a - b), ()) := al9 (adY a) (adY b) h1 (abZ h) (by rw [aiN, aiN]; omega) (by rw [aiN, aiN]; omega)
theorem axV {a b : Int} (h1 : Bd 7 a.natAbs) (h2 : Bd 7 b.natAbs) : ahH (pl a, pl b, ()) = some (pl (a + b), ()) := aaK (enc := fun p : Int × Int => (pl p.1, pl p.2, ())) (a, b) ⟨h1, h2⟩ (fun b hb => aoW hb)
theorem aFa (x x' : PlT) (y) (h : ahH (x, x', ()) = some y) : (avD x x').toO = some y := by
 obtain ⟨⟨a, b⟩, hp, hx, rfl⟩ := aaE h
 obtain ⟨rfl, hx2⟩ := Prod.mk.inj hx; obtain ⟨rfl, -⟩ := Prod.mk.inj hx2; dsimp only
 obtain ⟨l1, l2⟩ := hp
 simp only at l1 l2
 have d1 := ar8 l1 zc
 have d2 := ar8 l2 zc
 have d3 := ar8 (aaY l1 l2) zc
 unfold avD
 dsimp only
 by_cases hs : (decide (a < 0) == decide (b < 0)) = true
 ·refine uT hs ?_
  have hs' : (a < 0 ↔ b < 0) := by simpa using hs
  refine uC _ (aO0 d1 d2) ?_
  refine uC (pl (a + b), ()) (agY d3 zc (Or.inr (decide_eq_decide.2 zc))) rfl
 ·have hs' : ¬ (a < 0 ↔ b < 0) := by simpa using hs
  refine uF (by simpa using hs) ?_
  refine uC _ (asK _ _ (adY _) (adY _) d1 d2) ?_
  obtain ⟨o1, o2⟩ := aGY a.natAbs b.natAbs
  by_cases hc : a.natAbs < b.natAbs
  ·refine uF (zn (by have := o1.2 hc; dsimp only; omega)) ?_
   refine uC _ (aAA d2 zc) ?_
   have d4 : (dig (b.natAbs - a.natAbs)).length ≤ 1000000000000 := zz (abZ (Nat.sub_le _ _)) d2
   refine uC (pl (a + b), ()) (agY d4 zc (Or.inr (decide_eq_decide.2 zc))) rfl
  ·refine uT (zo (by
    rcases zS (aPc (dig a.natAbs) (dig b.natAbs)) 0 with h | h
    ·exact absurd (o1.1 h) hc
    ·exact h)) ?_
   refine uC _ (aAA d1 zc) ?_
   have d4 : (dig (a.natAbs - b.natAbs)).length ≤ 1000000000000 := zz (abZ (Nat.sub_le _ _)) d1
   refine uC (pl (a + b), ()) (agY d4 zc ?_) rfl
   by_cases h0 : a + b = 0
   ·exact Or.inl h0
   ·exact Or.inr (decide_eq_decide.2 zc)
theorem aJJ {a b : Int} (h1 : Bd 7 a.natAbs) (h2 : Bd 7 b.natAbs) : amX (pl a, pl b, ()) = some (pl (a - b), ()) := aaK (enc := fun p : Int × Int => (pl p.1, pl p.2, ())) (a, b) ⟨h1, h2⟩ (fun b hb => aoW hb)
theorem aCV (x x' : PlT) (y) (h : amX (x, x', ()) = some y) : (azL x x').toO = some y := by
 obtain ⟨⟨a, b⟩, hp, hx, rfl⟩ := aaE h
 obtain ⟨rfl, hx2⟩ := Prod.mk.inj hx; obtain ⟨rfl, -⟩ := Prod.mk.inj hx2; dsimp only
 obtain ⟨l1, l2⟩ := hp
 refine uC _ (axU (aaI l2 zc)) (uC _ (axV l1 (aaV l2)) ?_)
 rw [Int.sub_eq_add_neg]; rfl
theorem aRo {a b : Int} : a * b = 0 ∨ (!(decide (a < 0) == decide (b < 0))) = decide (a * b < 0) := by
 by_cases hz : a * b = 0
 ·exact Or.inl hz
 ·right
  have z1 : a ≠ 0 := fun h => hz (by rw [h]; simp)
  have z2 : b ≠ 0 := fun h => hz (by rw [h]; simp)
  rcases zS a 0 with c1 | c1 <;> rcases zS b 0 with c2 | c2
  ·have := xY c1 c2
   rw [zo c1, zo c2, zn zc]; rfl
  ·have := xW c1 (show 0 < b by omega)
   rw [zo c1, zn zc, zo zc]; rfl
  ·have := xX (show 0 < a by omega) c2
   rw [zn zc, zo c2, zo zc]; rfl
  ·have := vh (show 0 < a by omega) (show 0 < b by omega)
   rw [zn zc, zn zc, zn zc]; rfl
theorem aAz {a b : Nat} (h1 : (dig a).length ≤ 200000000000) (h2 : (dig b).length ≤ 200000000000) (h3 : b ≠ 0) : ajD (dig a, dig b, ()) = some (dig (a / b), dig (a % b), ()) := aaK (enc := fun p : Nat × Nat => (dig p.1, dig p.2, ())) (a, b) ⟨h1, h2, h3⟩ (fun b hb => aAk hb)
theorem atN {a b : Int} (h1 : Bd 8 a.natAbs) (h2 : Bd 8 b.natAbs) : agI (pl a, pl b, ()) = some (pl (Nat.gcd a.natAbs b.natAbs), ()) := aaK (enc := fun p : Int × Int => (pl p.1, pl p.2, ())) (a, b) ⟨h1, h2⟩ (fun b hb => aoW hb)
theorem ayI (x x' : PlT) (y) (h : agI (x, x', ()) = some y) : (asW x x').toO = some y := by
 obtain ⟨⟨a, b⟩, hp, hx, rfl⟩ := aaE h
 obtain ⟨rfl, hx2⟩ := Prod.mk.inj hx; obtain ⟨rfl, -⟩ := Prod.mk.inj hx2; dsimp only
 obtain ⟨l1, l2⟩ := hp
 dsimp only at l1 l2
 have d1 := aEe l1 zc
 have d2 := aEe l2 zc
 refine uO (dig b.natAbs, dig a.natAbs, ()) rfl ?_
 have hres : (pl ((Nat.gcd a.natAbs b.natAbs : Nat) : Int), ()) = ((false, dig (Nat.gcd a.natAbs b.natAbs), ()), ()) := by
  unfold pl
  rw [zn zc, zQ]
 rw [hres]
 refine aaL (fun i : List Int × List Int × Unit => ∃ p q : Nat, i = (dig q, dig p, ()) ∧ (dig p).length ≤ 200000000000 ∧ (dig q).length ≤ 200000000000 ∧ Nat.gcd p q = Nat.gcd a.natAbs b.natAbs) (fun i => (V 10000 i.1).toNat) (fun _ => ((false, dig (Nat.gcd a.natAbs b.natAbs), ()), ())) ?_ _ ⟨a.natAbs, b.natAbs, rfl, d1, d2, rfl⟩
 rintro i ⟨p, q, rfl, lp, lq, hg⟩
 unfold aoV
 dsimp only
 by_cases hq : q = 0
 ·right
  subst hq
  refine uF (by rw [dig_zero]; rfl) ?_
  rw [← hg, Nat.gcd_zero_right]; rfl
 ·left
  have hql : 1 ≤ (dig q).length := by
   rcases zF (dig q).length with h5 | h5
   ·exact absurd (dig_nil_iff.1 (zW.1 h5)) hq
   ·exact h5
  refine ⟨(dig (p % q), dig q, ()), ?_, ⟨q, p % q, rfl, lq, ?_, ?_⟩, ?_, ze⟩
  ·refine uT sd (uC _ (aAz lp lq hq) ?_)
   repeat refine za ?_
   rfl
  ·exact zz (abZ (vC (yU p (show 0 < q by omega)))) lq
  ·rw [← hg, xy p q, Nat.gcd_rec q p, xy]
  ·simp only [aiN, zp]
   exact yU p zc
theorem am3 {a b : Int} (h1 : Bd 6 a.natAbs) (h2 : Bd 6 b.natAbs) (h3 : b ≠ 0) : afR (pl a, pl b, ()) = some (pl (a / b), pl (a % b), ()) := aaK (enc := fun p : Int × Int => (pl p.1, pl p.2, ())) (a, b) ⟨h1, h2, h3⟩ (fun b hb => aoW hb)
theorem aRv {a b : Int} (hb : b ≠ 0) : ∃ q r : Int, q.natAbs = a.natAbs / b.natAbs ∧ r.natAbs = a.natAbs % b.natAbs ∧ (q = 0 ∨ (!(decide (a < 0) == decide (b < 0))) = decide (q < 0)) ∧ (r = 0 ∨ decide (a < 0) = decide (r < 0)) ∧ (r < 0 → a / b = (if b < 0 then q + 1 else q - 1) ∧ a % b = r + b.natAbs) ∧ (¬ r < 0 → a / b = q ∧ a % b = r) := by
 refine ⟨Int.tdiv a b, Int.tmod a b, Int.natAbs_tdiv a b, vG a b, ?_, ?_, ?_, ?_⟩
 ·by_cases hz : Int.tdiv a b = 0
  ·exact Or.inl hz
  ·right
   rcases zS a 0 with c1 | c1 <;> rcases zS b 0 with c2 | c2
   ·have : 0 ≤ Int.tdiv a b := by
     rw [← Int.neg_tdiv_neg]; exact xO zc zc
    rw [zo c1, zo c2, zn zc]; rfl
   ·have : Int.tdiv a b ≤ 0 := by
     have := xO (a := -a) (b := b) zc c2
     rw [Int.neg_tdiv] at this; omega
    rw [zo c1, zn zc, zo zc]; rfl
   ·have : Int.tdiv a b ≤ 0 := by
     have := xO (a := a) (b := -b) c1 zc
     rw [Int.tdiv_neg] at this; omega
    rw [zn zc, zo c2, zo zc]; rfl
   ·have := xO c1 c2
    rw [zn zc, zn zc, zn zc]; rfl
 ·by_cases hz : Int.tmod a b = 0
  ·exact Or.inl hz
  ·right
   refine decide_eq_decide.2 ?_
   rcases zS a 0 with c1 | c1
   ·have : Int.tmod a b ≤ 0 := by
     have := xN (a := -a) b zc
     rw [Int.neg_tmod] at this; omega
    omega
   ·have := xN (a := a) b c1
    omega
 ·intro hr
  have ha : a < 0 := by
   rcases zS a 0 with c | c
   ·exact c
   ·have := xN (a := a) b c; omega
  have h1 := wB a b
  have h2 : (Int.tmod a b).natAbs < b.natAbs := by rw [vG]; exact yU _ zc
  generalize Int.tdiv a b = q at *
  generalize Int.tmod a b = r at *
  have key : ∀ q' r' : Int, r' + b * q' = a → 0 ≤ r' → r' < b.natAbs → a / b = q' ∧ a % b = r' := by
   intro q' r' e e1 e2
   have hr' : r' / b = 0 := by
    rcases zS b 0 with c | c
    ·have : r' / (-(-b)) = -(r' / -b) := Int.ediv_neg _ _
     rw [Int.neg_neg] at this
     rw [this, xm e1 zc]; rfl
    ·exact xm e1 zc
   have d1 : a / b = q' := by rw [← e, vu _ _ hb, hr', wZ]
   refine ⟨d1, ?_⟩
   have := yi a b
   rw [d1] at this
   omega
  rcases zS b 0 with c | c
  ·rw [if_pos c]
   exact key _ _ (by rw [xZ]; omega) zc zc
  ·rw [if_neg zc]
   exact key _ _ (by rw [Int.mul_sub]; omega) zc zc
 ·intro hr
  have h1 := wB a b
  have h2 : (Int.tmod a b).natAbs < b.natAbs := by rw [vG]; exact yU _ zc
  generalize Int.tdiv a b = q at *
  generalize Int.tmod a b = r at *
  have hr' : r / b = 0 := by
   rcases zS b 0 with c | c
   ·have : r / (-(-b)) = -(r / -b) := Int.ediv_neg _ _
    rw [Int.neg_neg] at this
    rw [this, xm zc zc]; rfl
   ·exact xm zc zc
  have d1 : a / b = q := by rw [← h1, vu _ _ hb, hr', wZ]
  refine ⟨d1, ?_⟩
  have := yi a b
  rw [d1] at this
  omega
theorem aCU (x x' : PlT) (y) (h : afR (x, x', ()) = some y) : (aq7 x x').toO = some y := by
 obtain ⟨⟨a, b⟩, hp, hx, rfl⟩ := aaE h
 obtain ⟨rfl, hx2⟩ := Prod.mk.inj hx; obtain ⟨rfl, -⟩ := Prod.mk.inj hx2; dsimp only
 obtain ⟨l1, l2, l3⟩ := hp
 dsimp only at l1 l2 l3
 have d1 := aEe l1 zc
 have d2 := aEe l2 zc
 obtain ⟨q, r, hq, hr, sq, sr, hneg, hpos⟩ := aRv (a := a) l3
 have bq : Bd 6 q.natAbs := by rw [hq]; exact aaR _ l1
 have br : Bd 6 r.natAbs := by rw [hr]; exact aa1 _ l1
 have i1 : abD 1 := ⟨by omega, by omega⟩
 have b1 : Bd 7 (1 : Int).natAbs := aaI (aaG zf) zc
 unfold aq7
 dsimp only
 refine uC _ (aAz d1 d2 zc) ?_
 refine uC (pl q, ()) (agY (by rw [← hq]; exact ar8 bq zc) hq.symm sq) ?_
 refine uC (pl r, ()) (agY (by rw [← hr]; exact ar8 br zc) hr.symm sr) ?_
 dsimp only
 by_cases c : r < 0
 ·obtain ⟨e1, e2⟩ := hneg c
  refine uT (zo c) ?_
  have hpb : ahH (pl r, (false, dig b.natAbs, ()), ()) = some (pl (r + b.natAbs), ()) := by
   have := axV (a := r) (b := (b.natAbs : Int)) (aaI br zc) (aaI l2 zc)
   unfold pl at this ⊢
   rwa [zn (show ¬ ((b.natAbs : Int) < 0) by omega), zQ] at this
  refine uC _ hpb ?_
  rw [e1, e2]
  by_cases c2 : b < 0
  ·rw [if_pos c2]
   exact uT (zo c2) (uC _ (aiA i1) (uC _ (axV (aaI bq zc) b1) rfl))
  ·rw [if_neg c2]
   exact uF (zn c2) (uC _ (aiA i1) (uC _ (aJJ (aaI bq zc) b1) rfl))
 ·obtain ⟨e1, e2⟩ := hpos c
  rw [e1, e2]
  exact uF (zn c) rfl
end Go.Vs
