/-
  Trees of what the functions compute, and their laws. Own work; no condition.
-/
import Derived.Test.YtakjojajnblpoaaGreatDoorClX1
import Derived.Test.YtakjojajnblpoaaGreatDoorProg
set_option linter.unusedVariables false
set_option linter.unusedSimpArgs false
set_option maxRecDepth 100000
namespace Go.Vs
open Go Go.Vg Go.Proofs
noncomputable section
def aLC : LTab := []
def apE (m : List Int) : TT uG :=
 .ok ((len m == 0, ()))
def aLD : LTab := [(207, 12, 1025, ⟨0, (List Int) × Unit, .dat (.s 0) uX <| .nil, [2], [], 0⟩)]
def azZ (m : List Int) (i : (List Int) × Unit) : TT (tT ⊕ uv) :=
 .ite (decide (len i.1 > 0))
 (.need (inb (w64 (len i.1 - 1)) (len i.1)) <| .ite (gi i.1 (w64 (len i.1 - 1)) 0 == 0)
 (.need (inc (w64 (len i.1 - 1)) (len i.1)) <| .tt <| .lt (List.take (Int.toNat (w64 (len i.1 - 1))) i.1 : List Int) fun z => .vQ (vR z <| True ∧ True) <| .tr <| .ok (.inl ((z, ()))))
 (.ok (.inr ((i.1, ())))))
 (.ok (.inr ((i.1, ()))))
def avX (m : List Int) : TT uv :=
 .loop 0 (.tt <| .vQ (vR m <| True ∧ True) <| .tr <| .ok ((m, ()))) (azZ m)
def aIF : LTab := [(175, 58, 6144, ⟨0, (Int) × (Int) × Unit, .dat (.s 4) ui <| .dat (.s 3) uI <| .nil, [2, 0], [], 0⟩)]
def av0 (m : List Int) (i : (Int) × (Int) × Unit) : TT (uE ⊕ uK) :=
 .ite (decide (i.1 ≥ 0))
 (.need (inb i.1 (len m)) <| .tt <| .lt (w64 (i.1 - 1) : Int) fun z1 => .lt (abP (abP (i.2.1 * 1000000000) + abP (gi m i.1 0)) : Int) fun z2 => .vQ (vS z2 z1 (0 : Int) m) <| .tr <| .ok (.inl ((z1, z2, ()))))
 (.ok (.inr ((i.2.1, ()))))
def az0 (m : List Int) : TT uK :=
 .loop 0 (.tt <| .lt (w64 (len m - 1) : Int) fun z => .vQ (vS (0 : Int) z (0 : Int) m) <| .tr <| .ok ((z, 0, ()))) (av0 m)
def aDz : LTab := [(141, 58, 10240, ⟨0, (Int) × Unit, .dat (.s 5) ui <| .nil, [0, 1], [], 0⟩)]
def apI (m : List Int) (o : List Int) (i : (Int) × Unit) : TT (uS ⊕ uK) :=
 .ite (decide (i.1 ≥ 0))
 (.need (inb i.1 (len m)) <| .need (inb i.1 (len o)) <| .ite (gi m i.1 0 != gi o i.1 0)
 (.need (inb i.1 (len m)) <| .need (inb i.1 (len o)) <| .tt <| .tt <| .tt <| .tt <| .tt <| .tt <| .ite (gi m i.1 0 != gi m i.1 0)
 (.ite (gi o i.1 0 != gi o i.1 0)
 (.ok (.inr ((0, ()))))
 (.ok (.inr ((-1, ())))))
 (.ite (gi o i.1 0 != gi o i.1 0)
 (.ok (.inr ((1, ()))))
 (.ite (decide (gi m i.1 0 < gi o i.1 0))
 (.ok (.inr ((-1, ()))))
 (.ite (decide (gi m i.1 0 > gi o i.1 0))
 (.ok (.inr ((1, ()))))
 (.ok (.inr ((0, ()))))))))
 (.tt <| .lt (w64 (i.1 - 1) : Int) fun z1 => .vQ (vT z1 m o) <| .tr <| .ok (.inl ((z1, ())))))
 (.ok (.inr ((0, ()))))
def ah3 (m : List Int) (o : List Int) : TT uK :=
 .ite (len m != len o)
 (.tt <| .tt <| .tt <| .tt <| .tt <| .tt <| .ite (len m != len m)
 (.ite (len o != len o)
 (.ok ((0, ())))
 (.ok ((-1, ()))))
 (.ite (len o != len o)
 (.ok ((1, ())))
 (.ite (decide (len m < len o))
 (.ok ((-1, ())))
 (.ite (decide (len m > len o))
 (.ok ((1, ())))
 (.ok ((0, ())))))))
 (.loop 0 (.tt <| .lt (w64 (len m - 1) : Int) fun z => .vQ (vT z m o) <| .tr <| .ok ((z, ()))) (apI m o))
def aLE : LTab := [(181, 3, 1025, ⟨0, (List Int) × (List Int) × Unit, .dat (.s 0) uX <| .dat (.s 1) uX <| .nil, [4], [], 0⟩), (181, 250, 10241, ⟨1, (Int) × (Int) × (List Int) × Unit, .dat (.s 22) ui <| .dat (.s 6) ul <| .app (.s 5) 10 189 ul <| .nil, [21, 20, 1, 4], [], 1⟩)]
def az1 (m : List Int) (o : List Int) (j : List Int × List Int × Unit) (i : (Int) × (Int) × (List Int) × Unit) : TT (uJ ⊕ uv) :=
 .ite (decide (i.1 < len j.1))
 (.need (inb i.1 (len j.1)) <| .ite (decide (i.1 < len j.2.1))
 (.need (inb i.1 (len j.2.1)) <| .ite (decide (adV (adV (gi j.1 i.1 0 + i.2.1) + gi j.2.1 i.1 0) ≥ 1000000000))
 (.need ((List.length i.2.2.1 + 1) * 4 ≤ 140737488355328) <| .tt <| .lt (w64 (i.1 + 1) : Int) fun z1 => .lt (List.take (List.length i.2.2.1) i.2.2.1 ++ [adV (adV (adV (gi j.1 i.1 0 + i.2.1) + gi j.2.1 i.1 0) - 1000000000)] : List Int) fun z2 => .need ((((10) = (10)) ∧ (((0) = (0)) ∧ ((List.length i.2.2.1 + 1 = List.length z2) ∧ ((true) = (true))))) ∧ ((1 : Int) = 1) ∧ ((z1 : Int) = z1) ∧ ((len j.1 : Int) = len j.1) ∧ ((j.1 : List Int) = j.1) ∧ ((j.2.1 : List Int) = j.2.1) ∧ True ∧ True) <| .vQ (vP (vU 189 z2) True) <| .ok (.inl ((z1, 1, z2, ()))))
 (.need ((List.length i.2.2.1 + 1) * 4 ≤ 140737488355328) <| .tt <| .lt (w64 (i.1 + 1) : Int) fun z3 => .lt (List.take (List.length i.2.2.1) i.2.2.1 ++ [adV (adV (gi j.1 i.1 0 + i.2.1) + gi j.2.1 i.1 0)] : List Int) fun z4 => .need ((((10) = (10)) ∧ (((0) = (0)) ∧ ((List.length i.2.2.1 + 1 = List.length z4) ∧ ((true) = (true))))) ∧ ((0 : Int) = 0) ∧ ((z3 : Int) = z3) ∧ ((len j.1 : Int) = len j.1) ∧ ((j.1 : List Int) = j.1) ∧ ((j.2.1 : List Int) = j.2.1) ∧ True ∧ True) <| .vQ (vP (vU 189 z4) True) <| .ok (.inl ((z3, 0, z4, ())))))
 (.ite (decide (adV (gi j.1 i.1 0 + i.2.1) ≥ 1000000000))
 (.need ((List.length i.2.2.1 + 1) * 4 ≤ 140737488355328) <| .tt <| .lt (w64 (i.1 + 1) : Int) fun z5 => .lt (List.take (List.length i.2.2.1) i.2.2.1 ++ [adV (adV (gi j.1 i.1 0 + i.2.1) - 1000000000)] : List Int) fun z6 => .need ((((10) = (10)) ∧ (((0) = (0)) ∧ ((List.length i.2.2.1 + 1 = List.length z6) ∧ ((true) = (true))))) ∧ ((1 : Int) = 1) ∧ ((z5 : Int) = z5) ∧ ((len j.1 : Int) = len j.1) ∧ ((j.1 : List Int) = j.1) ∧ ((j.2.1 : List Int) = j.2.1) ∧ True ∧ True) <| .vQ (vP (vU 189 z6) True) <| .ok (.inl ((z5, 1, z6, ()))))
 (.need ((List.length i.2.2.1 + 1) * 4 ≤ 140737488355328) <| .tt <| .lt (w64 (i.1 + 1) : Int) fun z7 => .lt (List.take (List.length i.2.2.1) i.2.2.1 ++ [adV (gi j.1 i.1 0 + i.2.1)] : List Int) fun z8 => .need ((((10) = (10)) ∧ (((0) = (0)) ∧ ((List.length i.2.2.1 + 1 = List.length z8) ∧ ((true) = (true))))) ∧ ((0 : Int) = 0) ∧ ((z7 : Int) = z7) ∧ ((len j.1 : Int) = len j.1) ∧ ((j.1 : List Int) = j.1) ∧ ((j.2.1 : List Int) = j.2.1) ∧ True ∧ True) <| .vQ (vP (vU 189 z8) True) <| .ok (.inl ((z7, 0, z8, ()))))))
 (.ite (decide (i.2.1 > 0))
 (.need ((List.length i.2.2.1 + 1) * 4 ≤ 140737488355328) <| .ok (.inr ((List.take (List.length i.2.2.1 + 1) (List.take (List.length i.2.2.1) i.2.2.1 ++ [i.2.1]), ()))))
 (.ok (.inr ((List.take (List.length i.2.2.1) i.2.2.1, ())))))
def arP (m : List Int) (o : List Int) (j : (List Int) × (List Int) × Unit) : TT uv :=
 .need (asT Int 0 ≤ 0 ∧ 0 ≤ w64 (len j.1 + 1) ∧ w64 (len j.1 + 1) * (↑4 : Int) ≤ 140737488355328) <| .loop 1 (.tt <| .lt (List.replicate (Int.toNat 0) 0 : List Int) fun z => .vQ ((vV 10 0 0 true) ∧ (vW (0 : Int) (0 : Int) (len j.1) j.1 j.2.1 <| True ∧ True)) <| .vQ (vP (vU 189 z) True) <| .ok ((0, 0, z, ()))) (az1 m o j)
def apF (m : List Int) (o : List Int) : TT uv :=
 .join 0 (ι := (List Int) × (List Int) × Unit) (.ite (decide (len m < len o))
 (.tt <| .vQ (vX m o <| True ∧ True) <| .tr <| .ok (.inl ((o, m, ()))))
 (.tt <| .vQ (vX o m <| True ∧ True) <| .tr <| .ok (.inl ((m, o, ()))))) (arP m o)
def aIH : LTab := [(219, 122, 9217, ⟨0, (Int) × (Int) × (List Int) × Unit, .dat (.s 15) ui <| .dat (.s 6) ul <| .row 3 ul <| .nil, [14, 13, 5, 4, 1], [3], 0⟩)]
def av2 (m : List Int) (o : List Int) (i : (Int) × (Int) × (List Int) × Unit) : TT (uJ ⊕ uv) :=
 .ite (decide (i.1 < len m))
 (.need (inb i.1 (len m)) <| .ite (decide (i.1 < len o))
 (.need (inb i.1 (len o)) <| .ite (decide (gi m i.1 0 < adV (i.2.1 + gi o i.1 0)))
 (.need (inb i.1 (↑(Int.toNat (len m)) : Int)) <| .tt <| .lt (w64 (i.1 + 1) : Int) fun z1 => .lt (List.set i.2.2.1 (0 + Int.toNat i.1) (adV (adV (gi m i.1 0 + 1000000000) - adV (i.2.1 + gi o i.1 0))) : List Int) fun z2 => .vQ (vY (1 : Int) z1 (len m) m <| (vV 3 0 (Int.toNat (len m)) true) ∧ True ∧ vZ o) <| .vQ (vP (vU 189 z2) True) <| .ok (.inl ((z1, 1, z2, ()))))
 (.need (inb i.1 (↑(Int.toNat (len m)) : Int)) <| .tt <| .lt (w64 (i.1 + 1) : Int) fun z3 => .lt (List.set i.2.2.1 (0 + Int.toNat i.1) (adV (gi m i.1 0 - adV (i.2.1 + gi o i.1 0))) : List Int) fun z4 => .vQ (vY (0 : Int) z3 (len m) m <| (vV 3 0 (Int.toNat (len m)) true) ∧ True ∧ vZ o) <| .vQ (vP (vU 189 z4) True) <| .ok (.inl ((z3, 0, z4, ())))))
 (.ite (decide (gi m i.1 0 < i.2.1))
 (.need (inb i.1 (↑(Int.toNat (len m)) : Int)) <| .tt <| .lt (w64 (i.1 + 1) : Int) fun z5 => .lt (List.set i.2.2.1 (0 + Int.toNat i.1) (adV (adV (gi m i.1 0 + 1000000000) - i.2.1)) : List Int) fun z6 => .vQ (vY (1 : Int) z5 (len m) m <| (vV 3 0 (Int.toNat (len m)) true) ∧ True ∧ vZ o) <| .vQ (vP (vU 189 z6) True) <| .ok (.inl ((z5, 1, z6, ()))))
 (.need (inb i.1 (↑(Int.toNat (len m)) : Int)) <| .tt <| .lt (w64 (i.1 + 1) : Int) fun z7 => .lt (List.set i.2.2.1 (0 + Int.toNat i.1) (adV (gi m i.1 0 - i.2.1)) : List Int) fun z8 => .vQ (vY (0 : Int) z7 (len m) m <| (vV 3 0 (Int.toNat (len m)) true) ∧ True ∧ vZ o) <| .vQ (vP (vU 189 z8) True) <| .ok (.inl ((z7, 0, z8, ()))))))
 (.call (acE (List.take (Int.toNat (len m)) i.2.2.1, ())) Dd0 fun y =>
 .ok (.inr ((y.1, ()))))
def amM (m : List Int) (o : List Int) : TT uv :=
 .need (0 ≤ len m ∧ len m ≤ len m ∧ len m * (↑4 : Int) ≤ 140737488355328) <| .loop 0 (.tt <| .lt (List.replicate (Int.toNat (len m)) 0 : List Int) fun z => .vQ (vY (0 : Int) (0 : Int) (len m) m <| (vV 3 0 (Int.toNat (len m)) true) ∧ True ∧ vZ o) <| .vQ (vP (vU 189 z) True) <| .ok ((0, 0, z, ()))) (av2 m o)
def aIE : LTab := [(180, 58, 11265, ⟨0, (Int) × (List Int) × Unit, .dat (.s 19) ui <| .row 6 ul <| .nil, [18, 17, 5, 4, 1], [6], 0⟩), (180, 59802, 21505, ⟨1, (Int) × (Int) × (List Int) × Unit, .dat (.s 26) ui <| .dat (.s 8) uI <| .row 6 ul <| .nil, [25, 24, 7, 6, 23, 22, 21, 20, 19, 18, 17, 5, 4, 1], [6], 0⟩)]
def an5 (m : List Int) (o : List Int) (i : Int × List Int × Unit) (i1 : (Int) × (Int) × (List Int) × Unit) : TT (uJ ⊕ tg) :=
 .ite (decide (i1.1 < len o))
 (.need (inb i1.1 (len o)) <| .need (inb (w64 (i.1 + i1.1)) (↑(Int.toNat (w64 (len m + len o))) : Int)) <| .triv (asT Int 1000000000 ≠ 0) zf <| .need (inb (w64 (i.1 + i1.1)) (↑(Int.toNat (w64 (len m + len o))) : Int)) <| .triv (asT Int 1000000000 ≠ 0) zf <| .tt <| .lt (w64 (i1.1 + 1) : Int) fun z2 => .lt (abP (Int.tdiv (abP (i1.2.1 + abP (abP (List.getD i1.2.2.1 (0 + Int.toNat (w64 (i.1 + i1.1))) 0) + abP (abP (gi m i.1 0) * abP (gi o i1.1 0))))) 1000000000) : Int) fun z3 => .lt (List.set i1.2.2.1 (0 + Int.toNat (w64 (i.1 + i1.1))) (adV (Int.tmod (abP (i1.2.1 + abP (abP (List.getD i1.2.2.1 (0 + Int.toNat (w64 (i.1 + i1.1))) 0) + abP (abP (gi m i.1 0) * abP (gi o i1.1 0))))) 1000000000)) : List Int) fun z4 => .vQ (ua z3 z2 (len o) o (gi m i.1 0) i.1 (gi m i.1 0) (gi m i.1 0) <| vW i.1 (decide (i.1 < len m)) i.1 (len m) m <| (vV 6 0 (Int.toNat (w64 (len m + len o))) true) ∧ True ∧ vZ o) <| .vQ (vP (vU 189 z4) True) <| .ok (.inl ((z2, z3, z4, ()))))
 (.need (inb (w64 (i.1 + len o)) (↑(Int.toNat (w64 (len m + len o))) : Int)) <| .tt <| .lt (w64 (i.1 + 1) : Int) fun z5 => .lt (List.set i1.2.2.1 (0 + Int.toNat (w64 (i.1 + len o))) (adV i1.2.1) : List Int) fun z6 => .vQ (ub z5 (len m) m <| (vV 6 0 (Int.toNat (w64 (len m + len o))) true) ∧ True ∧ vZ o) <| .vQ (vP (vU 189 z6) True) <| .ok (.inr (.inl ((z5, z6, ())))))
def avZ (m : List Int) (o : List Int) (i : (Int) × (List Int) × Unit) : TT tg :=
 .ite (decide (i.1 < len m))
 (.need (inb i.1 (len m)) <| .loop 1 (.tt <| .lt (i.2.1 : List Int) fun z1 => .vQ (ua (0 : Int) (0 : Int) (len o) o (gi m i.1 0) i.1 (gi m i.1 0) (gi m i.1 0) <| vW i.1 (decide (i.1 < len m)) i.1 (len m) m <| (vV 6 0 (Int.toNat (w64 (len m + len o))) true) ∧ True ∧ vZ o) <| .vQ (vP (vU 189 z1) True) <| .ok ((0, 0, z1, ()))) (an5 m o i))
 (.call (acE (List.take (Int.toNat (w64 (len m + len o))) i.2.1, ())) Dd0 fun y =>
 .ok (.inr ((y.1, ()))))
def amK (m : List Int) (o : List Int) : TT uv :=
 .need (0 ≤ w64 (len m + len o) ∧ w64 (len m + len o) ≤ w64 (len m + len o) ∧ w64 (len m + len o) * (↑4 : Int) ≤ 140737488355328) <| .loop 0 (.tt <| .lt (List.replicate (Int.toNat (w64 (len m + len o))) 0 : List Int) fun z => .vQ (ub (0 : Int) (len m) m <| (vV 6 0 (Int.toNat (w64 (len m + len o))) true) ∧ True ∧ vZ o) <| .vQ (vP (vU 189 z) True) <| .ok ((0, z, ()))) (avZ m o)
def aIG : LTab := [(208, 122, 11265, ⟨0, (Int) × (Int) × (List Int) × Unit, .dat (.s 8) ui <| .dat (.s 7) uI <| .row 4 ul <| .nil, [6, 5, 4, 0, 1], [4], 0⟩)]
def an6 (m : List Int) (d : Int) (i : (Int) × (Int) × (List Int) × Unit) : TT (uJ ⊕ tK) :=
 .ite (decide (i.1 ≥ 0))
 (.need (inb i.1 (len m)) <| .need (abP d ≠ 0) <| .need (inb i.1 (↑(Int.toNat (len m)) : Int)) <| .need (abP d ≠ 0) <| .tt <| .lt (w64 (i.1 - 1) : Int) fun z2 => .lt (Int.tmod (abP (abP (i.2.1 * 1000000000) + abP (gi m i.1 0))) (abP d) : Int) fun z3 => .lt (List.set i.2.2.1 (0 + Int.toNat i.1) (adV (abP (Int.tdiv (abP (abP (i.2.1 * 1000000000) + abP (gi m i.1 0))) (abP d)))) : List Int) fun z4 => .vQ (vX z3 z2 <| (vV 4 0 (Int.toNat (len m)) true) ∧ (vR (0 : Int) <| True ∧ uc m d)) <| .vQ (vP (vU 189 z4) True) <| .ok (.inl ((z2, z3, z4, ()))))
 (.call (acE (List.take (Int.toNat (len m)) i.2.2.1, ())) Dd0 fun y =>
 .ok (.inr ((y.1, adV i.2.1, ()))))
def amL (m : List Int) (d : Int) : TT tK :=
 .need (0 ≤ len m ∧ len m ≤ len m ∧ len m * (↑4 : Int) ≤ 140737488355328) <| .loop 0 (.tt <| .lt (w64 (len m - 1) : Int) fun z => .lt (List.replicate (Int.toNat (len m)) 0 : List Int) fun z1 => .vQ (vX (0 : Int) z <| (vV 4 0 (Int.toNat (len m)) true) ∧ (vR (0 : Int) <| True ∧ uc m d)) <| .vQ (vP (vU 189 z1) True) <| .ok ((z, 0, z1, ()))) (an6 m d)
def aBr : LTab := [(176, 28, 2050, ⟨0, Bool × (List Int) × (Int) × Unit, .appN (.s 3) 2 189 ul <| .dat (.s 0) uI <| .nil, [2], [], 1⟩)]
def aeD (v : Int) (i : Bool × (List Int) × (Int) × Unit) : TT ((Bool × (List Int) × (Int) × Unit) ⊕ uv) :=
 .ite (i.1)
 (.ite (decide (i.2.2.1 > 0))
 (.triv (asT Int 1000000000 ≠ 0) zf <| .need (1 * 4 ≤ 140737488355328) <| .triv (asT Int 1000000000 ≠ 0) zf <| .tt <| .lt ([adV (Int.tmod i.2.2.1 1000000000)] : List Int) fun z => .lt (abP (Int.tdiv i.2.2.1 1000000000) : Int) fun z1 => .vQ (vR z1 <| (vV 2 0 1 true) ∧ True ∧ True) <| .vQ (vP (vU 189 z) True) <| .ok (.inl ((false, z, z1, ()))))
 (.ok (.inr (([], ())))))
 (.ite (decide (i.2.2.1 > 0))
 (.triv (asT Int 1000000000 ≠ 0) zf <| .need ((List.length i.2.1 + 1) * 4 ≤ 140737488355328) <| .triv (asT Int 1000000000 ≠ 0) zf <| .tt <| .lt (List.take (List.length i.2.1) i.2.1 ++ [adV (Int.tmod i.2.2.1 1000000000)] : List Int) fun z2 => .lt (abP (Int.tdiv i.2.2.1 1000000000) : Int) fun z3 => .need (((z3 : Int) = z3) ∧ (((2) = (2)) ∧ (((0) = (0)) ∧ ((List.length i.2.1 + 1 = List.length z2) ∧ ((true) = (true))))) ∧ True ∧ True) <| .vQ (vP (vU 189 z2) True) <| .ok (.inl ((false, z2, z3, ()))))
 (.ok (.inr ((List.take (List.length i.2.1) i.2.1, ())))))
def aj5 (v : Int) : TT uv :=
 .loop 0 (.tt <| .vQ (vR v <| True ∧ True ∧ True) <| .tr <| .ok ((true, [], v, ()))) (aeD v)
def aIP : LTab := [(174, 218, 5122, ⟨0, (Int) × Bool × (List Int) × Unit, .dat (.s 4) ui <| .appN (.s 3) 5 189 ul <| .nil, [2, 0], [], 1⟩), (174, 55834, 13314, ⟨1, (Int) × (Int) × Unit, .dat (.s 7) ui <| .dat (.s 6) ul <| .nil, [15, 5, 14, 13, 12, 3, 4, 2, 0], [], 0⟩), (174, 55834, 13313, ⟨2, (Int) × (Int) × Unit, .dat (.s 7) ui <| .dat (.s 6) ul <| .nil, [15, 5, 14, 13, 12, 3, 4, 2, 0], [5], 0⟩)]
def aj4 (digits : List UInt8) (i : Int × Bool × List Int × Unit) (i1 : (Int) × (Int) × Unit) : TT (uE ⊕ (uH ⊕ uv)) :=
 .ite (decide (i1.1 < i.1))
 (.need (inb i1.1 (len digits)) <| .tt <| .lt (w64 (i1.1 + 1) : Int) fun z1 => .lt (adV (adV (i1.2.1 * 10) + adV (wu8 ((↑(UInt8.toNat (gi digits i1.1 0)) : Int) - 48))) : Int) fun z2 => .vQ (ud z2 z1 (if 0 > w64 (i.1 - 9) then 0 else w64 (i.1 - 9) : Int) (if 0 > w64 (i.1 - 9) then 0 else w64 (i.1 - 9) : Int) (if 0 > w64 (i.1 - 9) then 0 else w64 (i.1 - 9) : Int) (w64 (i.1 - 9)) i.1 <| True ∧ (vR i.1 <| True ∧ vZ digits)) <| .tr <| .ok (.inl ((z1, z2, ()))))
 (.need (1 * 4 ≤ 140737488355328) <| .ite ((if 0 > w64 (i.1 - 9) then 0 else w64 (i.1 - 9)) == 0)
 (.call (acE ([i1.2.1], ())) Dd0 fun y =>
 .ok (.inr (.inr ((y.1, ())))))
 (.tt <| .lt (w64 (i.1 - 9) : Int) fun z3 => .lt ([i1.2.1] : List Int) fun z4 => .vQ (tW ∧ (vR z3 <| True ∧ vZ digits)) <| .vQ (vP (vU 189 z4) True) <| .ok (.inr (.inl ((z3, false, z4, ()))))))
def aj3 (digits : List UInt8) (i : Int × Bool × List Int × Unit) (i2 : (Int) × (Int) × Unit) : TT (uE ⊕ (uH ⊕ uv)) :=
 .ite (decide (i2.1 < i.1))
 (.need (inb i2.1 (len digits)) <| .tt <| .lt (w64 (i2.1 + 1) : Int) fun z6 => .lt (adV (adV (i2.2.1 * 10) + adV (wu8 ((↑(UInt8.toNat (gi digits i2.1 0)) : Int) - 48))) : Int) fun z7 => .vQ (ud z7 z6 (if 0 > w64 (i.1 - 9) then 0 else w64 (i.1 - 9) : Int) (if 0 > w64 (i.1 - 9) then 0 else w64 (i.1 - 9) : Int) (if 0 > w64 (i.1 - 9) then 0 else w64 (i.1 - 9) : Int) (w64 (i.1 - 9)) i.1 <| (vV 5 0 (List.length i.2.2.1) true) ∧ (vR i.1 <| True ∧ vZ digits)) <| .vQ (vP (vU 189 i.2.2.1) True) <| .ok (.inl ((z6, z7, ()))))
 (.need ((List.length i.2.2.1 + 1) * 4 ≤ 140737488355328) <| .ite ((if 0 > w64 (i.1 - 9) then 0 else w64 (i.1 - 9)) == 0)
 (.call (acE (List.take (List.length i.2.2.1 + 1) (List.take (List.length i.2.2.1) i.2.2.1 ++ [i2.2.1]), ())) Dd0 fun y1 =>
 .ok (.inr (.inr ((y1.1, ())))))
 (.tt <| .lt (w64 (i.1 - 9) : Int) fun z8 => .lt (List.take (List.length i.2.2.1) i.2.2.1 ++ [i2.2.1] : List Int) fun z9 => .need ((((5) = (5)) ∧ (((0) = (0)) ∧ ((List.length i.2.2.1 + 1 = List.length z9) ∧ ((true) = (true))))) ∧ ((z8 : Int) = z8) ∧ True ∧ ((digits) = (digits)) ∧ True) <| .vQ (vP (vU 189 z9) True) <| .ok (.inr (.inl ((z8, false, z9, ()))))))
def an9 (digits : List UInt8) (i : (Int) × Bool × (List Int) × Unit) : TT (uH ⊕ uv) :=
 .ite (i.2.1)
 (.loop 1 (.tt <| .lt (if 0 > w64 (i.1 - 9) then 0 else w64 (i.1 - 9) : Int) fun z => .vQ (ud (0 : Int) z z z z (w64 (i.1 - 9)) i.1 <| True ∧ (vR i.1 <| True ∧ vZ digits)) <| .tr <| .ok ((z, 0, ()))) (aj4 digits i))
 (.loop 2 (.tt <| .lt (if 0 > w64 (i.1 - 9) then 0 else w64 (i.1 - 9) : Int) fun z5 => .vQ (ud (0 : Int) z5 z5 z5 z5 (w64 (i.1 - 9)) i.1 <| (vV 5 0 (List.length i.2.2.1) true) ∧ (vR i.1 <| True ∧ vZ digits)) <| .vQ (vP (vU 189 i.2.2.1) True) <| .ok ((z5, 0, ()))) (aj3 digits i))
def arT (digits : List UInt8) : TT uv :=
 .loop 0 (.tt <| .vQ (True ∧ (vR (len digits) <| True ∧ vZ digits)) <| .tr <| .ok ((len digits, true, [], ()))) (an9 digits)
def aFz : LTab := []
def aj0 (m : List Int) : TT uK :=
 .call (ac6 (m, ())) Dd1 fun y =>
 .ite (y.1)
 (.ok ((1, ())))
 (.need (inb (w64 (len m - 1)) (len m)) <| .call (aAl (w64 (gi m (w64 (len m - 1)) 0), ())) Dd2 fun y1 =>
 .ok ((w64 (w64 (w64 (len m - 1) * 9) + len y1.1), ())))
def aOr : LTab := [(140, 12, 1025, ⟨0, (List Int) × (List Int) × Unit, .dat (.s 0) uX <| .dat (.s 1) uX <| .nil, [], [], 0⟩), (140, 196, 4096, ⟨1, (Bool) × Unit, .dat (.s 19) tQ <| .nil, [1, 0], [], 0⟩), (140, 6292, 10240, ⟨2, (Int) × (Int) × Unit, .dat (.s 6) uI <| .dat (.s 5) uI <| .nil, [23, 22, 21, 20, 19, 1, 0], [], 0⟩)]
def aDx (m : List Int) (o : List Int) (i : List Int × List Int × Unit) (y : Bool × Unit) (j : Bool × Unit) (y1 : Int × Unit) (y2 : Int × Unit) (i1 : (Int) × (Int) × Unit) : TT (uE ⊕ (tu ⊕ uv)) :=
 .ite (decide (i1.1 > 0))
 (.need (i1.1 ≠ 0) <| .tt <| .lt (Int.tmod i1.2.1 i1.1 : Int) fun z1 => .vQ (ua i1.1 z1 y2.1 i.2.1 y1.1 i.1 j.1 i.2.1 <| vZ i.1) <| .tr <| .ok (.inl ((z1, i1.1, ()))))
 (.call (abN (i1.2.1, ())) Dd0 fun y3 =>
 .ok (.inr (.inr ((y3.1, ())))))
def av3 (m : List Int) (o : List Int) (i : List Int × List Int × Unit) (y : Bool × Unit) (j : (Bool) × Unit) : TT (tu ⊕ uv) :=
 .ite (j.1)
 (.call (am1 (i.1, ())) Dd3 fun y1 =>
 .call (am1 (i.2.1, ())) Dd3 fun y2 =>
 .loop 2 (.tt <| .vQ (ua y1.1 y2.1 y2.1 i.2.1 y1.1 i.1 j.1 i.2.1 <| vZ i.1) <| .tr <| .ok ((y2.1, y1.1, ()))) (aDx m o i y j y1 y2))
 (.call (abC (i.1, i.2.1, ())) Dd4 fun y4 =>
 .tt <| .lt (i.2.1 : List Int) fun z2 => .lt (y4.2.1 : List Int) fun z3 => .vQ (uc z3 z2) <| .tr <| .ok (.inl ((z2, z3, ()))))
def aDy (m : List Int) (o : List Int) (i : (List Int) × (List Int) × Unit) : TT (tu ⊕ uv) :=
 .call (ac6 (i.2.1, ())) Dd1 fun y =>
 .ite (!y.1)
 (.join 1 (ι := (Bool) × Unit) (.ite (decide (len i.1 ≤ 2))
 (.tt <| .lt (decide (len i.2.1 ≤ 2) : Bool) fun z => .vQ (vT z i.2.1 i.1) <| .tr <| .ok (.inl ((z, ()))))
 (.tt <| .vQ (vT false i.2.1 i.1) <| .tr <| .ok (.inl ((false, ()))))) (av3 m o i y))
 (.ok (.inr ((i.1, ()))))
def aBk (m : List Int) (o : List Int) : TT uv :=
 .loop 0 (.tt <| .vQ (uc o m) <| .tr <| .ok ((m, o, ()))) (aDy m o)
end
open Go Go.Vg
theorem avW (m : List Int) (y) (h : ac6 (m, ()) = some y) : (apE m).toO = some y := by
 simpa [ac6, apE, TT.toO] using h
theorem avY (m : List Int) (y) (h : acE (m, ()) = some y) : (avX m).toO = some y := by
 unfold acE at h
 split at h
 ·rename_i hp
  obtain ⟨hd, hl⟩ := hp
  simp only at hd hl
  injection h with h
  subst h
  refine uO (m, ()) rfl ?_
  refine aaN (fun i => Dg 1000000000 i.1 ∧ i.1.length ≤ 2000000000000 ∧ V 1000000000 i.1 = V 1000000000 m) (fun i => i.1.length) (fun _ => (mag (V 1000000000 m).toNat, ())) ?_ _ ⟨hd, hl, rfl⟩
  rintro ⟨l, u⟩ ⟨h1, h2, h3⟩
  simp only at h1 h2 h3
  have hfin : Cn l → l = mag (V 1000000000 m).toNat := fun hc => apA h1 hc (by rw [h3]; have := aaT zc hd; omega)
  unfold azZ
  by_cases hz : l = []
  ·subst hz
   right
   repeat refine za ?_
   rw [← hfin atM]; rfl
  ·have hlen : 0 < l.length := ya.2 hz
   have hw : w64 (len l - 1) = ((l.length - 1 : Nat) : Int) := by rw [aaC]; simp (disch := omega) only [aaA]; omega
   have hg : gi l ((l.length - 1 : Nat) : Int) 0 = l[l.length - 1] := aRm rfl zc
   simp only [hw, hg]
   by_cases h0 : l[l.length - 1] = 0
   ·left
    refine ⟨(l.take (l.length - 1), ()), ?_, ⟨ab5 h1 _, ?_, ?_⟩, ?_, trivial⟩
    ·repeat refine za ?_
     rfl
    ·simp; omega
    ·have := akF 1000000000 (l := l) (i := l.length - 1) zc
     rw [h0, show l.length - 1 + 1 = l.length by omega, zt] at this
     rw [← h3, this]; simp
    ·simp; omega
   ·right
    repeat refine za ?_
    rw [← hfin (by unfold Cn; rw [yQ, zO zc]; simpa using h0)]; rfl
 ·cases h
theorem aDw (m : List Int) (y) (h : am1 (m, ()) = some y) : (az0 m).toO = some y := by
 obtain ⟨n, hn, hx, rfl⟩ := aaE h
 injection hx with hx
 subst hx
 have hl : (mag n).length ≤ 2 := mag_length_le_iff.2 zc
 have hd := agQ n
 have hV := alQ n
 refine uO (((mag n).length : Int) - 1, 0, ()) ?_ ?_
 ·repeat refine za ?_
  show some (w64 ((mag n).length - 1), (0 : Int), ()) = _
  rw [aaA (x := ((mag n).length : Int) - 1) zc]
 refine aaN (fun i => ∃ k : Nat, k ≤ (mag n).length ∧ i.1 = (k : Int) - 1 ∧ i.2.1 = V 1000000000 ((mag n).drop k)) (fun i => (i.1 + 1).toNat) (fun _ => ((n : Int), ())) ?_ _ ⟨_, zq _, rfl, by simp [V]⟩
 rintro ⟨i, v, u⟩ ⟨k, h1, h2, h3⟩
 simp only at h2 h3
 subst h2 h3
 unfold av0
 rcases zF k with h0 | h0
 ·subst h0
  right
  repeat refine za ?_
  simp only [yP, hV]
  rfl
 ·left
  obtain ⟨j, rfl⟩ : ∃ j, k = j + 1 := ⟨k - 1, by omega⟩
  have e1 := aaU 1000000000 (mag n) j
  have e2 := aa3 zc hd j
  have e3 := aaT zc (acI hd j)
  have e4 := aaT zc (acI hd (j + 1))
  have e5 := aMM zc hd j
  have e6 : ((j + 1 : Nat) : Int) - 1 = (j : Int) := zc
  rw [e6]
  refine ⟨((j : Int) - 1, V 1000000000 ((mag n).drop j), ()), ?_, ⟨j, by omega, rfl, rfl⟩, by simp only; omega, rfl⟩
  repeat refine za ?_
  simp only [aaM]
  rw [aaA (x := (j : Int) - 1) zc, aaO (x := V 1000000000 ((mag n).drop (j + 1)) * 1000000000) zc, aaO (x := (mag n).getD j 0) zc, aaO zc, e1, aaK]
  rw [Int.add_comm, yB]
theorem anH (m o : List Int) (y) (h : adO (m, o, ()) = some y) : (ah3 m o).toO = some y := by
 obtain ⟨⟨a, b⟩, hn, hx, rfl⟩ := aaE h
 obtain ⟨rfl, hx2⟩ := Prod.mk.inj hx
 obtain ⟨rfl, -⟩ := Prod.mk.inj hx2
 dsimp only
 obtain ⟨l1, l2⟩ := hn
 simp only at l1 l2
 unfold ah3
 have hda := agQ a
 have hdb := agQ b
 have hVa := alQ a
 have hVb := alQ b
 rcases Nat.lt_trichotomy (mag a).length (mag b).length with hl | hl | hl
 ·have := anL hl
  repeat refine za ?_
  simp only [aaK, atE]
  rw [if_pos (show (a : Int) < b by omega)]
 ·refine uF sd ?_
  refine uO (((mag a).length : Int) - 1, ()) ?_ ?_
  ·repeat refine za ?_
   show some (w64 ((mag a).length - 1), ()) = _
   rw [aaA (x := ((mag a).length : Int) - 1) zc]
  refine aaN (fun i => ∃ k : Nat, k ≤ (mag a).length ∧ i.1 = (k : Int) - 1 ∧ V 1000000000 ((mag a).drop k) = V 1000000000 ((mag b).drop k)) (fun i => (i.1 + 1).toNat) (fun _ => (atE a b, ())) ?_ _ ⟨_, zq _, rfl, by rw [acT _ (zq _), acT _ zc]⟩
  rintro ⟨i, u⟩ ⟨k, h1, h2, h3⟩
  simp only at h2 h3
  subst h2
  unfold apI
  rcases zF k with h0 | h0
  ·subst h0
   right
   repeat refine za ?_
   simp only [yP, hVa, hVb] at h3
   simp only [aaK, atE]
   rw [if_neg zc, if_pos h3]
  ·obtain ⟨j, rfl⟩ : ∃ j, k = j + 1 := ⟨k - 1, by omega⟩
   have e6 : ((j + 1 : Nat) : Int) - 1 = (j : Int) := zc
   simp only [e6, aaM]
   have a1 := ab6 1000000000 (mag a) j
   have b1 := ab6 1000000000 (mag b) j
   have a2 := aaU 1000000000 (mag a) j
   have b2 := aaU 1000000000 (mag b) j
   have a3 := ac5 zc hda j
   have b3 := ac5 zc hdb j
   have a4 := aaT zc (ab5 hda j)
   have b4 := aaT zc (ab5 hdb j)
   have hp : (1 : Int) ≤ 1000000000 ^ j := aAY zc j
   rcases xF ((mag a).getD j 0) ((mag b).getD j 0) with hc | hc | hc
   ·right
    repeat refine za ?_
    have h5 : (1000000000 : Int) ^ j * (V 1000000000 ((mag a).drop j) + 1) ≤ 1000000000 ^ j * V 1000000000 ((mag b).drop j) := zy zc zc
    rw [xK] at h5
    simp only [aaK, atE]
    rw [if_pos (show (a : Int) < b by omega)]
   ·left
    refine ⟨((j : Int) - 1, ()), ?_, ⟨j, by omega, rfl, by omega⟩, by simp only; omega, trivial⟩
    repeat refine za ?_
    rw [aaA (x := (j : Int) - 1) zc]; rfl
   ·right
    repeat refine za ?_
    have h5 : (1000000000 : Int) ^ j * (V 1000000000 ((mag b).drop j) + 1) ≤ 1000000000 ^ j * V 1000000000 ((mag a).drop j) := zy zc zc
    rw [xK] at h5
    simp only [aaK, atE]
    rw [if_neg (show ¬ (a : Int) < b by omega), if_neg (show ¬ (a : Int) = b by omega)]
 ·have := anL hl
  repeat refine za ?_
  simp only [aaK, atE]
  rw [if_neg (show ¬ (a : Int) < b by omega), if_neg (show ¬ (a : Int) = b by omega)]
theorem anG (m o : List Int) (a b : Nat) (la : (mag a).length ≤ 1000000000000) (hl : (mag b).length ≤ (mag a).length) : (arP m o (mag a, mag b, ())).toO = some (mag (a + b), ()) := by
 have hda := agQ a
 have hdb := agQ b
 have hVa := alQ a
 have hVb := alQ b
 unfold arP
 dsimp only
 refine uN ?_ ?_
 ·(try simp only [aaC, inb, inc, ge_iff_le, gt_iff_lt, zp, asT, ne_eq])
  simp (disch := omega) only [aaA, aaO, aa0, abO, aaM, zu, zp, aaC]
  omega
 refine uO (0, 0, [], ()) rfl ?_
 refine aaN (fun i => ∃ k : Nat, k ≤ (mag a).length ∧ i.1 = (k : Int) ∧ 0 ≤ i.2.1 ∧ i.2.1 ≤ 1 ∧ i.2.2.1.length = k ∧ Dg 1000000000 i.2.2.1 ∧ V 1000000000 i.2.2.1 + 1000000000 ^ k * i.2.1 = V 1000000000 ((mag a).take k) + V 1000000000 ((mag b).take k)) (fun i => (((mag a).length : Int) - i.1).toNat) (fun _ => (mag (a + b), ())) ?_ _ ⟨0, yf _, rfl, by simp, by simp, rfl, atL _, by simp [V]⟩
 rintro ⟨i, c, s, u⟩ ⟨k, h1, h2, h3, h4, h5, h6, h7⟩
 simp only at h2 h3 h4 h5 h6 h7
 subst h2
 simp only [az1, aaM]
 have ea := aa5 1000000000 (mag a) k
 have eb := aa5 1000000000 (mag b) k
 have da := aa3 zc hda k
 have db := aa3 zc hdb k
 rcases zr k (mag a).length with hk | hk
 ·left
  have key : ∀ x c' : Int, 0 ≤ x ∧ x < 1000000000 → x + 1000000000 * c' = (mag a).getD k 0 + (mag b).getD k 0 + c → V 1000000000 (s ++ [x]) + 1000000000 ^ (k + 1) * c' = V 1000000000 ((mag a).take (k + 1)) + V 1000000000 ((mag b).take (k + 1)) := by
   intro x c' _ hx
   rw [ad1, ayQ, h5, ea, eb, zY]
   have : (1000000000 : Int) ^ k * (x + 1000000000 * c') = 1000000000 ^ k * ((mag a).getD k 0 + (mag b).getD k 0 + c) := by rw [hx]
   grind
  have fin : ∀ x c' : Int, 0 ≤ x ∧ x < 1000000000 → 0 ≤ c' ∧ c' ≤ 1 → x + 1000000000 * c' = (mag a).getD k 0 + (mag b).getD k 0 + c → (∃ k_1 : Nat, k_1 ≤ (mag a).length ∧ ((k + 1 : Nat) : Int) = (k_1 : Int) ∧ 0 ≤ c' ∧ c' ≤ 1 ∧ (s ++ [x]).length = k_1 ∧ Dg 1000000000 (s ++ [x]) ∧ V 1000000000 (s ++ [x]) + 1000000000 ^ k_1 * c' = V 1000000000 ((mag a).take k_1) + V 1000000000 ((mag b).take k_1)) ∧ (((mag a).length : Int) - ((k + 1 : Nat) : Int)).toNat < (((mag a).length : Int) - (k : Int)).toNat :=
   fun x c' hx hc he => ⟨⟨k + 1, by omega, rfl, hc.1, hc.2, by simp; omega, aeG h6 (al3 hx.1 hx.2), key x c' hx he⟩, by omega⟩
  rcases zr k (mag b).length with hkb | hkb
  ·rcases zQ ((mag a).getD k 0 + c + (mag b).getD k 0) 1000000000 with hc | hc
   ·obtain ⟨g1, g2⟩ := fin ((mag a).getD k 0 + c + (mag b).getD k 0) 0 zc zc zc
    refine ⟨(((k + 1 : Nat) : Int), 0, s ++ [(mag a).getD k 0 + c + (mag b).getD k 0], ()), ?_, g1, g2, trivial⟩
    repeat refine za ?_
    simp (disch := omega) only [aaK, aaA, aaO, aa0, abO, aaM, zu, zp, aaC, zt]
    rfl
   ·obtain ⟨g1, g2⟩ := fin ((mag a).getD k 0 + c + (mag b).getD k 0 - 1000000000) 1 zc zc zc
    refine ⟨(((k + 1 : Nat) : Int), 1, s ++ [(mag a).getD k 0 + c + (mag b).getD k 0 - 1000000000], ()), ?_, g1, g2, trivial⟩
    repeat refine za ?_
    simp (disch := omega) only [aaK, aaA, aaO, aa0, abO, aaM, zu, zp, aaC, zt]
    rfl
  ·have hz : (mag b).getD k 0 = 0 := ahF hkb 0
   rcases zQ ((mag a).getD k 0 + c) 1000000000 with hc | hc
   ·obtain ⟨g1, g2⟩ := fin ((mag a).getD k 0 + c) 0 zc zc zc
    refine ⟨(((k + 1 : Nat) : Int), 0, s ++ [(mag a).getD k 0 + c], ()), ?_, g1, g2, trivial⟩
    repeat refine za ?_
    simp (disch := omega) only [aaK, aaA, aaO, aa0, abO, aaM, zu, zp, aaC, zt]
    rfl
   ·obtain ⟨g1, g2⟩ := fin ((mag a).getD k 0 + c - 1000000000) 1 zc zc zc
    refine ⟨(((k + 1 : Nat) : Int), 1, s ++ [(mag a).getD k 0 + c - 1000000000], ()), ?_, g1, g2, trivial⟩
    repeat refine za ?_
    simp (disch := omega) only [aaK, aaA, aaO, aa0, abO, aaM, zu, zp, aaC, zt]
    rfl
 ·right
  have hkk : k = (mag a).length := zc
  rw [hkk, abE _ (zq _), abE _ hl, hVa, hVb] at h7
  rcases zQ 0 c with hc | hc
  ·have hc1 : c = 1 := zc
   subst hc1
   repeat refine za ?_
   simp (disch := omega) only [aaK, aaA, aaO, aa0, abO, aaM, zu, zp, aaC, zt]
   rw [zz zi]
   rw [apA (l := s ++ [1]) (n := a + b) (aeG h6 (al3 zc zc)) (by simp [Cn]) (by rw [ad1, ayQ, h5, hkk]; omega)]
  ·have hc1 : c = 0 := zc
   subst hc1
   repeat refine za ?_
   simp (disch := omega) only [aaK, aaA, aaO, aa0, abO, aaM, zu, zp, aaC, zt]
   rw [apA (l := s) (n := a + b) h6 (aHs zc h6 ?_) zc]
   rcases zF a with ha | ha
   ·left
    subst ha
    rw [mag_zero] at hkk
    exact zU.1 (by rw [h5, hkk]; rfl)
   ·right
    have := au9 (B := 1000000000) zc (n := a) zc
    have h8 : (1000000000 : Int) ^ ((mag a).length - 1) ≤ a := by
     have : ((1000000000 ^ ((mag a).length - 1) : Nat) : Int) ≤ (a : Int) := wK.2 this
     simpa using this
    rw [h5, hkk]
    omega
theorem av1 (m o : List Int) (y) (h : alU (m, o, ()) = some y) : (apF m o).toO = some y := by
 obtain ⟨⟨a, b⟩, hn, hx, rfl⟩ := aaE h
 obtain ⟨rfl, hx2⟩ := Prod.mk.inj hx; obtain ⟨rfl, -⟩ := Prod.mk.inj hx2; dsimp only
 obtain ⟨l1, l2⟩ := hn
 simp only at l1 l2
 unfold apF
 rcases zr (mag a).length (mag b).length with hl | hl
 ·refine uL (mag b, mag a, ()) ?_ ?_
  ·repeat refine za ?_
   rfl
  ·rw [xb]
   exact anG _ _ b a l2 zc
 ·refine uL (mag a, mag b, ()) ?_ ?_
  ·repeat refine za ?_
   rfl
  ·exact anG _ _ a b l1 hl
theorem auO {l : List Int} (h : Dg 1000000000 l) (hl : l.length ≤ 2000000000000) {n : Nat} (hv : V 1000000000 l = n) : acE (l, ()) = some (mag n, ()) := by
 unfold acE
 rw [if_pos ⟨h, hl⟩]
 simp only [hv, zp]
theorem as7 (m o : List Int) (y) (h : ajH (m, o, ()) = some y) : (amM m o).toO = some y := by
 obtain ⟨⟨a, b⟩, hn, hx, rfl⟩ := aaE h
 obtain ⟨rfl, hx2⟩ := Prod.mk.inj hx; obtain ⟨rfl, -⟩ := Prod.mk.inj hx2; dsimp only
 obtain ⟨la, hba⟩ := hn
 simp only at la hba
 have hda := agQ a
 have hdb := agQ b
 have hVa := alQ a
 have hVb := alQ b
 have hl := abR hba
 unfold amM
 refine uN sn ?_
 refine uO (0, 0, List.replicate (mag a).length 0, ()) ?_ ?_
 ·repeat refine za ?_
  simp (disch := omega) only [aaK, aaA, aaO, aa0, abO, aaM, zu, zp, aaC, zt]
 refine aaN (fun i => ∃ k : Nat, k ≤ (mag a).length ∧ i.1 = (k : Int) ∧ 0 ≤ i.2.1 ∧ i.2.1 ≤ 1 ∧ i.2.2.1.length = (mag a).length ∧ Dg 1000000000 i.2.2.1 ∧ V 1000000000 (i.2.2.1.take k) = V 1000000000 ((mag a).take k) - V 1000000000 ((mag b).take k) + 1000000000 ^ k * i.2.1) (fun i => (((mag a).length : Int) - i.1).toNat) (fun _ => (mag (a - b), ())) ?_ _ ⟨0, yf _, rfl, by simp, by simp, by simp, agA zc _, by simp [V]⟩
 rintro ⟨i, c, s, u⟩ ⟨k, h1, h2, h3, h4, h5, h6, h7⟩
 simp only at h2 h3 h4 h5 h6 h7
 subst h2
 simp only [av2, aaM]
 have ea := aa5 1000000000 (mag a) k
 have eb := aa5 1000000000 (mag b) k
 have da := aa3 zc hda k
 have db := aa3 zc hdb k
 rcases zr k (mag a).length with hk | hk
 ·left
  have fin : ∀ x c' : Int, 0 ≤ x ∧ x < 1000000000 → 0 ≤ c' ∧ c' ≤ 1 → x = (mag a).getD k 0 - (mag b).getD k 0 - c + 1000000000 * c' → (∃ k_1 : Nat, k_1 ≤ (mag a).length ∧ ((k + 1 : Nat) : Int) = (k_1 : Int) ∧ 0 ≤ c' ∧ c' ≤ 1 ∧ (s.set k x).length = (mag a).length ∧ Dg 1000000000 (s.set k x) ∧ V 1000000000 ((s.set k x).take k_1) = V 1000000000 ((mag a).take k_1) - V 1000000000 ((mag b).take k_1) + 1000000000 ^ k_1 * c') ∧ (((mag a).length : Int) - ((k + 1 : Nat) : Int)).toNat < (((mag a).length : Int) - (k : Int)).toNat := by
   intro x c' hx hc he
   refine ⟨⟨k + 1, by omega, rfl, hc.1, hc.2, by simp; omega, aiH h6 hx _, ?_⟩, by omega⟩
   rw [aJp _ zc, h7, ea, eb, zY, he]
   grind
  rcases zr k (mag b).length with hkb | hkb
  ·rcases zQ ((mag a).getD k 0) (c + (mag b).getD k 0) with hc | hc
   ·obtain ⟨g1, g2⟩ := fin ((mag a).getD k 0 + 1000000000 - (c + (mag b).getD k 0)) 1 zc zc zc
    refine ⟨(((k + 1 : Nat) : Int), 1, s.set k ((mag a).getD k 0 + 1000000000 - (c + (mag b).getD k 0)), ()), ?_, g1, g2, trivial⟩
    repeat refine za ?_
    simp (disch := omega) only [aaK, aaA, aaO, aa0, abO, aaM, zu, zp, aaC, zt]
    rfl
   ·obtain ⟨g1, g2⟩ := fin ((mag a).getD k 0 - (c + (mag b).getD k 0)) 0 zc zc zc
    refine ⟨(((k + 1 : Nat) : Int), 0, s.set k ((mag a).getD k 0 - (c + (mag b).getD k 0)), ()), ?_, g1, g2, trivial⟩
    repeat refine za ?_
    simp (disch := omega) only [aaK, aaA, aaO, aa0, abO, aaM, zu, zp, aaC, zt]
    rfl
  ·have hz : (mag b).getD k 0 = 0 := ahF hkb 0
   rcases zQ ((mag a).getD k 0) c with hc | hc
   ·obtain ⟨g1, g2⟩ := fin ((mag a).getD k 0 + 1000000000 - c) 1 zc zc zc
    refine ⟨(((k + 1 : Nat) : Int), 1, s.set k ((mag a).getD k 0 + 1000000000 - c), ()), ?_, g1, g2, trivial⟩
    repeat refine za ?_
    simp (disch := omega) only [aaK, aaA, aaO, aa0, abO, aaM, zu, zp, aaC, zt]
    rfl
   ·obtain ⟨g1, g2⟩ := fin ((mag a).getD k 0 - c) 0 zc zc zc
    refine ⟨(((k + 1 : Nat) : Int), 0, s.set k ((mag a).getD k 0 - c), ()), ?_, g1, g2, trivial⟩
    repeat refine za ?_
    simp (disch := omega) only [aaK, aaA, aaO, aa0, abO, aaM, zu, zp, aaC, zt]
    rfl
 ·right
  have hkk : k = (mag a).length := zc
  rw [hkk, abE _ zc, abE _ (zq _), abE _ hl, hVa, hVb] at h7
  have hlt := aJq zc h6
  rw [h5] at hlt
  have hc : c = 0 := by
   rcases zQ 0 c with hc | hc
   ·have hc1 : c = 1 := zc
    subst hc1
    omega
   ·omega
  subst hc
  refine uF sd ?_
  refine uC (mag (a - b), ()) ?_ ?_
  ·rw [zz (by simp [len]; omega)]
   exact auO h6 zc zc
  ·rfl
theorem aLf {a b B : Int} (ha : 0 ≤ a ∧ a < B) (hb : 0 ≤ b ∧ b < B) : 0 ≤ a * b ∧ a * b ≤ (B - 1) * (B - 1) := by
 refine ⟨zZ ha.1 hb.1, ?_⟩
 have h1 : a * b ≤ a * (B - 1) := zy zc ha.1
 have h2 : a * (B - 1) ≤ (B - 1) * (B - 1) := zC zc zc
 omega
theorem aMH (Vs P c A K x T X Y d e Q B : Int) (h : Vs + P * c = A + K * (x * T)) (h2 : X + B * Y = c + (d + x * e)) (hP : P = K * Q) : Vs + P * (X - d) + P * B * Y = A + K * (x * (T + Q * e)) := by
 subst hP
 have h3 : K * Q * (X + B * Y) = K * Q * (c + (d + x * e)) := by rw [h2]
 grind
theorem as5 (m o : List Int) (y) (h : acB (m, o, ()) = some y) : (amK m o).toO = some y := by
 obtain ⟨⟨a, b⟩, hn, hx, rfl⟩ := aaE h
 obtain ⟨rfl, hx2⟩ := Prod.mk.inj hx; obtain ⟨rfl, -⟩ := Prod.mk.inj hx2; dsimp only
 obtain ⟨la, lb⟩ := hn
 simp only at la lb
 have hda := agQ a
 have hdb := agQ b
 have hVa := alQ a
 have hVb := alQ b
 have hw : w64 (len (mag a) + len (mag b)) = (((mag a).length + (mag b).length : Nat) : Int) := by
  simp only [aaC]; rw [aaA (x := ((mag a).length : Int) + (mag b).length) zc]; omega
 unfold amK
 simp only [hw]
 refine uN zc ?_
 refine uO (0, List.replicate ((mag a).length + (mag b).length) 0, ()) ?_ ?_
 ·repeat refine za ?_
  simp (disch := omega) only [aaK, aaA, aaO, aa0, abO, aaM, zu, zp, aaC, zt]
 have hBb : V 1000000000 (mag b) < 1000000000 ^ (mag b).length := aJq zc hdb
 refine aaN (fun i => ∃ k : Nat, k ≤ (mag a).length ∧ i.1 = (k : Int) ∧ i.2.1.length = (mag a).length + (mag b).length ∧ Dg 1000000000 i.2.1 ∧ V 1000000000 i.2.1 = V 1000000000 ((mag a).take k) * b) (fun i => (((mag a).length : Int) - i.1).toNat) (fun _ => (mag (a * b), ())) ?_ _ ⟨0, yf _, rfl, by simp, agA zc _, by simp [V, ar9]⟩
 rintro ⟨i, s, u⟩ ⟨k, h1, h2, h3, h4, h5⟩
 simp only at h2 h3 h4 h5
 subst h2
 simp only [avZ, aaM, hw]
 have ea := aa5 1000000000 (mag a) k
 have da := aa3 zc hda k
 rcases zr k (mag a).length with hk | hk
 ·left
  have hs : V 1000000000 s < 1000000000 ^ (k + (mag b).length) := by
   rw [h5, wi]
   have e1 := ac5 zc hda k
   have e2 := aaT zc (ab5 hda k)
   rw [hVb] at hBb
   have e3 : V 1000000000 ((mag a).take k) * b ≤ V 1000000000 ((mag a).take k) * 1000000000 ^ (mag b).length := zy zc e2
   have e4 : V 1000000000 ((mag a).take k) * 1000000000 ^ (mag b).length < 1000000000 ^ k * 1000000000 ^ (mag b).length := Int.mul_lt_mul_of_pos_right e1 (yI zc)
   omega
  have hz := alE zc h4 hs
  -- the inner loop
  obtain ⟨r, hin, s', rfl, q1, q2, q3⟩ : ∃ r : ((Int × List Int × Unit) ⊕ (List Int × Unit)), acX (fun i1 => (an5 (mag a) (mag b) ((k : Int), s, ()) i1).toO) (0, 0, s, ()) = some r ∧ ∃ s', r = Sum.inl (((k + 1 : Nat) : Int), s', ()) ∧ s'.length = (mag a).length + (mag b).length ∧ Dg 1000000000 s' ∧ V 1000000000 s' = V 1000000000 ((mag a).take (k + 1)) * b := by
   refine adL (fun j => ∃ q : Nat, q ≤ (mag b).length ∧ j.1 = (q : Int) ∧ 0 ≤ j.2.1 ∧ j.2.1 < 1000000000 ∧ j.2.2.1.length = (mag a).length + (mag b).length ∧ Dg 1000000000 j.2.2.1 ∧ (∀ t, k + (mag b).length ≤ t → j.2.2.1.getD t 0 = 0) ∧ V 1000000000 j.2.2.1 + 1000000000 ^ (k + q) * j.2.1 = V 1000000000 ((mag a).take k) * b + 1000000000 ^ k * ((mag a).getD k 0 * V 1000000000 ((mag b).take q))) (fun j => (((mag b).length : Int) - j.1).toNat) _ ?_ _ ⟨0, yf _, rfl, by simp, by simp, h3, h4, hz, by simp [V, h5]⟩
   rintro ⟨j, c, s1, u1⟩ ⟨q, g1, g2, g3, g4, g5, g6, g7, g8⟩
   simp only at g2 g3 g4 g5 g6 g7 g8
   subst g2
   have hkq : w64 ((k : Int) + q) = ((k + q : Nat) : Int) := by rw [aaA (x := (k : Int) + q) zc]; omega
   have hkl : w64 ((k : Int) + len (mag b)) = ((k + (mag b).length : Nat) : Int) := by rw [aaC, aaA (x := (k : Int) + ((mag b).length : Int)) zc]; omega
   simp only [an5, aaM, hw, hkq, hkl, zp, zu]
   have eb := aa5 1000000000 (mag b) q
   have db := aa3 zc hdb q
   have ds := aa3 zc g6 (k + q)
   have hm := aLf da db
   rcases zr q (mag b).length with hq | hq
   ·left
    have hsum : 0 ≤ c + (s1.getD (k + q) 0 + (mag a).getD k 0 * (mag b).getD q 0) := zc
    have e1 := yl (c + (s1.getD (k + q) 0 + (mag a).getD k 0 * (mag b).getD q 0)) 1000000000
    have e2 : 0 ≤ (c + (s1.getD (k + q) 0 + (mag a).getD k 0 * (mag b).getD q 0)) % 1000000000 ∧ (c + (s1.getD (k + q) 0 + (mag a).getD k 0 * (mag b).getD q 0)) % 1000000000 < 1000000000 := zc
    have e3 : 0 ≤ (c + (s1.getD (k + q) 0 + (mag a).getD k 0 * (mag b).getD q 0)) / 1000000000 ∧ (c + (s1.getD (k + q) 0 + (mag a).getD k 0 * (mag b).getD q 0)) / 1000000000 < 1000000000 := zc
    refine ⟨(((q + 1 : Nat) : Int), (c + (s1.getD (k + q) 0 + (mag a).getD k 0 * (mag b).getD q 0)) / 1000000000, s1.set (k + q) ((c + (s1.getD (k + q) 0 + (mag a).getD k 0 * (mag b).getD q 0)) % 1000000000), ()), ?_, ⟨q + 1, by omega, rfl, e3.1, e3.2, by simp; omega, aiH g6 e2 _, ?_, ?_⟩, by simp only; omega⟩
    ·repeat refine za ?_
     simp (disch := omega) only [aaK, aaA, aaO, aa0, abO, aaM, zu, zp, aaC, zt]
     rw [zE hsum, zH hsum]
     simp (disch := omega) only [aaK, aaA, aaO, aa0, abO, aaM, zu, zp, aaC, zt]
     rfl
    ·intro t ht
     rw [an3 _ zc]; exact g7 t ht
    ·simp only
     rw [axD _ zc, eb, show k + (q + 1) = k + q + 1 by omega, zY]
     exact aMH _ _ _ _ _ _ _ _ _ _ _ _ _ g8 e1 (wi _ _ _)
   ·right
    have hqq : q = (mag b).length := zc
    subst hqq
    rw [abE _ (zq _), hVb] at g8
    refine ⟨.inl (((k + 1 : Nat) : Int), s1.set (k + (mag b).length) c, ()), ?_, _, rfl, by simp; omega, aiH g6 ⟨g3, g4⟩ _, ?_⟩
    ·repeat refine za ?_
     simp (disch := omega) only [aaK, aaA, aaO, aa0, abO, aaM, zu, zp, aaC, zt]
     rfl
    ·rw [axD _ zc, g7 _ zc, ea, wF]
     simp only [wM]
     rw [g8]
     grind
  refine ⟨(((k + 1 : Nat) : Int), s', ()), ?_, ⟨k + 1, by omega, rfl, q1, q2, q3⟩, by simp only; omega, trivial⟩
  refine uT sd ?_
  refine uN sd ?_
  refine uO (0, 0, s, ()) ?_ ?_
  ·repeat refine za ?_
   rfl
  ·exact hin
 ·right
  have hkk : k = (mag a).length := zc
  rw [hkk, abE _ (zq _), hVa] at h5
  refine uF sd ?_
  refine uC (mag (a * b), ()) ?_ ?_
  ·rw [zz zh]
   exact auO h4 zc (by rw [h5]; simp)
  ·rfl
theorem aMI (Vm Vq P d R m X Y B W : Int) (h : Vm = Vq * d + R) (h2 : Y + d * X = R * B + m) (hW : W = m + B * Vm) (hP : P = X + B * Vq) : W = P * d + Y := by
 subst hW hP h
 grind
theorem as6 (m : List Int) (d : Int) (y) (h : ajG (m, d, ()) = some y) : (amL m d).toO = some y := by
 obtain ⟨⟨a, e⟩, hn, hx, rfl⟩ := aaE h
 obtain ⟨rfl, hx2⟩ := Prod.mk.inj hx; obtain ⟨rfl, -⟩ := Prod.mk.inj hx2; dsimp only
 obtain ⟨la, he, he2⟩ := hn
 simp only at la he he2
 have hda := agQ a
 have hVa := alQ a
 unfold amL
 refine uN sn ?_
 have hd : abP (e : Int) = e := aaO zc
 refine uO (((mag a).length : Int) - 1, 0, List.replicate (mag a).length 0, ()) ?_ ?_
 ·repeat refine za ?_
  simp only [aaC]
  rw [aaA (x := ((mag a).length : Int) - 1) zc]
  rfl
 refine aaN (fun i : Int × Int × List Int × Unit => ∃ k : Nat, k ≤ (mag a).length ∧ i.1 = (k : Int) - 1 ∧ 0 ≤ i.2.1 ∧ i.2.1 < e ∧ i.2.2.1.length = (mag a).length ∧ Dg 1000000000 i.2.2.1 ∧ V 1000000000 ((mag a).drop k) = V 1000000000 (i.2.2.1.drop k) * e + i.2.1) (fun i => (i.1 + 1).toNat) (fun _ => (mag (a / e), ((a % e : Nat) : Int), ())) ?_ _ ⟨_, zq _, rfl, by simp, by simp; omega, by simp, agA zc _, by rw [acT _ (zq _), acT _ zi]; simp⟩
 rintro ⟨i, r, q, u⟩ ⟨k, h1, h2, h3, h4, h5, h6, h7⟩
 simp only at h2 h3 h4 h5 h6 h7
 subst h2
 rcases zF k with h0 | h0
 ·subst h0
  right
  simp only [yP, hVa] at h7
  obtain ⟨v, hv⟩ := zv (aaT zc h6)
  obtain ⟨r', rfl⟩ := zv h3
  rw [hv] at h7
  have h8 : a = v * e + r' := by
   have : (a : Int) = ((v * e + r' : Nat) : Int) := by simpa using h7
   exact Int.ofNat.inj this
  have h9 : a / e = v := by rw [h8, xb, wN _ _ he, xa zc, zu]
  have h10 : a % e = r' := by rw [h8, xb, xX, yG zc]
  simp only [an6]
  refine uF sd ?_
  refine uC (mag v, ()) ?_ ?_
  ·rw [zz (by simp [len]; omega)]
   exact auO h6 zc hv
  ·simp (disch := omega) only [aaK, aaA, aaO, aa0, abO, aaM, zu, zp, aaC, zt]
   rw [h9, h10]
 ·left
  obtain ⟨j, rfl⟩ : ∃ j, k = j + 1 := ⟨k - 1, by omega⟩
  have e6 : ((j + 1 : Nat) : Int) - 1 = (j : Int) := zc
  rw [e6]
  simp only [an6, aaM, hd]
  have e1 := aaU 1000000000 (mag a) j
  have e2 := aa3 zc hda j
  have g1 : 0 ≤ r * 1000000000 + (mag a).getD j 0 := zc
  have g0 : (0 : Int) < e := zc
  have g2 := yl (r * 1000000000 + (mag a).getD j 0) e
  have g3 := yE (r * 1000000000 + (mag a).getD j 0) (show (e : Int) ≠ 0 by omega)
  have g4 := yr (r * 1000000000 + (mag a).getD j 0) g0
  have g5 : 0 ≤ (r * 1000000000 + (mag a).getD j 0) / e := xD g1 zc
  have g6 : (r * 1000000000 + (mag a).getD j 0) / e < 1000000000 := by
   refine Int.ediv_lt_of_lt_mul g0 ?_
   have : (r + 1) * 1000000000 ≤ e * 1000000000 := zC zc zc
   omega
  have hw1 : abP (abP (r * 1000000000) + abP ((mag a).getD j 0)) = r * 1000000000 + (mag a).getD j 0 := by
   rw [aaO (x := r * 1000000000) zc, aaO (x := (mag a).getD j 0) zc, aaO zc]
  simp only [hw1]
  refine ⟨((j : Int) - 1, (r * 1000000000 + (mag a).getD j 0) % e, q.set j ((r * 1000000000 + (mag a).getD j 0) / e), ()), ?_, ⟨j, by omega, rfl, g3, g4, by simp; omega, aiH h6 ⟨g5, g6⟩ _, ?_⟩, by simp only; omega, trivial⟩
  ·repeat refine za ?_
   rw [zE g1, zH g1]
   rw [aaO (x := (r * 1000000000 + (mag a).getD j 0) / e) zc, aa0 (x := (r * 1000000000 + (mag a).getD j 0) / e) zc]
   simp (disch := omega) only [aaK, aaA, aaO, aa0, abO, aaM, zu, zp, aaC, zt]
  ·simp only
   refine aMI _ _ _ _ _ _ _ _ 1000000000 _ h7 g2 e1 ?_
   rw [aaU 1000000000 (q.set j _) j, an4 zc, ahI _ zc]
theorem alF (v : Int) (y) (h : abN (v, ()) = some y) : (aj5 v).toO = some y := by
 unfold abN at h
 split at h
 ·rename_i hp
  obtain ⟨h0, h1⟩ := hp
  simp only at h0 h1
  injection h with h
  subst h
  obtain ⟨n, rfl⟩ := zv h0
  simp only [zp]
  refine uO (true, [], (n : Int), ()) rfl ?_
  refine aaN (fun i => ∃ w : Nat, i.2.2.1 = (w : Int) ∧ w ≤ n ∧ Dg 1000000000 i.2.1 ∧ V 1000000000 i.2.1 + 1000000000 ^ i.2.1.length * w = n ∧ (i.1 = true → i.2.1 = []) ∧ (w = 0 → Cn i.2.1) ∧ (i.2.1.length ≤ 3) ∧ (w ≠ 0 → w < 1000000000 ^ (3 - i.2.1.length))) (fun i => i.2.2.1.toNat) (fun _ => (mag n, ())) ?_ _ ⟨n, rfl, zq _, atL _, by simp [V], fun _ => rfl, fun _ => atM, by simp, fun _ => by simp; omega⟩
  rintro ⟨f, l, w', u⟩ ⟨w, g1, g2, g3, g4, g5, g6, g7, g8⟩
  simp only at g1 g3 g4 g5 g6 g7 g8
  subst g1
  rcases zF w with hw | hw
  ·subst hw
   right
   have : l = mag n := apA g3 (g6 rfl) zc
   cases f
   ·unfold aeD
    repeat refine za ?_
    simp (disch := omega) only [aaK, aaA, aaO, aa0, abO, aaM, zu, zp, aaC, zt]
    rw [this]
   ·unfold aeD
    repeat refine za ?_
    simp (disch := omega) only [aaK, aaA, aaO, aa0, abO, aaM, zu, zp, aaC, zt]
    rw [← this, g5 rfl]
  ·left
   have hl : l.length ≤ 2 := by
    rcases zr 2 l.length with h | h
    ·have h3 : l.length = 3 := zc
     have := g8 zc
     rw [h3] at this
     simp at this
     omega
    ·exact h
   have e1 : ((w % 1000000000 : Nat) : Int) + 1000000000 * ((w / 1000000000 : Nat) : Int) = w := zc
   refine ⟨(false, l ++ [((w % 1000000000 : Nat) : Int)], ((w / 1000000000 : Nat) : Int), ()), ?_, ⟨w / 1000000000, rfl, by omega, aeG g3 (al3 zc zc), ?_, by simp, ?_, by simp; omega, ?_⟩, by simp only; omega, ze⟩
   ·have t1 : Int.tmod (w : Int) 1000000000 = ((w % 1000000000 : Nat) : Int) := by rw [zE zc]; omega
    have t2 : Int.tdiv (w : Int) 1000000000 = ((w / 1000000000 : Nat) : Int) := by rw [zH zc]; omega
    cases f
    ·simp only [aeD, t1, t2]
     repeat refine za ?_
     simp (disch := omega) only [aaK, aaA, aaO, aa0, abO, aaM, zu, zp, aaC, zt]
    ·simp only [aeD, t1, t2]
     repeat refine za ?_
     rw [g5 rfl]
     simp (disch := omega) only [aaK, aaA, aaO, aa0, abO, aaM, zu, zp, aaC, zt]
     rfl
   ·simp only
    rw [ad1, ayQ, zP, yu, zY, ← g4]
    have : (1000000000 : Int) ^ l.length * (((w % 1000000000 : Nat) : Int) + 1000000000 * ((w / 1000000000 : Nat) : Int)) = 1000000000 ^ l.length * w := by rw [e1]
    grind
   ·intro hz
    unfold Cn
    simp
    omega
   ·intro hz
    simp only [zP, yu]
    have := g8 zc
    rw [yN zc]
    have h9 : 1000000000 ^ (3 - l.length) = 1000000000 ^ (3 - (l.length + 1)) * 1000000000 := by
     rw [← yC]; congr 1; omega
    omega
 ·cases h
theorem aFm {n : Nat} (h : n ≠ 0) : ∃ t : Nat, (mag n).getD ((mag n).length - 1) 0 = (t : Int) ∧ 1 ≤ t ∧ t < 1000000000 ∧ 1000000000 ^ ((mag n).length - 1) * t ≤ n ∧ n < 1000000000 ^ ((mag n).length - 1) * (t + 1) := by
 have hd := agQ n
 have hV := alQ n
 have hl : 1 ≤ (mag n).length := by
  rcases zF (mag n).length with h0 | h0
  ·exact absurd (mag_nil_iff.1 (zU.1 h0)) h
  ·exact h0
 have e1 := ab6 1000000000 (mag n) ((mag n).length - 1)
 have e2 := aaU 1000000000 (mag n) ((mag n).length - 1)
 rw [acT (k := (mag n).length - 1 + 1) _ zc] at e2
 have e3 := ac5 zc hd ((mag n).length - 1)
 have e4 := aaT zc (ab5 hd ((mag n).length - 1))
 have e5 := aa3 zc hd ((mag n).length - 1)
 obtain ⟨t, ht⟩ := zv e5.1
 have h1 : 1 ≤ t := by
  rcases zF t with h0 | h0
  ·have hc := aQF n
   unfold Cn at hc
   rw [yQ, zO zc] at hc
   rw [aiN zc, h0] at ht
   rw [ht] at hc
   exact absurd rfl hc
  ·exact h0
 have hp : (1000000000 : Int) ^ ((mag n).length - 1) = ((1000000000 ^ ((mag n).length - 1) : Nat) : Int) := zi
 rw [hV, e2, ht, hp] at e1
 rw [hp] at e3
 refine ⟨t, ht, h1, by omega, ?_, ?_⟩
 ·have : ((1000000000 ^ ((mag n).length - 1) * t : Nat) : Int) ≤ n := by
   rw [yi]
   simp only [wy, vI] at e1
   omega
  exact wK.1 this
 ·have : (n : Int) < ((1000000000 ^ ((mag n).length - 1) * (t + 1) : Nat) : Int) := by
   rw [yi]
   simp only [wy, vI] at e1
   rw [wC, xK]
   omega
  exact Int.ofNat_lt.1 this
theorem awH {n t L : Nat} (h1 : 1 ≤ t) (h3 : 1000000000 ^ L * t ≤ n) (h4 : n < 1000000000 ^ L * (t + 1)) : (aa2 n).length = L * 9 + (aa2 t).length := by
 have a1 := afM t
 have a2 := aE1 (n := t) zc
 have a3 := ahK t
 have e : (1000000000 : Nat) ^ L = 10 ^ (L * 9) := by rw [show 1000000000 = 10 ^ 9 by decide, ← xM, yL]
 rw [e] at h3 h4
 obtain ⟨q, hq⟩ : ∃ q, (aa2 t).length = q + 1 := ⟨(aa2 t).length - 1, by omega⟩
 rw [hq] at a1 a2 ⊢
 have h5 : 10 ^ (L * 9 + q) ≤ n := by
  rw [xz]
  have := yy (10 ^ (L * 9)) a2
  simp at this
  omega
 have h6 : n < 10 ^ (L * 9 + q + 1) := by
  rw [show L * 9 + q + 1 = L * 9 + (q + 1) by omega, xz]
  have : 10 ^ (L * 9) * (t + 1) ≤ 10 ^ (L * 9) * 10 ^ (q + 1) := yy _ zc
  omega
 rw [anJ h5 h6]
 omega
theorem apG (m : List Int) (y) (h : ahQ (m, ()) = some y) : (aj0 m).toO = some y := by
 obtain ⟨n, hn, hx, rfl⟩ := aaE h
 obtain ⟨rfl, -⟩ := Prod.mk.inj hx
 unfold aj0
 refine uC (len (mag n) == 0, ()) rfl ?_
 by_cases h0 : n = 0
 ·subst h0
  refine uT (by simp [mag_zero, len]) ?_
  simp [aaK, abH]
 ·obtain ⟨t, ht, h1, h2, h3, h4⟩ := aFm h0
  have hl : 1 ≤ (mag n).length := by
   rcases zF (mag n).length with h5 | h5
   ·exact absurd (mag_nil_iff.1 (zU.1 h5)) h0
   ·exact h5
  have hw : w64 (len (mag n) - 1) = (((mag n).length - 1 : Nat) : Int) := by rw [aaC, aaA (x := ((mag n).length : Int) - 1) zc]; omega
  refine uF sd ?_
  simp only [hw, aaM, ht]
  refine uN sd ?_
  have hdl : (aa2 t).length ≤ 9 := (acQ zc).2 zc
  refine uC (aa2 t, ()) ?_ ?_
  ·rw [aaA (x := (t : Int)) zc]
   unfold aAl
   rw [if_pos zm]
   simp only [ad7]
  ·rw [awH h1 h3 h4]
   simp only [aaK, aaC]
   rw [aaA (x := ((((mag n).length - 1 : Nat)) : Int) * 9) zc, aaA zc]
   simp
theorem aII (m o : List Int) (y) (h : agX (m, o, ()) = some y) : (aBk m o).toO = some y := by
 obtain ⟨⟨a, b⟩, hn, hx, rfl⟩ := aaE h
 obtain ⟨rfl, hx2⟩ := Prod.mk.inj hx; obtain ⟨rfl, -⟩ := Prod.mk.inj hx2; dsimp only
 obtain ⟨la, lb⟩ := hn
 simp only at la lb
 unfold aBk
 refine uO (mag a, mag b, ()) rfl ?_
 refine aaN (fun i : List Int × List Int × Unit => ∃ p q : Nat, i = (mag p, mag q, ()) ∧ (mag p).length ≤ 100000000000 ∧ (mag q).length ≤ 100000000000 ∧ Nat.gcd p q = Nat.gcd a b) (fun i => (V 1000000000 i.2.1).toNat) (fun _ => (mag (Nat.gcd a b), ())) ?_ _ ⟨a, b, rfl, la, lb, rfl⟩
 rintro i ⟨p, q, rfl, lp, lq, hg⟩
 simp only [aDy]
 by_cases hq : q = 0
 ·right
  subst hq
  refine uC (len (mag 0) == 0, ()) rfl ?_
  refine uF (by simp [mag_zero, len]) ?_
  rw [← hg]
  simp [aaK]
 ·have hql : 1 ≤ (mag q).length := by
   rcases zF (mag q).length with h5 | h5
   ·exact absurd (mag_nil_iff.1 (zU.1 h5)) hq
   ·exact h5
  by_cases hs : (mag p).length ≤ 2 ∧ (mag q).length ≤ 2
  ·right
   have bp : p < 1000000000000000000 := by have := mag_length_le_iff.1 hs.1; omega
   have bq : q < 1000000000000000000 := by have := mag_length_le_iff.1 hs.2; omega
   refine uC (len (mag q) == 0, ()) rfl ?_
   refine uT (by simp [len]; intro h; simp [h] at hql) ?_
   refine uL (true, ()) ?_ ?_
   ·refine uT sd ?_
    repeat refine za ?_
    show some (Sum.inl (decide (len (mag q) ≤ 2), ())) = _
    rw [zo (show len (mag q) ≤ 2 by exact sn)]
   ·simp only [av3]
    refine uT rfl ?_
    refine uC ((p : Int), ()) (aaI (enc := fun n : Nat => (mag n, ())) p bp (fun b hb => adK (Prod.mk.inj hb).1)) ?_
    refine uC ((q : Int), ()) (aaI (enc := fun n : Nat => (mag n, ())) q bq (fun b hb => adK (Prod.mk.inj hb).1)) ?_
    refine uO ((q : Int), (p : Int), ()) rfl ?_
    refine aaN (fun i : Int × Int × Unit => ∃ r s : Nat, i = ((r : Int), (s : Int), ()) ∧ s < 1000000000000000000 ∧ r < 1000000000000000000 ∧ Nat.gcd s r = Nat.gcd a b) (fun i => i.1.toNat) (fun _ => (Sum.inr (mag (Nat.gcd a b), ()) : (List Int × List Int × Unit) ⊕ (List Int × Unit))) ?_ _ ⟨q, p, rfl, bp, bq, hg⟩
    rintro i ⟨r, s, rfl, h1, h2, h3⟩
    simp only [aDx]
    rcases zF r with hr | hr
    ·subst hr
     right
     refine uF sd ?_
     refine uC (mag s, ()) ?_ ?_
     ·unfold abN
      rw [if_pos zm]
      simp
     ·rw [← h3]
      simp [aaK]
    ·left
     have hm := yU s hr
     refine ⟨(((s % r : Nat) : Int), (r : Int), ()), ?_, ⟨s % r, r, rfl, by omega, by omega, ?_⟩, by simp only; omega, ze⟩
     ·repeat refine za ?_
      rw [zE zc]
      rfl
     ·rw [← h3, xC s r, Nat.gcd_rec r s, xC]
  ·left
   refine ⟨(mag q, mag (p % q), ()), ?_, ⟨q, p % q, rfl, lq, ?_, ?_⟩, ?_, ze⟩
   ·refine uC (len (mag q) == 0, ()) rfl ?_
    refine uT (by simp [len]; intro h; simp [h] at hql) ?_
    refine uL (false, ()) ?_ ?_
    ·rcases zr 2 (mag p).length with h5 | h5
     ·repeat refine za ?_
      rfl
     ·repeat refine za ?_
      show some (Sum.inl (decide (len (mag q) ≤ 2), ())) = _
      rw [zn (show ¬ len (mag q) ≤ 2 by exact sn)]
    ·simp only [av3]
     refine uF rfl ?_
     refine uC (mag (p / q), mag (p % q), ()) (aaI (enc := fun p : Nat × Nat => (mag p.1, mag p.2, ())) (p, q) ⟨lp, lq, hq⟩ (fun b hb => adB hb)) ?_
     repeat refine za ?_
     rfl
   ·have := abR (vJ (yU p (show 0 < q by omega))); omega
   ·rw [← hg, xC p q, Nat.gcd_rec q p, xC]
   ·simp only [alQ, zp]
    exact yU p zc
theorem at8 {s : List UInt8} (h : isD s) (i : Nat) : isD (s.take i) := fun c hc => h c (yZ hc)
theorem apC {s : List UInt8} (h : isD s) (i : Nat) : isD (s.drop i) := fun c hc => h c (yY hc)
theorem aGA {s : List UInt8} {a i : Nat} (h1 : a ≤ i) (h2 : i < s.length) : (s.take (i + 1)).drop a = (s.take i).drop a ++ [s[i]] := by
 rw [zW h2, List.drop_append_of_le_length zh]
theorem auT {s : List UInt8} {a i : Nat} (h1 : a ≤ i) (h2 : i ≤ s.length) : ((s.take i).drop a).length = i - a := zh
theorem aK7 {s : List UInt8} {a e : Nat} (h1 : a ≤ e) (h2 : e ≤ s.length) : num (s.take e) = num (s.take a) * 10 ^ (e - a) + num ((s.take e).drop a) := by
 conv => lhs; rw [← xu a (s.take e)]
 rw [amG, auT h1 h2, xc, yK h1]
theorem aFj : num [] = 0 := rfl
theorem azY {s : List UInt8} (hd : isD s) {a i e : Nat} (h1 : a ≤ i) (h2 : i < e) (h3 : e ≤ s.length) (h4 : e - a ≤ 9) : adV (adV ((num ((s.take i).drop a) : Int) * 10) + adV (wu8 (((s.getD i 0).toNat : Int) - 48))) = (num ((s.take (i + 1)).drop a) : Int) := by
 have hi : i < s.length := zc
 have e1 : s.getD i 0 = s[i] := by simp [hi]
 have e2 := hd s[i] (yp hi)
 have e3 := aC7 (apC (at8 hd i) a)
 rw [auT h1 zc] at e3
 have e4 : (10 : Nat) ^ (i - a) ≤ 10 ^ 8 := zV zc zc
 have e5 : dv s[i] = s[i].toNat - 48 := rfl
 rw [aGA h1 hi, amE, e1, e5]
 rw [abO (x := (s[i].toNat : Int) - 48) zc, aa0 (x := (s[i].toNat : Int) - 48) zc, aa0 (x := (num ((s.take i).drop a) : Int) * 10) zc, aa0 zc]
 omega
theorem atA (digits : List UInt8) (y) (h : ag2 (digits, ()) = some y) : (arT digits).toO = some y := by
 unfold ag2 at h
 split at h
 case isFalse => cases h
 case isTrue hp =>
  obtain ⟨hd, hne, hl⟩ := hp
  simp only at hd hne hl
  injection h with h
  subst h
  generalize digits = s at *
  have hlen : 1 ≤ s.length := ya.2 hne
  refine uO ((s.length : Int), true, [], ()) rfl ?_
  refine aaN (fun i : Int × Bool × List Int × Unit => ∃ e : Nat, i.1 = (e : Int) ∧ 1 ≤ e ∧ e ≤ s.length ∧ Dg 1000000000 i.2.2.1 ∧ V 1000000000 i.2.2.1 + 1000000000 ^ i.2.2.1.length * num (s.take e) = num s ∧ i.2.2.1.length + e ≤ s.length ∧ (i.2.1 = true → i.2.2.1 = [])) (fun i => i.1.toNat) (fun _ => (mag (num s), ())) ?_ _ ⟨s.length, rfl, hlen, zq _, atL _, by simp [V], by simp, fun _ => rfl⟩
  rintro ⟨e', f, l, u⟩ ⟨e, g1, g2, g3, g4, g5, g6, g7⟩
  simp only at g1 g4 g5 g6 g7
  subst g1
  obtain ⟨a, ha, ha1, ha2, ha3⟩ : ∃ a : Nat, (if 0 > w64 ((e : Int) - 9) then 0 else w64 ((e : Int) - 9)) = (a : Int) ∧ a ≤ e ∧ e - a ≤ 9 ∧ (a = 0 ∨ a + 9 = e) := by
   rw [aaA (x := (e : Int) - 9) zc]
   rcases zr e 9 with h9 | h9
   ·exact ⟨0, by rw [if_pos zc]; rfl, by omega, by omega, Or.inl rfl⟩
   ·exact ⟨e - 9, by rw [if_neg zc]; omega, by omega, by omega, Or.inr zc⟩
  have hseg := aK7 (s := s) ha1 g3
  have hv := aC7 (apC (at8 hd e) a)
  rw [auT ha1 g3] at hv
  have hv9 : (10 : Nat) ^ (e - a) ≤ 10 ^ 9 := zV zc ha2
  generalize hX : num ((s.take e).drop a) = X at hseg hv
  have hD : Dg 1000000000 (l ++ [(X : Int)]) := aeG g4 (al3 zc zc)
  have hw9 : w64 ((e : Int) - 9) = (e : Int) - 9 := aaA zc
  have hV0 : a = 0 → V 1000000000 (l ++ [(X : Int)]) = num s := by
   intro h0
   subst h0
   rw [ad1, ayQ, ← g5]
   rw [hseg]
   simp [aFj]
  have hV1 : a + 9 = e → V 1000000000 (l ++ [(X : Int)]) + 1000000000 ^ (l ++ [(X : Int)]).length * (num (s.take a) : Int) = num s := by
   intro h0
   rw [ad1, ayQ, ← g5, hseg, show e - a = 9 by omega, zP, yu, zY]
   have : (((num (s.take a) * 10 ^ 9 + X : Nat)) : Int) = (num (s.take a) : Int) * 1000000000 + X := zi
   rw [this]
   grind
  cases f
  ·-- not the first group
   simp only [an9, ha]
   have hin : acX (fun i1 => (aj3 s ((e : Int), false, l, ()) i1).toO) ((a : Int), 0, ()) = some (if a = 0 then Sum.inr (mag (num s), ()) else Sum.inl ((a : Int), false, l ++ [(X : Int)], ())) := by
    refine aaN (fun j : Int × Int × Unit => ∃ i : Nat, a ≤ i ∧ i ≤ e ∧ j = ((i : Int), (num ((s.take i).drop a) : Int), ())) (fun j => ((e : Int) - j.1).toNat) (fun _ => (if a = 0 then Sum.inr (mag (num s), ()) else Sum.inl ((a : Int), false, l ++ [(X : Int)], ()))) ?_ _ ⟨a, zq _, ha1, by rw [yw zh]; rfl⟩
    rintro j ⟨i, h1, h2, rfl⟩
    rcases zr i e with hi | hi
    ·left
     refine ⟨(((i + 1 : Nat) : Int), (num ((s.take (i + 1)).drop a) : Int), ()), ?_, ⟨i + 1, by omega, by omega, rfl⟩, by simp only; omega, ze⟩
     simp only [aj3, aaM, azY hd h1 hi g3 ha2]
     repeat refine za ?_
     simp (disch := omega) only [aaK, aaA, aaO, aa0, abO, aaM, zu, zp, aaC, zt]
     rfl
    ·right
     have hie : i = e := zc
     subst hie
     simp only [aj3, ha, hX, zt]
     refine uF sd ?_
     refine uN zc ?_
     by_cases h0 : a = 0
     ·rw [if_pos h0]
      refine uT (by simp [h0]) ?_
      refine uC (mag (num s), ()) ?_ rfl
      rw [zz zi]
      exact auO hD zh (hV0 h0)
     ·rw [if_neg h0]
      refine uF zh ?_
      repeat refine za ?_
      have : w64 ((i : Int) - 9) = (a : Int) := by rw [hw9]; omega
      rw [this]
      rfl
   by_cases h0 : a = 0
   ·right
    rw [if_pos h0] at hin
    refine uF rfl ?_
    refine uO ((a : Int), 0, ()) ?_ hin
    repeat refine za ?_
    rfl
   ·left
    rw [if_neg h0] at hin
    refine ⟨((a : Int), false, l ++ [(X : Int)], ()), ?_, ⟨a, rfl, by omega, by omega, hD, hV1 zc, by simp; omega, by simp⟩, by simp only; omega, ze⟩
    refine uF rfl ?_
    refine uO ((a : Int), 0, ()) ?_ hin
    repeat refine za ?_
    rfl
  ·-- the first group
   obtain rfl := g7 rfl
   simp only [xh] at hD hV0 hV1
   simp only [an9, ha]
   have hin : acX (fun i1 => (aj4 s ((e : Int), true, [], ()) i1).toO) ((a : Int), 0, ()) = some (if a = 0 then Sum.inr (mag (num s), ()) else Sum.inl ((a : Int), false, [(X : Int)], ())) := by
    refine aaN (fun j : Int × Int × Unit => ∃ i : Nat, a ≤ i ∧ i ≤ e ∧ j = ((i : Int), (num ((s.take i).drop a) : Int), ())) (fun j => ((e : Int) - j.1).toNat) (fun _ => (if a = 0 then Sum.inr (mag (num s), ()) else Sum.inl ((a : Int), false, [(X : Int)], ()))) ?_ _ ⟨a, zq _, ha1, by rw [yw zh]; rfl⟩
    rintro j ⟨i, h1, h2, rfl⟩
    rcases zr i e with hi | hi
    ·left
     refine ⟨(((i + 1 : Nat) : Int), (num ((s.take (i + 1)).drop a) : Int), ()), ?_, ⟨i + 1, by omega, by omega, rfl⟩, by simp only; omega, ze⟩
     simp only [aj4, aaM, azY hd h1 hi g3 ha2]
     repeat refine za ?_
     simp (disch := omega) only [aaK, aaA, aaO, aa0, abO, aaM, zu, zp, aaC, zt]
     rfl
    ·right
     have hie : i = e := zc
     subst hie
     simp only [aj4, ha, hX]
     refine uF sd ?_
     refine uN zi ?_
     by_cases h0 : a = 0
     ·rw [if_pos h0]
      refine uT (by simp [h0]) ?_
      refine uC (mag (num s), ()) ?_ rfl
      exact auO hD zi (hV0 h0)
     ·rw [if_neg h0]
      refine uF zh ?_
      repeat refine za ?_
      have : w64 ((i : Int) - 9) = (a : Int) := by rw [hw9]; omega
      rw [this]
      rfl
   by_cases h0 : a = 0
   ·right
    rw [if_pos h0] at hin
    refine uT rfl ?_
    refine uO ((a : Int), 0, ()) ?_ hin
    repeat refine za ?_
    rfl
   ·left
    rw [if_neg h0] at hin
    refine ⟨((a : Int), false, [(X : Int)], ()), ?_, ⟨a, rfl, by omega, by omega, hD, hV1 zc, by simp; omega, by simp⟩, by simp only; omega, ze⟩
    refine uT rfl ?_
    refine uO ((a : Int), 0, ()) ?_ hin
    repeat refine za ?_
    rfl
set_option maxRecDepth 100000
open Go Go.Vg Go.Proofs
noncomputable section
def aIM : LTab := []
def az3 (m : List Int) (negative : Bool) : TT tx :=
 .ite (negative)
 (.call (ac6 (m, ())) Dd1 fun y =>
 .ok (((m, !y.1, ()), ())))
 (.ok (((m, false, ()), ())))
def aQo : LTab := []
def aOV (m : List Int) (negative : Bool) : TT tx :=
 .ite (negative)
 (.call (ahN (m, ())) Dd1 fun y =>
 .ok (((m, !y.1, ()), ())))
 (.ok (((m, false, ()), ())))
def aBo : LTab := []
def apK (n : List Int × Bool × Unit) : TT tx :=
 .call (aa9 (n.1, !n.2.1, ())) Dd5 fun y =>
 .ok (((y.1.1, y.1.2.1, ()), ()))
def aLK : LTab := []
def av7 (n : List Int × Bool × Unit) : TT uK :=
 .call (ac6 (n.1, ())) Dd1 fun y =>
 .ite (y.1)
 (.ok ((0, ())))
 (.ite (n.2.1)
 (.ok ((-1, ())))
 (.ok ((1, ()))))
def aLJ : LTab := []
def av6 (n : List Int × Bool × Unit) : TT tb :=
 .ite (n.2.1)
 (.call (ahR (n.1, ())) Dd2 fun y =>
 .need (List.length #[45].toList + List.length y.1 ≤ lim) <| .ok ((#[45].toList ++ y.1, ())))
 (.call (ahR (n.1, ())) Dd2 fun y1 =>
 .ok ((y1.1, ())))
def aOs : LTab := []
def aBm (n : List Int × Bool × Unit) (o : List Int × Bool × Unit) : TT tx :=
 .ite (n.2.1 == o.2.1)
 (.call (alU (n.1, o.1, ())) Dd0 fun y =>
 .call (aa9 (y.1, n.2.1, ())) Dd5 fun y1 =>
 .ok (((y1.1.1, y1.1.2.1, ()), ())))
 (.call (adO (n.1, o.1, ())) Dd6 fun y2 =>
 .ite (decide (y2.1 < 0))
 (.call (ajH (o.1, n.1, ())) Dd0 fun y3 =>
 .call (aa9 (y3.1, o.2.1, ())) Dd5 fun y4 =>
 .ok (((y4.1.1, y4.1.2.1, ()), ())))
 (.call (ajH (n.1, o.1, ())) Dd0 fun y5 =>
 .call (aa9 (y5.1, n.2.1, ())) Dd5 fun y6 =>
 .ok (((y6.1.1, y6.1.2.1, ()), ()))))
def akV (s : List Int × Bool × Unit) (o : List Int × Bool × Unit) : TT tx :=
 .call (ap2 ((o.1, o.2.1, ()), ())) Dd5 fun y =>
 .call (aHh ((s.1, s.2.1, ()), y.1, ())) Dd5 fun y1 =>
 .ok (((y1.1.1, y1.1.2.1, ()), ()))
def aCe : LTab := []
def akU (s : List Int × Bool × Unit) (o : List Int × Bool × Unit) : TT tx :=
 .call (ai9 (s.1, o.1, ())) Dd0 fun y =>
 .call (ah9 (y.1, !s.2.1 == o.2.1, ())) Dd5 fun y1 =>
 .ok (((y1.1.1, y1.1.2.1, ()), ()))
def aFF : LTab := []
def an7 (n : List Int × Bool × Unit) (m : List Int) : TT tx :=
 .call (acB (n.1, m, ())) Dd0 fun y =>
 .call (aa9 (y.1, n.2.1, ())) Dd5 fun y1 =>
 .ok (((y1.1.1, y1.1.2.1, ()), ()))
def aIL : LTab := []
def arS (n : List Int × Bool × Unit) (d : List Int) : TT tx :=
 .call (abC (n.1, d, ())) Dd4 fun y =>
 .ite (n.2.1)
 (.call (ac6 (y.2.1, ())) Dd1 fun y1 =>
 .ite (!y1.1)
 (.call (alU (y.1, [1], ())) Dd0 fun y2 =>
 .call (aa9 (y2.1, n.2.1, ())) Dd5 fun y3 =>
 .ok (((y3.1.1, y3.1.2.1, ()), ())))
 (.call (aa9 (y.1, n.2.1, ())) Dd5 fun y4 =>
 .ok (((y4.1.1, y4.1.2.1, ()), ()))))
 (.call (aa9 (y.1, n.2.1, ())) Dd5 fun y5 =>
 .ok (((y5.1.1, y5.1.2.1, ()), ())))
def aIO : LTab := []
def az4 (a : List UInt8) : TT tx :=
 .call (abX (a, #[45].toList, ())) Dd7 fun y =>
 .call (ag2 (y.1, ())) Dd0 fun y1 =>
 .ok (((y1.1, y.2.1, ()), ()))
def aFV : LTab := []
def aoB (s : List UInt8) (prefix0 : List UInt8) : TT (List UInt8 × Bool × Unit) :=
 .tt <| .tt <| .tt <| .tt <| .ite (decide (len s ≥ len prefix0))
 (.need (inc (len prefix0) (len s)) <| .ite (!List.take (Int.toNat (len prefix0)) s == prefix0)
 (.ok ((s, false, ())))
 (.need (inc (len prefix0) (len s)) <| .ok ((List.take (List.length s - Int.toNat (len prefix0)) (List.drop (Int.toNat (len prefix0)) s), true, ()))))
 (.ok ((s, false, ())))
def aIy : LTab := []
def arN (x : ur × List Int × Unit) : TT uD :=
 .call (ahQ (x.1.1, ())) Dd6 fun y =>
 .ite (decide (y.1 > 600))
 (.ok (((#[].toList, #[].toList, ()), 6, ())))
 (.call (ahQ (x.2.1, ())) Dd6 fun y1 =>
 .ite (decide (y1.1 > 600))
 (.ok (((#[].toList, #[].toList, ()), 6, ())))
 (.call (ajI ((x.1.1, x.1.2.1, ()), ())) Dd2 fun y2 =>
 .call (ahR (x.2.1, ())) Dd2 fun y3 =>
 .ok (((y2.1, y3.1, ()), 0, ()))))
def aFG : LTab := []
def an8 (n : List Int × Bool × Unit) (d : List Int) : TT tc :=
 .call (agX (n.1, d, ())) Dd0 fun y =>
 .call (abC (n.1, y.1, ())) Dd4 fun y1 =>
 .call (abC (d, y.1, ())) Dd4 fun y2 =>
 .call (aa9 (y1.1, n.2.1, ())) Dd5 fun y3 =>
 .ok ((((y3.1.1, y3.1.2.1, ()), y2.1, ()), ()))
def aDt : LTab := []
def as2 (x : ur × List Int × Unit) : TT tc :=
 .call (afF ((x.1.1, x.1.2.1, ()), ())) Dd5 fun y =>
 .ok ((((y.1.1, y.1.2.1, ()), x.2.1, ()), ()))
def aOq : LTab := []
def aBj (x : ur × List Int × Unit) (y : ur × List Int × Unit) : TT tc :=
 .call (agX (x.2.1, y.2.1, ())) Dd0 fun y1 =>
 .call (abC (y.2.1, y1.1, ())) Dd4 fun y2 =>
 .call (abC (x.2.1, y1.1, ())) Dd4 fun y3 =>
 .call (adP ((x.1.1, x.1.2.1, ()), y2.1, ())) Dd5 fun y4 =>
 .call (adP ((y.1.1, y.1.2.1, ()), y3.1, ())) Dd5 fun y5 =>
 .call (am2 (y4.1, y5.1, ())) Dd5 fun y6 =>
 .call (agX (y6.1.1, y1.1, ())) Dd0 fun y7 =>
 .call (abC (y6.1.1, y7.1, ())) Dd4 fun y8 =>
 .call (abC (y.2.1, y7.1, ())) Dd4 fun y9 =>
 .call (aa9 (y8.1, y6.1.2.1, ())) Dd5 fun y10 =>
 .call (acB (y3.1, y9.1, ())) Dd0 fun y11 =>
 .ok ((((y10.1.1, y10.1.2.1, ()), y11.1, ()), ()))
def aOo : LTab := []
def aG2 (x : ur × List Int × Unit) (y : ur × List Int × Unit) : TT tc :=
 .call (aiB (((y.1.1, y.1.2.1, ()), y.2.1, ()), ())) Dd8 fun y1 =>
 .call (aqF (((x.1.1, x.1.2.1, ()), x.2.1, ()), y1.1, ())) Dd8 fun y2 =>
 .ok ((((y2.1.1.1, y2.1.1.2.1, ()), y2.1.2.1, ()), ()))
def aOp : LTab := []
def aBi (x : ur × List Int × Unit) (y : ur × List Int × Unit) : TT tc :=
 .call (agX (x.1.1, y.2.1, ())) Dd0 fun y1 =>
 .call (agX (y.1.1, x.2.1, ())) Dd0 fun y2 =>
 .call (abC (x.1.1, y1.1, ())) Dd4 fun y3 =>
 .call (abC (x.2.1, y2.1, ())) Dd4 fun y4 =>
 .call (abC (y.1.1, y2.1, ())) Dd4 fun y5 =>
 .call (abC (y.2.1, y1.1, ())) Dd4 fun y6 =>
 .call (acB (y3.1, y5.1, ())) Dd0 fun y7 =>
 .call (aa9 (y7.1, !x.1.2.1 == y.1.2.1, ())) Dd5 fun y8 =>
 .call (acB (y4.1, y6.1, ())) Dd0 fun y9 =>
 .ok ((((y8.1.1, y8.1.2.1, ()), y9.1, ()), ()))
def aDu : LTab := []
def as3 (x : ur × List Int × Unit) : TT tc :=
 .call (aa9 (x.2.1, x.1.2.1, ())) Dd5 fun y =>
 .ok ((((y.1.1, y.1.2.1, ()), x.1.1, ()), ()))
def aIA : LTab := []
def arO (x : ur × List Int × Unit) (y : ur × List Int × Unit) : TT uK :=
 .call (adP ((x.1.1, x.1.2.1, ()), y.2.1, ())) Dd5 fun y1 =>
 .call (adP ((y.1.1, y.1.2.1, ()), x.2.1, ())) Dd5 fun y2 =>
 .call (afF (y2.1, ())) Dd5 fun y3 =>
 .call (am2 (y1.1, y3.1, ())) Dd5 fun y4 =>
 .call (ajJ (y4.1, ())) Dd6 fun y5 =>
 .ok ((y5.1, ()))
def aLz : LTab := []
def avV (x : ur × List Int × Unit) (scale : List Int) : TT tx :=
 .call (acB (scale, [2], ())) Dd0 fun y =>
 .call (adP ((x.1.1, x.1.2.1, ()), y.1, ())) Dd5 fun y1 =>
 .call (aa9 (x.2.1, false, ())) Dd5 fun y2 =>
 .call (am2 (y1.1, y2.1, ())) Dd5 fun y3 =>
 .call (acB (x.2.1, [2], ())) Dd0 fun y4 =>
 .call (ajK ((y3.1.1, y3.1.2.1, ()), y4.1, ())) Dd5 fun y5 =>
 .ok (((y5.1.1, y5.1.2.1, ()), ()))
def aJM : LTab := []
def auI (s : List Int × Bool × Unit) : TT tj :=
 .call (akG (s.1, ())) Dd6 fun y =>
 .ite (decide (y.1 > 600))
 (.ok ((#[].toList, 6, ())))
 (.ite (s.2.1)
 (.call (akI (s.1, ())) Dd2 fun y1 =>
 .need (List.length #[45].toList + List.length y1.1 ≤ lim) <| .ok ((#[45].toList ++ y1.1, 0, ())))
 (.call (akI (s.1, ())) Dd2 fun y2 =>
 .ok ((y2.1, 0, ()))))
end
theorem aAL {p q : Int × Int} (h : (sg p.1, sg p.2, ()) = (sg q.1, sg q.2, ())) : p = q := by
 obtain ⟨h1, h2⟩ := Prod.mk.inj h
 obtain ⟨h2, -⟩ := Prod.mk.inj h2
 exact Prod.ext (aoU h1) (aoU h2)
theorem aEK {p q : Int × Nat} (h : (sg p.1, mag p.2, ()) = (sg q.1, mag q.2, ())) : p = q := by
 obtain ⟨h1, h2⟩ := Prod.mk.inj h
 obtain ⟨h2, -⟩ := Prod.mk.inj h2
 exact Prod.ext (aoU h1) (adK h2)
theorem atZ {p q : Rat × Rat} (h : (rt p.1, rt p.2, ()) = (rt q.1, rt q.2, ())) : p = q := by
 obtain ⟨h1, h2⟩ := Prod.mk.inj h
 obtain ⟨h2, -⟩ := Prod.mk.inj h2
 exact Prod.ext (ay3 h1) (ay3 h2)
theorem aPq {p q : Rat × Nat} (h : (rt p.1, mag p.2, ()) = (rt q.1, mag q.2, ())) : p = q := by
 obtain ⟨h1, h2⟩ := Prod.mk.inj h
 obtain ⟨h2, -⟩ := Prod.mk.inj h2
 exact Prod.ext (ay3 h1) (adK h2)
theorem aDE (m : List Int) (negative : Bool) (y) (h : aa9 (m, negative, ()) = some y) : (az3 m negative).toO = some y := by
 injection h with h
 subst h
 cases negative
 ·rfl
 ·exact uT rfl (uC (len m == 0, ()) rfl rfl)
theorem abU {n : Nat} {b : Bool} {w : Int} (hn : n = w.natAbs) (hb : w = 0 ∨ b = decide (w < 0)) : aa9 (mag n, b, ()) = some (sg w, ()) := by
 subst hn
 unfold aa9 sg
 rcases hb with rfl | rfl
 ·simp [mag_zero, len]
 ·by_cases h0 : w = 0
  ·subst h0; simp
  ·have : (len (mag w.natAbs) == 0) = false := by
    have h1 : mag w.natAbs ≠ [] := fun h2 => by have := mag_nil_iff.1 h2; omega
    have h3 : (mag w.natAbs).length ≠ 0 := fun h2 => h1 (zU.1 h2)
    rw [aaC, beq_eq_false_iff_ne]; omega
   simp only [this, wJ, Bool.and_true]
theorem aM7 (m : List Int) (negative : Bool) (y) (h : ah9 (m, negative, ()) = some y) : (aOV m negative).toO = some y := by
 injection h with h
 subst h
 cases negative
 ·rfl
 ·exact uT rfl (uC (len m == 0, ()) rfl rfl)
theorem aAn {n : Nat} {b : Bool} {w : Int} (hn : n = w.natAbs) (hb : w = 0 ∨ b = decide (w < 0)) : ah9 (mag n, b, ()) = some (sg w, ()) := by
 subst hn
 unfold ah9 sg
 rcases hb with rfl | rfl
 ·simp [mag_zero, len]
 ·by_cases h0 : w = 0
  ·subst h0; simp
  ·have : (len (mag w.natAbs) == 0) = false := by
    have h1 : mag w.natAbs ≠ [] := fun h2 => by have := mag_nil_iff.1 h2; omega
    have h3 : (mag w.natAbs).length ≠ 0 := fun h2 => h1 (zU.1 h2)
    rw [aaC, beq_eq_false_iff_ne]; omega
   simp only [this, wJ, Bool.and_true]
theorem aqO {a : Int} (h1 : Bd 8 a.natAbs) : afF (sg a, ()) = some (sg (-a), ()) := aaI (enc := fun x : Int => (sg x, ())) a h1 (fun b hb => aoU (Prod.mk.inj hb).1)
theorem aB5 {a b : Int} (h1 : Bd 7 a.natAbs) (h2 : Bd 7 b.natAbs) : am2 (sg a, sg b, ()) = some (sg (a + b), ()) := aaI (enc := fun x : Int × Int => (sg x.1, sg x.2, ())) (a, b) ⟨h1, h2⟩ (fun b hb => aAL hb)
theorem av8 (n : SgT) (y) (h : afF (n, ()) = some y) : (apK n).toO = some y := by
 obtain ⟨a, hp, hx, rfl⟩ := aaE h
 obtain ⟨rfl, -⟩ := Prod.mk.inj hx
 refine uC (sg (-a), ()) (abU zc ?_) rfl
 by_cases h0 : a = 0
 ·left; omega
 ·right
  show (!decide (a < 0)) = decide (-a < 0)
  by_cases h1 : a < 0
  ·rw [zo h1, zn zc]; rfl
  ·rw [zn h1, zo zc]; rfl
theorem aIK (n o : SgT) (y) (h : am2 (n, o, ()) = some y) : (aBm n o).toO = some y := by
 obtain ⟨⟨a, b⟩, hp, hx, rfl⟩ := aaE h
 obtain ⟨rfl, hx2⟩ := Prod.mk.inj hx; obtain ⟨rfl, -⟩ := Prod.mk.inj hx2; dsimp only
 obtain ⟨l1, l2⟩ := hp
 simp only at l1 l2
 unfold aBm
 dsimp only
 by_cases hs : (decide (a < 0) == decide (b < 0)) = true
 ·refine uT hs ?_
  have hs' : (a < 0 ↔ b < 0) := by simpa using hs
  refine uC _ (aEh (aaH l1 zc) (aaH l2 zc)) ?_
  refine uC (sg (a + b), ()) (abU zc (Or.inr ?_)) rfl
  exact decide_eq_decide.2 zc
 ·have hs' : ¬ (a < 0 ↔ b < 0) := by simpa using hs
  refine uF (by simpa using hs) ?_
  refine uC _ (atK (aaH l1 zc) (aaH l2 zc)) ?_
  by_cases hc : a.natAbs < b.natAbs
  ·refine uT ?_ ?_
   ·unfold atE; rw [if_pos zc]; rfl
   ·refine uC _ (aAr (aaH l2 zc) zc) ?_
    refine uC (sg (a + b), ()) (abU zc (Or.inr ?_)) rfl
    exact decide_eq_decide.2 zc
  ·refine uF ?_ ?_
   ·unfold atE
    rw [if_neg zc]
    split <;> rfl
   ·refine uC _ (aAr (aaH l1 zc) zc) ?_
    refine uC (sg (a + b), ()) (abU zc ?_) rfl
    by_cases h0 : a + b = 0
    ·exact Or.inl h0
    ·exact Or.inr (decide_eq_decide.2 zc)
theorem aB0 {a : Int} (h1 : Bd 8 a.natAbs) : ap2 (sg a, ()) = some (sg (-a), ()) := aaI (enc := fun x : Int => (sg x, ())) a h1 (fun b hb => aoU (Prod.mk.inj hb).1)
theorem aOP {a b : Int} (h1 : Bd 7 a.natAbs) (h2 : Bd 7 b.natAbs) : aHh (sg a, sg b, ()) = some (sg (a + b), ()) := aaI (enc := fun x : Int × Int => (sg x.1, sg x.2, ())) (a, b) ⟨h1, h2⟩ (fun b hb => aAL hb)
theorem axU {a : Int} (h1 : Bd 8 a.natAbs) : ajJ (sg a, ()) = some (a.sign, ()) := aaI (enc := fun x : Int => (sg x, ())) a h1 (fun b hb => aoU (Prod.mk.inj hb).1)
theorem aFE (n : SgT) (y) (h : ajJ (n, ()) = some y) : (av7 n).toO = some y := by
 obtain ⟨a, hp, hx, rfl⟩ := aaE h
 obtain ⟨rfl, -⟩ := Prod.mk.inj hx
 unfold av7
 dsimp only
 refine uC _ (aqN _) ?_
 rcases xF a 0 with h0 | h0 | h0
 ·refine uF zh (uT zh ?_)
  rw [xq h0]; rfl
 ·subst h0; exact uT zi rfl
 ·refine uF zh (uF zh ?_)
  rw [xN h0]; rfl
theorem axT {a : Int} (h1 : Bd 0 a.natAbs) : ajI (sg a, ()) = some (dec a, ()) := aaI (enc := fun x : Int => (sg x, ())) a h1 (fun b hb => aoU (Prod.mk.inj hb).1)
theorem aHa {n : Nat} (h : Bd 0 n) : (aa2 n).length ≤ 9000001 := by
 have := aiP (k := 1000000 * 4 ^ 0) h
 omega
theorem aFD (n : SgT) (y) (h : ajI (n, ()) = some y) : (av6 n).toO = some y := by
 obtain ⟨a, hp, hx, rfl⟩ := aaE h
 obtain ⟨rfl, -⟩ := Prod.mk.inj hx
 unfold av6
 dsimp only
 have hl := aHa hp
 by_cases h0 : a < 0
 ·refine uT zh (uC _ (aoM hp) (uN ?_ ?_))
  ·show 1 + (aa2 a.natAbs).length ≤ lim
   unfold lim; omega
  ·rw [ahJ h0]; rfl
 ·refine uF zh (uC _ (aoM hp) ?_)
  rw [acA zc]; rfl
theorem ahT {a : Int} {b : Nat} (h1 : Bd 7 a.natAbs) (h2 : Bd 7 b) : adP (sg a, mag b, ()) = some (sg (a * b), ()) := aaI (enc := fun x : Int × Nat => (sg x.1, mag x.2, ())) (a, b) ⟨h1, h2⟩ (fun b hb => aEK hb)
theorem aBn (n : SgT) (m : List Int) (y) (h : adP (n, m, ()) = some y) : (an7 n m).toO = some y := by
 obtain ⟨⟨a, b⟩, hp, hx, rfl⟩ := aaE h
 obtain ⟨rfl, hx2⟩ := Prod.mk.inj hx; obtain ⟨rfl, -⟩ := Prod.mk.inj hx2; dsimp only
 obtain ⟨l1, l2⟩ := hp
 simp only at l1 l2
 unfold an7
 dsimp only
 refine uC _ (ag3 (aaH l1 zc) (aaH l2 zc)) ?_
 refine uC (sg (a * b), ()) (abU (by rw [yF]; rfl) ?_) rfl
 rcases zF b with h0 | h0
 ·left; subst h0; simp
 ·right
  refine decide_eq_decide.2 ⟨fun h => xY h zc, fun h => ?_⟩
  rcases zQ a 0 with h2 | h2
  ·exact h2
  ·have := zZ h2 (show (0 : Int) ≤ b by omega); omega
theorem arQ {a : Int} {d : Nat} (ha : a < 0) (hd : d ≠ 0) : a / (d : Int) = -((if a.natAbs % d = 0 then a.natAbs / d else a.natAbs / d + 1 : Nat) : Int) := by
 obtain ⟨n, hn⟩ : ∃ n : Nat, a = -(n : Int) := ⟨a.natAbs, by omega⟩
 subst hn
 rw [xH, zN]
 have e := xU n d
 have hlt := yU n (show 0 < d by omega)
 generalize hq : n / d = q at e
 generalize hr : n % d = r at e hlt
 by_cases h0 : r = 0
 ·rw [if_pos h0]
  have : -(n : Int) = -(q : Int) * d := by
   rw [← e, h0]; simp; grind
  rw [this, Int.mul_ediv_cancel _ zc]
 ·rw [if_neg h0]
  have h1 : -(n : Int) = ((d : Int) - r) + (-((q + 1 : Nat) : Int)) * d := by
   rw [← e]; simp; grind
  rw [h1, Int.add_mul_ediv_right _ _ zc, xo zc zc, vk]
theorem aAs {a : Int} {b : Nat} (h1 : Bd 7 a.natAbs) (h2 : Bd 7 b) (h3 : b ≠ 0) : ajK (sg a, mag b, ()) = some (sg (a / b), ()) := aaI (enc := fun x : Int × Nat => (sg x.1, mag x.2, ())) (a, b) ⟨h1, h2, h3⟩ (fun b hb => aEK hb)
theorem arG : mag 1 = [1] := apB zc zc
theorem aPP : mag 2 = [2] := apB zc zc
theorem aDB (n : SgT) (d : List Int) (y) (h : ajK (n, d, ()) = some y) : (arS n d).toO = some y := by
 obtain ⟨⟨a, b⟩, hp, hx, rfl⟩ := aaE h
 obtain ⟨rfl, hx2⟩ := Prod.mk.inj hx; obtain ⟨rfl, -⟩ := Prod.mk.inj hx2; dsimp only
 obtain ⟨l1, l2, l3⟩ := hp
 simp only at l1 l2 l3
 unfold arS
 dsimp only
 refine uC _ (ab3 (aaH l1 zc) (aaH l2 zc) l3) ?_
 by_cases ha : a < 0
 ·refine uT zh ?_
  refine uC _ (aqN _) ?_
  have hf := arQ ha l3
  have hbd := aaS b l1
  generalize a.natAbs / b = q at hf hbd
  generalize hrr : a.natAbs % b = r at hf
  by_cases hr : r = 0
  ·rw [if_pos hr] at hf
   refine uF zh ?_
   refine uC (sg (a / b), ()) (abU (n := q) zc ?_) rfl
   by_cases h0 : a / (b : Int) = 0
   ·exact Or.inl h0
   ·exact Or.inr (decide_eq_decide.2 zc)
  ·rw [if_neg hr] at hf
   refine uT zh ?_
   have := aEh (a := q) (b := 1) (aaH hbd zc) (aaH (aaG zc) zc)
   rw [arG] at this
   refine uC _ this ?_
   refine uC (sg (a / b), ()) (abU (n := q + 1) zc (Or.inr (decide_eq_decide.2 zc))) rfl
 ·refine uF zh ?_
  obtain ⟨n, rfl⟩ := zv (show 0 ≤ a by omega)
  have hdv : ((n : Int) / (b : Int)) = ((n / b : Nat) : Int) := zi
  rw [hdv]
  refine uC (sg ((n / b : Nat) : Int), ()) (abU (n := n / b) rfl (Or.inr (decide_eq_decide.2 ?_))) rfl
  generalize n / b = q
  omega
theorem aBG (s p : List UInt8) (hs : s.length ≤ 4611686018427387904) (y) (h : abX (s, p, ()) = some y) : (aoB s p).toO = some y := by
 injection h with h
 subst h
 unfold aoB
 dsimp only
 rcases zr s.length p.length with hl | hl
 ·repeat refine za ?_
  have : p.isPrefixOf s = false := by
   cases hp : p.isPrefixOf s with
   | false => rfl
   | true => have := (wV.1 hp).length_le; omega
  simp [this, aaK]
 ·refine uV (uV (uV (uV (uT sd (uN sd ?_)))))
  simp only [aaC, zp]
  by_cases hp : p.isPrefixOf s = true
  ·have h2 := List.prefix_iff_eq_take.1 (wV.1 hp)
   refine uF (by rw [← h2]; simp) (uN sd ?_)
   rw [if_pos hp, zz zi]; rfl
  ·refine uT ?_ ?_
   ·simp only [zR, beq_eq_false_iff_ne]
    intro h2
    exact hp (wV.2 (List.prefix_iff_eq_take.2 h2.symm))
   ·rw [if_neg hp]; rfl
theorem aEi (z : Int) : abX (dec z, #[45].toList, ()) = some (aa2 z.natAbs, decide (z < 0), ()) := by
 unfold abX
 show some (if [45].isPrefixOf (dec z) = true then _ else _) = _
 by_cases h : z < 0
 ·rw [ahJ h, zo h]
  simp [List.isPrefixOf]
 ·rw [acA zc, zn h]
  have : [45].isPrefixOf (aa2 z.natAbs) = false := by
   have := adE z.natAbs
   cases hd : aa2 z.natAbs with
   | nil => rfl
   | cons a l =>
    rw [hd] at this
    simp only [vj, ne_eq, Option.some.injEq] at this
    simp [List.isPrefixOf, Ne.symm this]
  rw [this]; simp
theorem am6 {z : Int} (h : Bd 7 z.natAbs) : afX (dec z, ()) = some (sg z, ()) := aaI (enc := fun x : Int => (dec x, ())) z h (fun b hb => aj6 (Prod.mk.inj hb).1)
theorem aDF (a : List UInt8) (y) (h : afX (a, ()) = some y) : (az4 a).toO = some y := by
 obtain ⟨z, hp, hx, rfl⟩ := aaE h
 obtain ⟨rfl, -⟩ := Prod.mk.inj hx
 exact uC _ (aEi z) (uC _ (aJy (aaH hp zc)) rfl)
end Go.Vs
