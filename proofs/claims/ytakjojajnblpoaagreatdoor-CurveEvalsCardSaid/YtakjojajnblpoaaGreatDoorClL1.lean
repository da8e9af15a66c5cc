/-
  Trees of what the functions compute, and their laws. Own work; no condition.
-/
import Derived.Test.YtakjojajnblpoaaGreatDoorClX1
import Derived.Test.YtakjojajnblpoaaGreatDoorProg
set_option linter.unusedVariables false
set_option linter.unusedSimpArgs false
set_option maxRecDepth 100000
namespace Go.Vs
open Go Go.Vg Go.Proofs
noncomputable section
def aOp : LTab := []
def aqX (m : List Int) : TT ux :=
 .ok ((len m == 0, ()))
def aOq : LTab := [(207, 12, 1025, ⟨0, (List Int) × Unit, .dat (.s 0) uX <| .nil, [2], [], 0⟩)]
def aBo (m : List Int) (i : (List Int) × Unit) : TT (tH ⊕ uo) :=
 .ite (decide (len i.1 > 0))
 (.need (inb (w64 (len i.1 - 1)) (len i.1)) <| .ite (gi i.1 (w64 (len i.1 - 1)) 0 == 0)
 (.need (inc (w64 (len i.1 - 1)) (len i.1)) <| .tt <| .lt (List.take (Int.toNat (w64 (len i.1 - 1))) i.1 : List Int) fun z => .vL (vM z <| True ∧ True) <| .tr <| .ok (.inl ((z, ()))))
 (.ok (.inr ((i.1, ())))))
 (.ok (.inr ((i.1, ()))))
def ax5 (m : List Int) : TT uo :=
 .loop 0 (.tt <| .vL (vM m <| True ∧ True) <| .tr <| .ok ((m, ()))) (aBo m)
def aK6 : LTab := [(175, 58, 6144, ⟨0, (Int) × (Int) × Unit, .dat (.s 4) ud <| .dat (.s 3) uD <| .nil, [2, 0], [], 0⟩)]
def ax8 (m : List Int) (i : (Int) × (Int) × Unit) : TT (uz ⊕ uA) :=
 .ite (decide (i.1 ≥ 0))
 (.need (inb i.1 (len m)) <| .tt <| .lt (w64 (i.1 - 1) : Int) fun z1 => .lt (abU (abU (i.2.1 * 1000000000) + abU (gi m i.1 0)) : Int) fun z2 => .vL (vN z2 z1 (0 : Int) m) <| .tr <| .ok (.inl ((z1, z2, ()))))
 (.ok (.inr ((i.2.1, ()))))
def aBp (m : List Int) : TT uA :=
 .loop 0 (.tt <| .lt (w64 (len m - 1) : Int) fun z => .vL (vN (0 : Int) z (0 : Int) m) <| .tr <| .ok ((z, 0, ()))) (ax8 m)
def aFj : LTab := [(141, 58, 10240, ⟨0, (Int) × Unit, .dat (.s 5) ud <| .nil, [0, 1], [], 0⟩)]
def aq1 (m : List Int) (o : List Int) (i : (Int) × Unit) : TT (uG ⊕ uA) :=
 .ite (decide (i.1 ≥ 0))
 (.need (inb i.1 (len m)) <| .need (inb i.1 (len o)) <| .ite (gi m i.1 0 != gi o i.1 0)
 (.need (inb i.1 (len m)) <| .need (inb i.1 (len o)) <| .tt <| .tt <| .tt <| .tt <| .tt <| .tt <| .ite (gi m i.1 0 != gi m i.1 0)
 (.ite (gi o i.1 0 != gi o i.1 0)
 (.ok (.inr ((0, ()))))
 (.ok (.inr ((-1, ())))))
 (.ite (gi o i.1 0 != gi o i.1 0)
 (.ok (.inr ((1, ()))))
 (.ite (decide (gi m i.1 0 < gi o i.1 0))
 (.ok (.inr ((-1, ()))))
 (.ite (decide (gi m i.1 0 > gi o i.1 0))
 (.ok (.inr ((1, ()))))
 (.ok (.inr ((0, ()))))))))
 (.tt <| .lt (w64 (i.1 - 1) : Int) fun z1 => .vL (vO z1 m o) <| .tr <| .ok (.inl ((z1, ())))))
 (.ok (.inr ((0, ()))))
def ai0 (m : List Int) (o : List Int) : TT uA :=
 .ite (len m != len o)
 (.tt <| .tt <| .tt <| .tt <| .tt <| .tt <| .ite (len m != len m)
 (.ite (len o != len o)
 (.ok ((0, ())))
 (.ok ((-1, ()))))
 (.ite (len o != len o)
 (.ok ((1, ())))
 (.ite (decide (len m < len o))
 (.ok ((-1, ())))
 (.ite (decide (len m > len o))
 (.ok ((1, ())))
 (.ok ((0, ())))))))
 (.loop 0 (.tt <| .lt (w64 (len m - 1) : Int) fun z => .vL (vO z m o) <| .tr <| .ok ((z, ()))) (aq1 m o))
def aOr : LTab := [(181, 3, 1025, ⟨0, (List Int) × (List Int) × Unit, .dat (.s 0) uX <| .dat (.s 1) uX <| .nil, [4], [], 0⟩), (181, 250, 10241, ⟨1, (Int) × (Int) × (List Int) × Unit, .dat (.s 22) ud <| .dat (.s 6) uj <| .app (.s 5) 10 189 uj <| .nil, [21, 20, 1, 4], [], 1⟩)]
def aBq (m : List Int) (o : List Int) (j : List Int × List Int × Unit) (i : (Int) × (Int) × (List Int) × Unit) : TT (uH ⊕ uo) :=
 .ite (decide (i.1 < len j.1))
 (.need (inb i.1 (len j.1)) <| .ite (decide (i.1 < len j.2.1))
 (.need (inb i.1 (len j.2.1)) <| .ite (decide (aeH (aeH (gi j.1 i.1 0 + i.2.1) + gi j.2.1 i.1 0) ≥ 1000000000))
 (.need ((List.length i.2.2.1 + 1) * 4 ≤ 140737488355328) <| .tt <| .lt (w64 (i.1 + 1) : Int) fun z1 => .lt (List.take (List.length i.2.2.1) i.2.2.1 ++ [aeH (aeH (aeH (gi j.1 i.1 0 + i.2.1) + gi j.2.1 i.1 0) - 1000000000)] : List Int) fun z2 => .need ((((10) = (10)) ∧ (((0) = (0)) ∧ ((List.length i.2.2.1 + 1 = List.length z2) ∧ ((true) = (true))))) ∧ ((1 : Int) = 1) ∧ ((z1 : Int) = z1) ∧ ((len j.1 : Int) = len j.1) ∧ ((j.1 : List Int) = j.1) ∧ ((j.2.1 : List Int) = j.2.1) ∧ True ∧ True) <| .vL (vK (vP 189 z2) True) <| .ok (.inl ((z1, 1, z2, ()))))
 (.need ((List.length i.2.2.1 + 1) * 4 ≤ 140737488355328) <| .tt <| .lt (w64 (i.1 + 1) : Int) fun z3 => .lt (List.take (List.length i.2.2.1) i.2.2.1 ++ [aeH (aeH (gi j.1 i.1 0 + i.2.1) + gi j.2.1 i.1 0)] : List Int) fun z4 => .need ((((10) = (10)) ∧ (((0) = (0)) ∧ ((List.length i.2.2.1 + 1 = List.length z4) ∧ ((true) = (true))))) ∧ ((0 : Int) = 0) ∧ ((z3 : Int) = z3) ∧ ((len j.1 : Int) = len j.1) ∧ ((j.1 : List Int) = j.1) ∧ ((j.2.1 : List Int) = j.2.1) ∧ True ∧ True) <| .vL (vK (vP 189 z4) True) <| .ok (.inl ((z3, 0, z4, ())))))
 (.ite (decide (aeH (gi j.1 i.1 0 + i.2.1) ≥ 1000000000))
 (.need ((List.length i.2.2.1 + 1) * 4 ≤ 140737488355328) <| .tt <| .lt (w64 (i.1 + 1) : Int) fun z5 => .lt (List.take (List.length i.2.2.1) i.2.2.1 ++ [aeH (aeH (gi j.1 i.1 0 + i.2.1) - 1000000000)] : List Int) fun z6 => .need ((((10) = (10)) ∧ (((0) = (0)) ∧ ((List.length i.2.2.1 + 1 = List.length z6) ∧ ((true) = (true))))) ∧ ((1 : Int) = 1) ∧ ((z5 : Int) = z5) ∧ ((len j.1 : Int) = len j.1) ∧ ((j.1 : List Int) = j.1) ∧ ((j.2.1 : List Int) = j.2.1) ∧ True ∧ True) <| .vL (vK (vP 189 z6) True) <| .ok (.inl ((z5, 1, z6, ()))))
 (.need ((List.length i.2.2.1 + 1) * 4 ≤ 140737488355328) <| .tt <| .lt (w64 (i.1 + 1) : Int) fun z7 => .lt (List.take (List.length i.2.2.1) i.2.2.1 ++ [aeH (gi j.1 i.1 0 + i.2.1)] : List Int) fun z8 => .need ((((10) = (10)) ∧ (((0) = (0)) ∧ ((List.length i.2.2.1 + 1 = List.length z8) ∧ ((true) = (true))))) ∧ ((0 : Int) = 0) ∧ ((z7 : Int) = z7) ∧ ((len j.1 : Int) = len j.1) ∧ ((j.1 : List Int) = j.1) ∧ ((j.2.1 : List Int) = j.2.1) ∧ True ∧ True) <| .vL (vK (vP 189 z8) True) <| .ok (.inl ((z7, 0, z8, ()))))))
 (.ite (decide (i.2.1 > 0))
 (.need ((List.length i.2.2.1 + 1) * 4 ≤ 140737488355328) <| .ok (.inr ((List.take (List.length i.2.2.1 + 1) (List.take (List.length i.2.2.1) i.2.2.1 ++ [i.2.1]), ()))))
 (.ok (.inr ((List.take (List.length i.2.2.1) i.2.2.1, ())))))
def atM (m : List Int) (o : List Int) (j : (List Int) × (List Int) × Unit) : TT uo :=
 .need (asT Int 0 ≤ 0 ∧ 0 ≤ w64 (len j.1 + 1) ∧ w64 (len j.1 + 1) * (↑4 : Int) ≤ 140737488355328) <| .loop 1 (.tt <| .lt (List.replicate (Int.toNat 0) 0 : List Int) fun z => .vL ((vQ 10 0 0 true) ∧ (vR (0 : Int) (0 : Int) (len j.1) j.1 j.2.1 <| True ∧ True)) <| .vL (vK (vP 189 z) True) <| .ok ((0, 0, z, ()))) (aBq m o j)
def aqY (m : List Int) (o : List Int) : TT uo :=
 .join 0 (ι := (List Int) × (List Int) × Unit) (.ite (decide (len m < len o))
 (.tt <| .vL (vS m o <| True ∧ True) <| .tr <| .ok (.inl ((o, m, ()))))
 (.tt <| .vL (vS o m <| True ∧ True) <| .tr <| .ok (.inl ((m, o, ()))))) (atM m o)
def aK8 : LTab := [(219, 122, 9217, ⟨0, (Int) × (Int) × (List Int) × Unit, .dat (.s 15) ud <| .dat (.s 6) uj <| .row 3 uj <| .nil, [14, 13, 5, 4, 1], [3], 0⟩)]
def ayA (m : List Int) (o : List Int) (i : (Int) × (Int) × (List Int) × Unit) : TT (uH ⊕ uo) :=
 .ite (decide (i.1 < len m))
 (.need (inb i.1 (len m)) <| .ite (decide (i.1 < len o))
 (.need (inb i.1 (len o)) <| .ite (decide (gi m i.1 0 < aeH (i.2.1 + gi o i.1 0)))
 (.need (inb i.1 (↑(Int.toNat (len m)) : Int)) <| .tt <| .lt (w64 (i.1 + 1) : Int) fun z1 => .lt (List.set i.2.2.1 (0 + Int.toNat i.1) (aeH (aeH (gi m i.1 0 + 1000000000) - aeH (i.2.1 + gi o i.1 0))) : List Int) fun z2 => .vL (vT (1 : Int) z1 (len m) m <| (vQ 3 0 (Int.toNat (len m)) true) ∧ True ∧ vU o) <| .vL (vK (vP 189 z2) True) <| .ok (.inl ((z1, 1, z2, ()))))
 (.need (inb i.1 (↑(Int.toNat (len m)) : Int)) <| .tt <| .lt (w64 (i.1 + 1) : Int) fun z3 => .lt (List.set i.2.2.1 (0 + Int.toNat i.1) (aeH (gi m i.1 0 - aeH (i.2.1 + gi o i.1 0))) : List Int) fun z4 => .vL (vT (0 : Int) z3 (len m) m <| (vQ 3 0 (Int.toNat (len m)) true) ∧ True ∧ vU o) <| .vL (vK (vP 189 z4) True) <| .ok (.inl ((z3, 0, z4, ())))))
 (.ite (decide (gi m i.1 0 < i.2.1))
 (.need (inb i.1 (↑(Int.toNat (len m)) : Int)) <| .tt <| .lt (w64 (i.1 + 1) : Int) fun z5 => .lt (List.set i.2.2.1 (0 + Int.toNat i.1) (aeH (aeH (gi m i.1 0 + 1000000000) - i.2.1)) : List Int) fun z6 => .vL (vT (1 : Int) z5 (len m) m <| (vQ 3 0 (Int.toNat (len m)) true) ∧ True ∧ vU o) <| .vL (vK (vP 189 z6) True) <| .ok (.inl ((z5, 1, z6, ()))))
 (.need (inb i.1 (↑(Int.toNat (len m)) : Int)) <| .tt <| .lt (w64 (i.1 + 1) : Int) fun z7 => .lt (List.set i.2.2.1 (0 + Int.toNat i.1) (aeH (gi m i.1 0 - i.2.1)) : List Int) fun z8 => .vL (vT (0 : Int) z7 (len m) m <| (vQ 3 0 (Int.toNat (len m)) true) ∧ True ∧ vU o) <| .vL (vK (vP 189 z8) True) <| .ok (.inl ((z7, 0, z8, ()))))))
 (.call (acU (List.take (Int.toNat (len m)) i.2.2.1, ())) Dd0 fun y =>
 .ok (.inr ((y.1, ()))))
def an4 (m : List Int) (o : List Int) : TT uo :=
 .need (0 ≤ len m ∧ len m ≤ len m ∧ len m * (↑4 : Int) ≤ 140737488355328) <| .loop 0 (.tt <| .lt (List.replicate (Int.toNat (len m)) 0 : List Int) fun z => .vL (vT (0 : Int) (0 : Int) (len m) m <| (vQ 3 0 (Int.toNat (len m)) true) ∧ True ∧ vU o) <| .vL (vK (vP 189 z) True) <| .ok ((0, 0, z, ()))) (ayA m o)
def aK5 : LTab := [(180, 58, 11265, ⟨0, (Int) × (List Int) × Unit, .dat (.s 19) ud <| .row 6 uj <| .nil, [18, 17, 5, 4, 1], [6], 0⟩), (180, 59802, 21505, ⟨1, (Int) × (Int) × (List Int) × Unit, .dat (.s 26) ud <| .dat (.s 8) uD <| .row 6 uj <| .nil, [25, 24, 7, 6, 23, 22, 21, 20, 19, 18, 17, 5, 4, 1], [6], 0⟩)]
def apN (m : List Int) (o : List Int) (i : Int × List Int × Unit) (i1 : (Int) × (Int) × (List Int) × Unit) : TT (uH ⊕ tf) :=
 .ite (decide (i1.1 < len o))
 (.need (inb i1.1 (len o)) <| .need (inb (w64 (i.1 + i1.1)) (↑(Int.toNat (w64 (len m + len o))) : Int)) <| .triv (asT Int 1000000000 ≠ 0) zf <| .need (inb (w64 (i.1 + i1.1)) (↑(Int.toNat (w64 (len m + len o))) : Int)) <| .triv (asT Int 1000000000 ≠ 0) zf <| .tt <| .lt (w64 (i1.1 + 1) : Int) fun z2 => .lt (abU (Int.tdiv (abU (i1.2.1 + abU (abU (List.getD i1.2.2.1 (0 + Int.toNat (w64 (i.1 + i1.1))) 0) + abU (abU (gi m i.1 0) * abU (gi o i1.1 0))))) 1000000000) : Int) fun z3 => .lt (List.set i1.2.2.1 (0 + Int.toNat (w64 (i.1 + i1.1))) (aeH (Int.tmod (abU (i1.2.1 + abU (abU (List.getD i1.2.2.1 (0 + Int.toNat (w64 (i.1 + i1.1))) 0) + abU (abU (gi m i.1 0) * abU (gi o i1.1 0))))) 1000000000)) : List Int) fun z4 => .vL (vV z3 z2 (len o) o (gi m i.1 0) i.1 (gi m i.1 0) (gi m i.1 0) <| vR i.1 (decide (i.1 < len m)) i.1 (len m) m <| (vQ 6 0 (Int.toNat (w64 (len m + len o))) true) ∧ True ∧ vU o) <| .vL (vK (vP 189 z4) True) <| .ok (.inl ((z2, z3, z4, ()))))
 (.need (inb (w64 (i.1 + len o)) (↑(Int.toNat (w64 (len m + len o))) : Int)) <| .tt <| .lt (w64 (i.1 + 1) : Int) fun z5 => .lt (List.set i1.2.2.1 (0 + Int.toNat (w64 (i.1 + len o))) (aeH i1.2.1) : List Int) fun z6 => .vL (vW z5 (len m) m <| (vQ 6 0 (Int.toNat (w64 (len m + len o))) true) ∧ True ∧ vU o) <| .vL (vK (vP 189 z6) True) <| .ok (.inr (.inl ((z5, z6, ())))))
def ax7 (m : List Int) (o : List Int) (i : (Int) × (List Int) × Unit) : TT tf :=
 .ite (decide (i.1 < len m))
 (.need (inb i.1 (len m)) <| .loop 1 (.tt <| .lt (i.2.1 : List Int) fun z1 => .vL (vV (0 : Int) (0 : Int) (len o) o (gi m i.1 0) i.1 (gi m i.1 0) (gi m i.1 0) <| vR i.1 (decide (i.1 < len m)) i.1 (len m) m <| (vQ 6 0 (Int.toNat (w64 (len m + len o))) true) ∧ True ∧ vU o) <| .vL (vK (vP 189 z1) True) <| .ok ((0, 0, z1, ()))) (apN m o i))
 (.call (acU (List.take (Int.toNat (w64 (len m + len o))) i.2.1, ())) Dd0 fun y =>
 .ok (.inr ((y.1, ()))))
def an2 (m : List Int) (o : List Int) : TT uo :=
 .need (0 ≤ w64 (len m + len o) ∧ w64 (len m + len o) ≤ w64 (len m + len o) ∧ w64 (len m + len o) * (↑4 : Int) ≤ 140737488355328) <| .loop 0 (.tt <| .lt (List.replicate (Int.toNat (w64 (len m + len o))) 0 : List Int) fun z => .vL (vW (0 : Int) (len m) m <| (vQ 6 0 (Int.toNat (w64 (len m + len o))) true) ∧ True ∧ vU o) <| .vL (vK (vP 189 z) True) <| .ok ((0, z, ()))) (ax7 m o)
def aK7 : LTab := [(208, 122, 11265, ⟨0, (Int) × (Int) × (List Int) × Unit, .dat (.s 8) ud <| .dat (.s 7) uD <| .row 4 uj <| .nil, [6, 5, 4, 0, 1], [4], 0⟩)]
def apO (m : List Int) (d : Int) (i : (Int) × (Int) × (List Int) × Unit) : TT (uH ⊕ tN) :=
 .ite (decide (i.1 ≥ 0))
 (.need (inb i.1 (len m)) <| .need (abU d ≠ 0) <| .need (inb i.1 (↑(Int.toNat (len m)) : Int)) <| .need (abU d ≠ 0) <| .tt <| .lt (w64 (i.1 - 1) : Int) fun z2 => .lt (Int.tmod (abU (abU (i.2.1 * 1000000000) + abU (gi m i.1 0))) (abU d) : Int) fun z3 => .lt (List.set i.2.2.1 (0 + Int.toNat i.1) (aeH (abU (Int.tdiv (abU (abU (i.2.1 * 1000000000) + abU (gi m i.1 0))) (abU d)))) : List Int) fun z4 => .vL (vS z3 z2 <| (vQ 4 0 (Int.toNat (len m)) true) ∧ (vM (0 : Int) <| True ∧ vX m d)) <| .vL (vK (vP 189 z4) True) <| .ok (.inl ((z2, z3, z4, ()))))
 (.call (acU (List.take (Int.toNat (len m)) i.2.2.1, ())) Dd0 fun y =>
 .ok (.inr ((y.1, aeH i.2.1, ()))))
def an3 (m : List Int) (d : Int) : TT tN :=
 .need (0 ≤ len m ∧ len m ≤ len m ∧ len m * (↑4 : Int) ≤ 140737488355328) <| .loop 0 (.tt <| .lt (w64 (len m - 1) : Int) fun z => .lt (List.replicate (Int.toNat (len m)) 0 : List Int) fun z1 => .vL (vS (0 : Int) z <| (vQ 4 0 (Int.toNat (len m)) true) ∧ (vM (0 : Int) <| True ∧ vX m d)) <| .vL (vK (vP 189 z1) True) <| .ok ((z, 0, z1, ()))) (apO m d)
def aCX : LTab := [(176, 28, 2050, ⟨0, Bool × (List Int) × (Int) × Unit, .appN (.s 3) 2 189 uj <| .dat (.s 0) uD <| .nil, [2], [], 1⟩)]
def aeW (v : Int) (i : Bool × (List Int) × (Int) × Unit) : TT ((Bool × (List Int) × (Int) × Unit) ⊕ uo) :=
 .ite (i.1)
 (.ite (decide (i.2.2.1 > 0))
 (.triv (asT Int 1000000000 ≠ 0) zf <| .need (1 * 4 ≤ 140737488355328) <| .triv (asT Int 1000000000 ≠ 0) zf <| .tt <| .lt ([aeH (Int.tmod i.2.2.1 1000000000)] : List Int) fun z => .lt (abU (Int.tdiv i.2.2.1 1000000000) : Int) fun z1 => .vL (vM z1 <| (vQ 2 0 1 true) ∧ True ∧ True) <| .vL (vK (vP 189 z) True) <| .ok (.inl ((false, z, z1, ()))))
 (.ok (.inr (([], ())))))
 (.ite (decide (i.2.2.1 > 0))
 (.triv (asT Int 1000000000 ≠ 0) zf <| .need ((List.length i.2.1 + 1) * 4 ≤ 140737488355328) <| .triv (asT Int 1000000000 ≠ 0) zf <| .tt <| .lt (List.take (List.length i.2.1) i.2.1 ++ [aeH (Int.tmod i.2.2.1 1000000000)] : List Int) fun z2 => .lt (abU (Int.tdiv i.2.2.1 1000000000) : Int) fun z3 => .need (((z3 : Int) = z3) ∧ (((2) = (2)) ∧ (((0) = (0)) ∧ ((List.length i.2.1 + 1 = List.length z2) ∧ ((true) = (true))))) ∧ True ∧ True) <| .vL (vK (vP 189 z2) True) <| .ok (.inl ((false, z2, z3, ()))))
 (.ok (.inr ((List.take (List.length i.2.1) i.2.1, ())))))
def alC (v : Int) : TT uo :=
 .loop 0 (.tt <| .vL (vM v <| True ∧ True ∧ True) <| .tr <| .ok ((true, [], v, ()))) (aeW v)
def aLg : LTab := [(174, 218, 5122, ⟨0, (Int) × Bool × (List Int) × Unit, .dat (.s 4) ud <| .appN (.s 3) 5 189 uj <| .nil, [2, 0], [], 1⟩), (174, 55834, 13314, ⟨1, (Int) × (Int) × Unit, .dat (.s 7) ud <| .dat (.s 6) uj <| .nil, [15, 5, 14, 13, 12, 3, 4, 2, 0], [], 0⟩), (174, 55834, 13313, ⟨2, (Int) × (Int) × Unit, .dat (.s 7) ud <| .dat (.s 6) uj <| .nil, [15, 5, 14, 13, 12, 3, 4, 2, 0], [5], 0⟩)]
def alB (digits : List UInt8) (i : Int × Bool × List Int × Unit) (i1 : (Int) × (Int) × Unit) : TT (uz ⊕ (uJ ⊕ uo)) :=
 .ite (decide (i1.1 < i.1))
 (.need (inb i1.1 (len digits)) <| .tt <| .lt (w64 (i1.1 + 1) : Int) fun z1 => .lt (aeH (aeH (i1.2.1 * 10) + aeH (wu8 ((↑(UInt8.toNat (gi digits i1.1 0)) : Int) - 48))) : Int) fun z2 => .vL (vY z2 z1 (if 0 > w64 (i.1 - 9) then 0 else w64 (i.1 - 9) : Int) (if 0 > w64 (i.1 - 9) then 0 else w64 (i.1 - 9) : Int) (if 0 > w64 (i.1 - 9) then 0 else w64 (i.1 - 9) : Int) (w64 (i.1 - 9)) i.1 <| True ∧ (vM i.1 <| True ∧ vU digits)) <| .tr <| .ok (.inl ((z1, z2, ()))))
 (.need (1 * 4 ≤ 140737488355328) <| .ite ((if 0 > w64 (i.1 - 9) then 0 else w64 (i.1 - 9)) == 0)
 (.call (acU ([i1.2.1], ())) Dd0 fun y =>
 .ok (.inr (.inr ((y.1, ())))))
 (.tt <| .lt (w64 (i.1 - 9) : Int) fun z3 => .lt ([i1.2.1] : List Int) fun z4 => .vL (tY ∧ (vM z3 <| True ∧ vU digits)) <| .vL (vK (vP 189 z4) True) <| .ok (.inr (.inl ((z3, false, z4, ()))))))
def alA (digits : List UInt8) (i : Int × Bool × List Int × Unit) (i2 : (Int) × (Int) × Unit) : TT (uz ⊕ (uJ ⊕ uo)) :=
 .ite (decide (i2.1 < i.1))
 (.need (inb i2.1 (len digits)) <| .tt <| .lt (w64 (i2.1 + 1) : Int) fun z6 => .lt (aeH (aeH (i2.2.1 * 10) + aeH (wu8 ((↑(UInt8.toNat (gi digits i2.1 0)) : Int) - 48))) : Int) fun z7 => .vL (vY z7 z6 (if 0 > w64 (i.1 - 9) then 0 else w64 (i.1 - 9) : Int) (if 0 > w64 (i.1 - 9) then 0 else w64 (i.1 - 9) : Int) (if 0 > w64 (i.1 - 9) then 0 else w64 (i.1 - 9) : Int) (w64 (i.1 - 9)) i.1 <| (vQ 5 0 (List.length i.2.2.1) true) ∧ (vM i.1 <| True ∧ vU digits)) <| .vL (vK (vP 189 i.2.2.1) True) <| .ok (.inl ((z6, z7, ()))))
 (.need ((List.length i.2.2.1 + 1) * 4 ≤ 140737488355328) <| .ite ((if 0 > w64 (i.1 - 9) then 0 else w64 (i.1 - 9)) == 0)
 (.call (acU (List.take (List.length i.2.2.1 + 1) (List.take (List.length i.2.2.1) i.2.2.1 ++ [i2.2.1]), ())) Dd0 fun y1 =>
 .ok (.inr (.inr ((y1.1, ())))))
 (.tt <| .lt (w64 (i.1 - 9) : Int) fun z8 => .lt (List.take (List.length i.2.2.1) i.2.2.1 ++ [i2.2.1] : List Int) fun z9 => .need ((((5) = (5)) ∧ (((0) = (0)) ∧ ((List.length i.2.2.1 + 1 = List.length z9) ∧ ((true) = (true))))) ∧ ((z8 : Int) = z8) ∧ True ∧ ((digits) = (digits)) ∧ True) <| .vL (vK (vP 189 z9) True) <| .ok (.inr (.inl ((z8, false, z9, ()))))))
def apR (digits : List UInt8) (i : (Int) × Bool × (List Int) × Unit) : TT (uJ ⊕ uo) :=
 .ite (i.2.1)
 (.loop 1 (.tt <| .lt (if 0 > w64 (i.1 - 9) then 0 else w64 (i.1 - 9) : Int) fun z => .vL (vY (0 : Int) z z z z (w64 (i.1 - 9)) i.1 <| True ∧ (vM i.1 <| True ∧ vU digits)) <| .tr <| .ok ((z, 0, ()))) (alB digits i))
 (.loop 2 (.tt <| .lt (if 0 > w64 (i.1 - 9) then 0 else w64 (i.1 - 9) : Int) fun z5 => .vL (vY (0 : Int) z5 z5 z5 z5 (w64 (i.1 - 9)) i.1 <| (vQ 5 0 (List.length i.2.2.1) true) ∧ (vM i.1 <| True ∧ vU digits)) <| .vL (vK (vP 189 i.2.2.1) True) <| .ok ((z5, 0, ()))) (alA digits i))
def atQ (digits : List UInt8) : TT uo :=
 .loop 0 (.tt <| .vL (True ∧ (vM (len digits) <| True ∧ vU digits)) <| .tr <| .ok ((len digits, true, [], ()))) (apR digits)
def aHx : LTab := []
def ak7 (m : List Int) : TT uA :=
 .call (adQ (m, ())) Dd1 fun y =>
 .ite (y.1)
 (.ok ((1, ())))
 (.need (inb (w64 (len m - 1)) (len m)) <| .call (aBM (w64 (gi m (w64 (len m - 1)) 0), ())) Dd2 fun y1 =>
 .ok ((w64 (w64 (w64 (len m - 1) * 9) + len y1.1), ())))
def aQ9 : LTab := [(140, 12, 1025, ⟨0, (List Int) × (List Int) × Unit, .dat (.s 0) uX <| .dat (.s 1) uX <| .nil, [], [], 0⟩), (140, 196, 4096, ⟨1, (Bool) × Unit, .dat (.s 19) tK <| .nil, [1, 0], [], 0⟩), (140, 6292, 10240, ⟨2, (Int) × (Int) × Unit, .dat (.s 6) uD <| .dat (.s 5) uD <| .nil, [23, 22, 21, 20, 19, 1, 0], [], 0⟩)]
def aFh (m : List Int) (o : List Int) (i : List Int × List Int × Unit) (y : Bool × Unit) (j : Bool × Unit) (y1 : Int × Unit) (y2 : Int × Unit) (i1 : (Int) × (Int) × Unit) : TT (uz ⊕ (tl ⊕ uo)) :=
 .ite (decide (i1.1 > 0))
 (.need (i1.1 ≠ 0) <| .tt <| .lt (Int.tmod i1.2.1 i1.1 : Int) fun z1 => .vL (vV i1.1 z1 y2.1 i.2.1 y1.1 i.1 j.1 i.2.1 <| vU i.1) <| .tr <| .ok (.inl ((z1, i1.1, ()))))
 (.call (abT (i1.2.1, ())) Dd0 fun y3 =>
 .ok (.inr (.inr ((y3.1, ())))))
def ayB (m : List Int) (o : List Int) (i : List Int × List Int × Unit) (y : Bool × Unit) (j : (Bool) × Unit) : TT (tl ⊕ uo) :=
 .ite (j.1)
 (.call (aoK (i.1, ())) Dd3 fun y1 =>
 .call (aoK (i.2.1, ())) Dd3 fun y2 =>
 .loop 2 (.tt <| .vL (vV y1.1 y2.1 y2.1 i.2.1 y1.1 i.1 j.1 i.2.1 <| vU i.1) <| .tr <| .ok ((y2.1, y1.1, ()))) (aFh m o i y j y1 y2))
 (.call (abI (i.1, i.2.1, ())) Dd4 fun y4 =>
 .tt <| .lt (i.2.1 : List Int) fun z2 => .lt (y4.2.1 : List Int) fun z3 => .vL (vX z3 z2) <| .tr <| .ok (.inl ((z2, z3, ()))))
def aFi (m : List Int) (o : List Int) (i : (List Int) × (List Int) × Unit) : TT (tl ⊕ uo) :=
 .call (adQ (i.2.1, ())) Dd1 fun y =>
 .ite (!y.1)
 (.join 1 (ι := (Bool) × Unit) (.ite (decide (len i.1 ≤ 2))
 (.tt <| .lt (decide (len i.2.1 ≤ 2) : Bool) fun z => .vL (vO z i.2.1 i.1) <| .tr <| .ok (.inl ((z, ()))))
 (.tt <| .vL (vO false i.2.1 i.1) <| .tr <| .ok (.inl ((false, ()))))) (ayB m o i y))
 (.ok (.inr ((i.1, ()))))
def aCP (m : List Int) (o : List Int) : TT uo :=
 .loop 0 (.tt <| .vL (vX o m) <| .tr <| .ok ((m, o, ()))) (aFi m o)
end
open Go Go.Vg
theorem ax4 (m : List Int) (y) (h : adQ (m, ()) = some y) : (aqX m).toO = some y := by
 simpa [adQ, aqX, TT.toO] using h
theorem ax6 (m : List Int) (y) (h : acU (m, ()) = some y) : (ax5 m).toO = some y := by
 unfold acU at h
 split at h
 ·rename_i hp
  obtain ⟨hd, hl⟩ := hp
  simp only at hd hl
  injection h with h
  subst h
  refine uO (m, ()) rfl ?_
  refine aaL (fun i => Dg 1000000000 i.1 ∧ i.1.length ≤ 2000000000000 ∧ V 1000000000 i.1 = V 1000000000 m) (fun i => i.1.length) (fun _ => (mag (V 1000000000 m).toNat, ())) ?_ _ ⟨hd, hl, rfl⟩
  rintro ⟨l, u⟩ ⟨h1, h2, h3⟩
  simp only at h1 h2 h3
  have hfin : Cn l → l = mag (V 1000000000 m).toNat := fun hc => aqU h1 hc (by rw [h3]; have := aaT zc hd; omega)
  unfold aBo
  by_cases hz : l = []
  ·subst hz
   right
   repeat refine za ?_
   rw [← hfin avI]; rfl
  ·have hlen : 0 < l.length := ya.2 hz
   have hw : w64 (len l - 1) = ((l.length - 1 : Nat) : Int) := by rw [aaC]; simp (disch := omega) only [aaA]; omega
   have hg : gi l ((l.length - 1 : Nat) : Int) 0 = l[l.length - 1] := aTq rfl zc
   simp only [hw, hg]
   by_cases h0 : l[l.length - 1] = 0
   ·left
    refine ⟨(l.take (l.length - 1), ()), ?_, ⟨acI h1 _, ?_, ?_⟩, ?_, trivial⟩
    ·repeat refine za ?_
     rfl
    ·simp; omega
    ·have := alN 1000000000 (l := l) (i := l.length - 1) zc
     rw [h0, show l.length - 1 + 1 = l.length by omega, zt] at this
     rw [← h3, this]; simp
    ·simp; omega
   ·right
    repeat refine za ?_
    rw [← hfin (by unfold Cn; rw [yQ, zR zc]; simpa using h0)]; rfl
 ·cases h
theorem aFg (m : List Int) (y) (h : aoK (m, ()) = some y) : (aBp m).toO = some y := by
 obtain ⟨n, hn, hx, rfl⟩ := aaD h
 injection hx with hx
 subst hx
 have hl : (mag n).length ≤ 2 := mag_length_le_iff.2 zc
 have hd := ahD n
 have hV := am3 n
 refine uO (((mag n).length : Int) - 1, 0, ()) ?_ ?_
 ·repeat refine za ?_
  show some (w64 ((mag n).length - 1), (0 : Int), ()) = _
  rw [aaA (x := ((mag n).length : Int) - 1) zc]
 refine aaL (fun i => ∃ k : Nat, k ≤ (mag n).length ∧ i.1 = (k : Int) - 1 ∧ i.2.1 = V 1000000000 ((mag n).drop k)) (fun i => (i.1 + 1).toNat) (fun _ => ((n : Int), ())) ?_ _ ⟨_, zq _, rfl, by simp [V]⟩
 rintro ⟨i, v, u⟩ ⟨k, h1, h2, h3⟩
 simp only at h2 h3
 subst h2 h3
 unfold ax8
 rcases zD k with h0 | h0
 ·subst h0
  right
  repeat refine za ?_
  simp only [yN, hV]
  rfl
 ·left
  obtain ⟨j, rfl⟩ : ∃ j, k = j + 1 := ⟨k - 1, by omega⟩
  have e1 := aaU 1000000000 (mag n) j
  have e2 := aa3 zc hd j
  have e3 := aaT zc (acZ hd j)
  have e4 := aaT zc (acZ hd (j + 1))
  have e5 := aPA zc hd j
  have e6 : ((j + 1 : Nat) : Int) - 1 = (j : Int) := zc
  rw [e6]
  refine ⟨((j : Int) - 1, V 1000000000 ((mag n).drop j), ()), ?_, ⟨j, by omega, rfl, rfl⟩, by simp only; omega, rfl⟩
  repeat refine za ?_
  simp only [aaM]
  rw [aaA (x := (j : Int) - 1) zc, aaP (x := V 1000000000 ((mag n).drop (j + 1)) * 1000000000) zc, aaP (x := (mag n).getD j 0) zc, aaP zc, e1, aaJ]
  rw [Int.add_comm, yJ]
theorem ao1 (m o : List Int) (y) (h : aeB (m, o, ()) = some y) : (ai0 m o).toO = some y := by
 obtain ⟨⟨a, b⟩, hn, hx, rfl⟩ := aaD h
 obtain ⟨rfl, hx2⟩ := Prod.mk.inj hx
 obtain ⟨rfl, -⟩ := Prod.mk.inj hx2
 dsimp only
 obtain ⟨l1, l2⟩ := hn
 simp only at l1 l2
 unfold ai0
 have hda := ahD a
 have hdb := ahD b
 have hVa := am3 a
 have hVb := am3 b
 rcases Nat.lt_trichotomy (mag a).length (mag b).length with hl | hl | hl
 ·have := ao4 hl
  repeat refine za ?_
  simp only [aaJ, avA]
  rw [if_pos (show (a : Int) < b by omega)]
 ·refine uF sd ?_
  refine uO (((mag a).length : Int) - 1, ()) ?_ ?_
  ·repeat refine za ?_
   show some (w64 ((mag a).length - 1), ()) = _
   rw [aaA (x := ((mag a).length : Int) - 1) zc]
  refine aaL (fun i => ∃ k : Nat, k ≤ (mag a).length ∧ i.1 = (k : Int) - 1 ∧ V 1000000000 ((mag a).drop k) = V 1000000000 ((mag b).drop k)) (fun i => (i.1 + 1).toNat) (fun _ => (avA a b, ())) ?_ _ ⟨_, zq _, rfl, by rw [adB _ (zq _), adB _ zc]⟩
  rintro ⟨i, u⟩ ⟨k, h1, h2, h3⟩
  simp only at h2 h3
  subst h2
  unfold aq1
  rcases zD k with h0 | h0
  ·subst h0
   right
   repeat refine za ?_
   simp only [yN, hVa, hVb] at h3
   simp only [aaJ, avA]
   rw [if_neg zc, if_pos h3]
  ·obtain ⟨j, rfl⟩ : ∃ j, k = j + 1 := ⟨k - 1, by omega⟩
   have e6 : ((j + 1 : Nat) : Int) - 1 = (j : Int) := zc
   simp only [e6, aaM]
   have a1 := acJ 1000000000 (mag a) j
   have b1 := acJ 1000000000 (mag b) j
   have a2 := aaU 1000000000 (mag a) j
   have b2 := aaU 1000000000 (mag b) j
   have a3 := adP zc hda j
   have b3 := adP zc hdb j
   have a4 := aaT zc (acI hda j)
   have b4 := aaT zc (acI hdb j)
   have hp : (1 : Int) ≤ 1000000000 ^ j := aCs zc j
   rcases xj ((mag a).getD j 0) ((mag b).getD j 0) with hc | hc | hc
   ·right
    repeat refine za ?_
    have h5 : (1000000000 : Int) ^ j * (V 1000000000 ((mag a).drop j) + 1) ≤ 1000000000 ^ j * V 1000000000 ((mag b).drop j) := zE zc zc
    rw [wh] at h5
    simp only [aaJ, avA]
    rw [if_pos (show (a : Int) < b by omega)]
   ·left
    refine ⟨((j : Int) - 1, ()), ?_, ⟨j, by omega, rfl, by omega⟩, by simp only; omega, trivial⟩
    repeat refine za ?_
    rw [aaA (x := (j : Int) - 1) zc]; rfl
   ·right
    repeat refine za ?_
    have h5 : (1000000000 : Int) ^ j * (V 1000000000 ((mag b).drop j) + 1) ≤ 1000000000 ^ j * V 1000000000 ((mag a).drop j) := zE zc zc
    rw [wh] at h5
    simp only [aaJ, avA]
    rw [if_neg (show ¬ (a : Int) < b by omega), if_neg (show ¬ (a : Int) = b by omega)]
 ·have := ao4 hl
  repeat refine za ?_
  simp only [aaJ, avA]
  rw [if_neg (show ¬ (a : Int) < b by omega), if_neg (show ¬ (a : Int) = b by omega)]
theorem ao0 (m o : List Int) (a b : Nat) (la : (mag a).length ≤ 1000000000000) (hl : (mag b).length ≤ (mag a).length) : (atM m o (mag a, mag b, ())).toO = some (mag (a + b), ()) := by
 have hda := ahD a
 have hdb := ahD b
 have hVa := am3 a
 have hVb := am3 b
 unfold atM
 dsimp only
 refine uN ?_ ?_
 ·(try simp only [aaC, inb, inc, ge_iff_le, gt_iff_lt, zp, asT, ne_eq])
  simp (disch := omega) only [aaA, aaP, aa0, abO, aaM, zu, zp, aaC]
  omega
 refine uO (0, 0, [], ()) rfl ?_
 refine aaL (fun i => ∃ k : Nat, k ≤ (mag a).length ∧ i.1 = (k : Int) ∧ 0 ≤ i.2.1 ∧ i.2.1 ≤ 1 ∧ i.2.2.1.length = k ∧ Dg 1000000000 i.2.2.1 ∧ V 1000000000 i.2.2.1 + 1000000000 ^ k * i.2.1 = V 1000000000 ((mag a).take k) + V 1000000000 ((mag b).take k)) (fun i => (((mag a).length : Int) - i.1).toNat) (fun _ => (mag (a + b), ())) ?_ _ ⟨0, yg _, rfl, by simp, by simp, rfl, avH _, by simp [V]⟩
 rintro ⟨i, c, s, u⟩ ⟨k, h1, h2, h3, h4, h5, h6, h7⟩
 simp only at h2 h3 h4 h5 h6 h7
 subst h2
 simp only [aBq, aaM]
 have ea := aa6 1000000000 (mag a) k
 have eb := aa6 1000000000 (mag b) k
 have da := aa3 zc hda k
 have db := aa3 zc hdb k
 rcases zr k (mag a).length with hk | hk
 ·left
  have key : ∀ x c' : Int, 0 ≤ x ∧ x < 1000000000 → x + 1000000000 * c' = (mag a).getD k 0 + (mag b).getD k 0 + c → V 1000000000 (s ++ [x]) + 1000000000 ^ (k + 1) * c' = V 1000000000 ((mag a).take (k + 1)) + V 1000000000 ((mag b).take (k + 1)) := by
   intro x c' _ hx
   rw [aeK, aAz, h5, ea, eb, zY]
   have : (1000000000 : Int) ^ k * (x + 1000000000 * c') = 1000000000 ^ k * ((mag a).getD k 0 + (mag b).getD k 0 + c) := by rw [hx]
   grind
  have fin : ∀ x c' : Int, 0 ≤ x ∧ x < 1000000000 → 0 ≤ c' ∧ c' ≤ 1 → x + 1000000000 * c' = (mag a).getD k 0 + (mag b).getD k 0 + c → (∃ k_1 : Nat, k_1 ≤ (mag a).length ∧ ((k + 1 : Nat) : Int) = (k_1 : Int) ∧ 0 ≤ c' ∧ c' ≤ 1 ∧ (s ++ [x]).length = k_1 ∧ Dg 1000000000 (s ++ [x]) ∧ V 1000000000 (s ++ [x]) + 1000000000 ^ k_1 * c' = V 1000000000 ((mag a).take k_1) + V 1000000000 ((mag b).take k_1)) ∧ (((mag a).length : Int) - ((k + 1 : Nat) : Int)).toNat < (((mag a).length : Int) - (k : Int)).toNat :=
   fun x c' hx hc he => ⟨⟨k + 1, by omega, rfl, hc.1, hc.2, by simp; omega, ae1 h6 (anK hx.1 hx.2), key x c' hx he⟩, by omega⟩
  rcases zr k (mag b).length with hkb | hkb
  ·rcases zS ((mag a).getD k 0 + c + (mag b).getD k 0) 1000000000 with hc | hc
   ·obtain ⟨g1, g2⟩ := fin ((mag a).getD k 0 + c + (mag b).getD k 0) 0 zc zc zc
    refine ⟨(((k + 1 : Nat) : Int), 0, s ++ [(mag a).getD k 0 + c + (mag b).getD k 0], ()), ?_, g1, g2, trivial⟩
    repeat refine za ?_
    simp (disch := omega) only [aaJ, aaA, aaP, aa0, abO, aaM, zu, zp, aaC, zt]
    rfl
   ·obtain ⟨g1, g2⟩ := fin ((mag a).getD k 0 + c + (mag b).getD k 0 - 1000000000) 1 zc zc zc
    refine ⟨(((k + 1 : Nat) : Int), 1, s ++ [(mag a).getD k 0 + c + (mag b).getD k 0 - 1000000000], ()), ?_, g1, g2, trivial⟩
    repeat refine za ?_
    simp (disch := omega) only [aaJ, aaA, aaP, aa0, abO, aaM, zu, zp, aaC, zt]
    rfl
  ·have hz : (mag b).getD k 0 = 0 := ah7 hkb 0
   rcases zS ((mag a).getD k 0 + c) 1000000000 with hc | hc
   ·obtain ⟨g1, g2⟩ := fin ((mag a).getD k 0 + c) 0 zc zc zc
    refine ⟨(((k + 1 : Nat) : Int), 0, s ++ [(mag a).getD k 0 + c], ()), ?_, g1, g2, trivial⟩
    repeat refine za ?_
    simp (disch := omega) only [aaJ, aaA, aaP, aa0, abO, aaM, zu, zp, aaC, zt]
    rfl
   ·obtain ⟨g1, g2⟩ := fin ((mag a).getD k 0 + c - 1000000000) 1 zc zc zc
    refine ⟨(((k + 1 : Nat) : Int), 1, s ++ [(mag a).getD k 0 + c - 1000000000], ()), ?_, g1, g2, trivial⟩
    repeat refine za ?_
    simp (disch := omega) only [aaJ, aaA, aaP, aa0, abO, aaM, zu, zp, aaC, zt]
    rfl
 ·right
  have hkk : k = (mag a).length := zc
  rw [hkk, abM _ (zq _), abM _ hl, hVa, hVb] at h7
  rcases zS 0 c with hc | hc
  ·have hc1 : c = 1 := zc
   subst hc1
   repeat refine za ?_
   simp (disch := omega) only [aaJ, aaA, aaP, aa0, abO, aaM, zu, zp, aaC, zt]
   rw [zx zi]
   rw [aqU (l := s ++ [1]) (n := a + b) (ae1 h6 (anK zc zc)) (by simp [Cn]) (by rw [aeK, aAz, h5, hkk]; omega)]
  ·have hc1 : c = 0 := zc
   subst hc1
   repeat refine za ?_
   simp (disch := omega) only [aaJ, aaA, aaP, aa0, abO, aaM, zu, zp, aaC, zt]
   rw [aqU (l := s) (n := a + b) h6 (aJA zc h6 ?_) zc]
   rcases zD a with ha | ha
   ·left
    subst ha
    rw [mag_zero] at hkk
    exact zW.1 (by rw [h5, hkk]; rfl)
   ·right
    have := axE (B := 1000000000) zc (n := a) zc
    have h8 : (1000000000 : Int) ^ ((mag a).length - 1) ≤ a := by
     have : ((1000000000 ^ ((mag a).length - 1) : Nat) : Int) ≤ (a : Int) := wI.2 this
     simpa using this
    rw [h5, hkk]
    omega
theorem ax9 (m o : List Int) (y) (h : am9 (m, o, ()) = some y) : (aqY m o).toO = some y := by
 obtain ⟨⟨a, b⟩, hn, hx, rfl⟩ := aaD h
 obtain ⟨rfl, hx2⟩ := Prod.mk.inj hx; obtain ⟨rfl, -⟩ := Prod.mk.inj hx2; dsimp only
 obtain ⟨l1, l2⟩ := hn
 simp only at l1 l2
 unfold aqY
 rcases zr (mag a).length (mag b).length with hl | hl
 ·refine uL (mag b, mag a, ()) ?_ ?_
  ·repeat refine za ?_
   rfl
  ·rw [xc]
   exact ao0 _ _ b a l2 zc
 ·refine uL (mag a, mag b, ()) ?_ ?_
  ·repeat refine za ?_
   rfl
  ·exact ao0 _ _ a b l1 hl
theorem awL {l : List Int} (h : Dg 1000000000 l) (hl : l.length ≤ 2000000000000) {n : Nat} (hv : V 1000000000 l = n) : acU (l, ()) = some (mag n, ()) := by
 unfold acU
 rw [if_pos ⟨h, hl⟩]
 simp only [hv, zp]
theorem au3 (m o : List Int) (y) (h : akL (m, o, ()) = some y) : (an4 m o).toO = some y := by
 obtain ⟨⟨a, b⟩, hn, hx, rfl⟩ := aaD h
 obtain ⟨rfl, hx2⟩ := Prod.mk.inj hx; obtain ⟨rfl, -⟩ := Prod.mk.inj hx2; dsimp only
 obtain ⟨la, hba⟩ := hn
 simp only at la hba
 have hda := ahD a
 have hdb := ahD b
 have hVa := am3 a
 have hVb := am3 b
 have hl := abX hba
 unfold an4
 refine uN sn ?_
 refine uO (0, 0, List.replicate (mag a).length 0, ()) ?_ ?_
 ·repeat refine za ?_
  simp (disch := omega) only [aaJ, aaA, aaP, aa0, abO, aaM, zu, zp, aaC, zt]
 refine aaL (fun i => ∃ k : Nat, k ≤ (mag a).length ∧ i.1 = (k : Int) ∧ 0 ≤ i.2.1 ∧ i.2.1 ≤ 1 ∧ i.2.2.1.length = (mag a).length ∧ Dg 1000000000 i.2.2.1 ∧ V 1000000000 (i.2.2.1.take k) = V 1000000000 ((mag a).take k) - V 1000000000 ((mag b).take k) + 1000000000 ^ k * i.2.1) (fun i => (((mag a).length : Int) - i.1).toNat) (fun _ => (mag (a - b), ())) ?_ _ ⟨0, yg _, rfl, by simp, by simp, by simp, agV zc _, by simp [V]⟩
 rintro ⟨i, c, s, u⟩ ⟨k, h1, h2, h3, h4, h5, h6, h7⟩
 simp only at h2 h3 h4 h5 h6 h7
 subst h2
 simp only [ayA, aaM]
 have ea := aa6 1000000000 (mag a) k
 have eb := aa6 1000000000 (mag b) k
 have da := aa3 zc hda k
 have db := aa3 zc hdb k
 rcases zr k (mag a).length with hk | hk
 ·left
  have fin : ∀ x c' : Int, 0 ≤ x ∧ x < 1000000000 → 0 ≤ c' ∧ c' ≤ 1 → x = (mag a).getD k 0 - (mag b).getD k 0 - c + 1000000000 * c' → (∃ k_1 : Nat, k_1 ≤ (mag a).length ∧ ((k + 1 : Nat) : Int) = (k_1 : Int) ∧ 0 ≤ c' ∧ c' ≤ 1 ∧ (s.set k x).length = (mag a).length ∧ Dg 1000000000 (s.set k x) ∧ V 1000000000 ((s.set k x).take k_1) = V 1000000000 ((mag a).take k_1) - V 1000000000 ((mag b).take k_1) + 1000000000 ^ k_1 * c') ∧ (((mag a).length : Int) - ((k + 1 : Nat) : Int)).toNat < (((mag a).length : Int) - (k : Int)).toNat := by
   intro x c' hx hc he
   refine ⟨⟨k + 1, by omega, rfl, hc.1, hc.2, by simp; omega, ajG h6 hx _, ?_⟩, by omega⟩
   rw [aLQ _ zc, h7, ea, eb, zY, he]
   grind
  rcases zr k (mag b).length with hkb | hkb
  ·rcases zS ((mag a).getD k 0) (c + (mag b).getD k 0) with hc | hc
   ·obtain ⟨g1, g2⟩ := fin ((mag a).getD k 0 + 1000000000 - (c + (mag b).getD k 0)) 1 zc zc zc
    refine ⟨(((k + 1 : Nat) : Int), 1, s.set k ((mag a).getD k 0 + 1000000000 - (c + (mag b).getD k 0)), ()), ?_, g1, g2, trivial⟩
    repeat refine za ?_
    simp (disch := omega) only [aaJ, aaA, aaP, aa0, abO, aaM, zu, zp, aaC, zt]
    rfl
   ·obtain ⟨g1, g2⟩ := fin ((mag a).getD k 0 - (c + (mag b).getD k 0)) 0 zc zc zc
    refine ⟨(((k + 1 : Nat) : Int), 0, s.set k ((mag a).getD k 0 - (c + (mag b).getD k 0)), ()), ?_, g1, g2, trivial⟩
    repeat refine za ?_
    simp (disch := omega) only [aaJ, aaA, aaP, aa0, abO, aaM, zu, zp, aaC, zt]
    rfl
  ·have hz : (mag b).getD k 0 = 0 := ah7 hkb 0
   rcases zS ((mag a).getD k 0) c with hc | hc
   ·obtain ⟨g1, g2⟩ := fin ((mag a).getD k 0 + 1000000000 - c) 1 zc zc zc
    refine ⟨(((k + 1 : Nat) : Int), 1, s.set k ((mag a).getD k 0 + 1000000000 - c), ()), ?_, g1, g2, trivial⟩
    repeat refine za ?_
    simp (disch := omega) only [aaJ, aaA, aaP, aa0, abO, aaM, zu, zp, aaC, zt]
    rfl
   ·obtain ⟨g1, g2⟩ := fin ((mag a).getD k 0 - c) 0 zc zc zc
    refine ⟨(((k + 1 : Nat) : Int), 0, s.set k ((mag a).getD k 0 - c), ()), ?_, g1, g2, trivial⟩
    repeat refine za ?_
    simp (disch := omega) only [aaJ, aaA, aaP, aa0, abO, aaM, zu, zp, aaC, zt]
    rfl
 ·right
  have hkk : k = (mag a).length := zc
  rw [hkk, abM _ zc, abM _ (zq _), abM _ hl, hVa, hVb] at h7
  have hlt := aLR zc h6
  rw [h5] at hlt
  have hc : c = 0 := by
   rcases zS 0 c with hc | hc
   ·have hc1 : c = 1 := zc
    subst hc1
    omega
   ·omega
  subst hc
  refine uF sd ?_
  refine uC (mag (a - b), ()) ?_ ?_
  ·rw [zx (by simp [len]; omega)]
   exact awL h6 zc zc
  ·rfl
theorem aN3 {a b B : Int} (ha : 0 ≤ a ∧ a < B) (hb : 0 ≤ b ∧ b < B) : 0 ≤ a * b ∧ a * b ≤ (B - 1) * (B - 1) := by
 refine ⟨yi ha.1 hb.1, ?_⟩
 have h1 : a * b ≤ a * (B - 1) := zE zc ha.1
 have h2 : a * (B - 1) ≤ (B - 1) * (B - 1) := zF zc zc
 omega
theorem aPv (Vs P c A K x T X Y d e Q B : Int) (h : Vs + P * c = A + K * (x * T)) (h2 : X + B * Y = c + (d + x * e)) (hP : P = K * Q) : Vs + P * (X - d) + P * B * Y = A + K * (x * (T + Q * e)) := by
 subst hP
 have h3 : K * Q * (X + B * Y) = K * Q * (c + (d + x * e)) := by rw [h2]
 grind
theorem au1 (m o : List Int) (y) (h : acM (m, o, ()) = some y) : (an2 m o).toO = some y := by
 obtain ⟨⟨a, b⟩, hn, hx, rfl⟩ := aaD h
 obtain ⟨rfl, hx2⟩ := Prod.mk.inj hx; obtain ⟨rfl, -⟩ := Prod.mk.inj hx2; dsimp only
 obtain ⟨la, lb⟩ := hn
 simp only at la lb
 have hda := ahD a
 have hdb := ahD b
 have hVa := am3 a
 have hVb := am3 b
 have hw : w64 (len (mag a) + len (mag b)) = (((mag a).length + (mag b).length : Nat) : Int) := by
  simp only [aaC]; rw [aaA (x := ((mag a).length : Int) + (mag b).length) zc]; omega
 unfold an2
 simp only [hw]
 refine uN zc ?_
 refine uO (0, List.replicate ((mag a).length + (mag b).length) 0, ()) ?_ ?_
 ·repeat refine za ?_
  simp (disch := omega) only [aaJ, aaA, aaP, aa0, abO, aaM, zu, zp, aaC, zt]
 have hBb : V 1000000000 (mag b) < 1000000000 ^ (mag b).length := aLR zc hdb
 refine aaL (fun i => ∃ k : Nat, k ≤ (mag a).length ∧ i.1 = (k : Int) ∧ i.2.1.length = (mag a).length + (mag b).length ∧ Dg 1000000000 i.2.1 ∧ V 1000000000 i.2.1 = V 1000000000 ((mag a).take k) * b) (fun i => (((mag a).length : Int) - i.1).toNat) (fun _ => (mag (a * b), ())) ?_ _ ⟨0, yg _, rfl, by simp, agV zc _, by simp [V, at7]⟩
 rintro ⟨i, s, u⟩ ⟨k, h1, h2, h3, h4, h5⟩
 simp only at h2 h3 h4 h5
 subst h2
 simp only [ax7, aaM, hw]
 have ea := aa6 1000000000 (mag a) k
 have da := aa3 zc hda k
 rcases zr k (mag a).length with hk | hk
 ·left
  have hs : V 1000000000 s < 1000000000 ^ (k + (mag b).length) := by
   rw [h5, wi]
   have e1 := adP zc hda k
   have e2 := aaT zc (acI hda k)
   rw [hVb] at hBb
   have e3 : V 1000000000 ((mag a).take k) * b ≤ V 1000000000 ((mag a).take k) * 1000000000 ^ (mag b).length := zE zc e2
   have e4 : V 1000000000 ((mag a).take k) * 1000000000 ^ (mag b).length < 1000000000 ^ k * 1000000000 ^ (mag b).length := Int.mul_lt_mul_of_pos_right e1 (yG zc)
   omega
  have hz := amQ zc h4 hs
  -- the inner loop
  obtain ⟨r, hin, s', rfl, q1, q2, q3⟩ : ∃ r : ((Int × List Int × Unit) ⊕ (List Int × Unit)), adG (fun i1 => (apN (mag a) (mag b) ((k : Int), s, ()) i1).toO) (0, 0, s, ()) = some r ∧ ∃ s', r = Sum.inl (((k + 1 : Nat) : Int), s', ()) ∧ s'.length = (mag a).length + (mag b).length ∧ Dg 1000000000 s' ∧ V 1000000000 s' = V 1000000000 ((mag a).take (k + 1)) * b := by
   refine acT (fun j => ∃ q : Nat, q ≤ (mag b).length ∧ j.1 = (q : Int) ∧ 0 ≤ j.2.1 ∧ j.2.1 < 1000000000 ∧ j.2.2.1.length = (mag a).length + (mag b).length ∧ Dg 1000000000 j.2.2.1 ∧ (∀ t, k + (mag b).length ≤ t → j.2.2.1.getD t 0 = 0) ∧ V 1000000000 j.2.2.1 + 1000000000 ^ (k + q) * j.2.1 = V 1000000000 ((mag a).take k) * b + 1000000000 ^ k * ((mag a).getD k 0 * V 1000000000 ((mag b).take q))) (fun j => (((mag b).length : Int) - j.1).toNat) _ ?_ _ ⟨0, yg _, rfl, by simp, by simp, h3, h4, hz, by simp [V, h5]⟩
   rintro ⟨j, c, s1, u1⟩ ⟨q, g1, g2, g3, g4, g5, g6, g7, g8⟩
   simp only at g2 g3 g4 g5 g6 g7 g8
   subst g2
   have hkq : w64 ((k : Int) + q) = ((k + q : Nat) : Int) := by rw [aaA (x := (k : Int) + q) zc]; omega
   have hkl : w64 ((k : Int) + len (mag b)) = ((k + (mag b).length : Nat) : Int) := by rw [aaC, aaA (x := (k : Int) + ((mag b).length : Int)) zc]; omega
   simp only [apN, aaM, hw, hkq, hkl, zp, zu]
   have eb := aa6 1000000000 (mag b) q
   have db := aa3 zc hdb q
   have ds := aa3 zc g6 (k + q)
   have hm := aN3 da db
   rcases zr q (mag b).length with hq | hq
   ·left
    have hsum : 0 ≤ c + (s1.getD (k + q) 0 + (mag a).getD k 0 * (mag b).getD q 0) := zc
    have e1 := yl (c + (s1.getD (k + q) 0 + (mag a).getD k 0 * (mag b).getD q 0)) 1000000000
    have e2 : 0 ≤ (c + (s1.getD (k + q) 0 + (mag a).getD k 0 * (mag b).getD q 0)) % 1000000000 ∧ (c + (s1.getD (k + q) 0 + (mag a).getD k 0 * (mag b).getD q 0)) % 1000000000 < 1000000000 := zc
    have e3 : 0 ≤ (c + (s1.getD (k + q) 0 + (mag a).getD k 0 * (mag b).getD q 0)) / 1000000000 ∧ (c + (s1.getD (k + q) 0 + (mag a).getD k 0 * (mag b).getD q 0)) / 1000000000 < 1000000000 := zc
    refine ⟨(((q + 1 : Nat) : Int), (c + (s1.getD (k + q) 0 + (mag a).getD k 0 * (mag b).getD q 0)) / 1000000000, s1.set (k + q) ((c + (s1.getD (k + q) 0 + (mag a).getD k 0 * (mag b).getD q 0)) % 1000000000), ()), ?_, ⟨q + 1, by omega, rfl, e3.1, e3.2, by simp; omega, ajG g6 e2 _, ?_, ?_⟩, by simp only; omega⟩
    ·repeat refine za ?_
     simp (disch := omega) only [aaJ, aaA, aaP, aa0, abO, aaM, zu, zp, aaC, zt]
     rw [zz hsum, zL hsum]
     simp (disch := omega) only [aaJ, aaA, aaP, aa0, abO, aaM, zu, zp, aaC, zt]
     rfl
    ·intro t ht
     rw [apL _ zc]; exact g7 t ht
    ·simp only
     rw [azL _ zc, eb, show k + (q + 1) = k + q + 1 by omega, zY]
     exact aPv _ _ _ _ _ _ _ _ _ _ _ _ _ g8 e1 (wi _ _ _)
   ·right
    have hqq : q = (mag b).length := zc
    subst hqq
    rw [abM _ (zq _), hVb] at g8
    refine ⟨.inl (((k + 1 : Nat) : Int), s1.set (k + (mag b).length) c, ()), ?_, _, rfl, by simp; omega, ajG g6 ⟨g3, g4⟩ _, ?_⟩
    ·repeat refine za ?_
     simp (disch := omega) only [aaJ, aaA, aaP, aa0, abO, aaM, zu, zp, aaC, zt]
     rfl
    ·rw [azL _ zc, g7 _ zc, ea, wT]
     simp only [wJ]
     rw [g8]
     grind
  refine ⟨(((k + 1 : Nat) : Int), s', ()), ?_, ⟨k + 1, by omega, rfl, q1, q2, q3⟩, by simp only; omega, trivial⟩
  refine uT sd ?_
  refine uN sd ?_
  refine uO (0, 0, s, ()) ?_ ?_
  ·repeat refine za ?_
   rfl
  ·exact hin
 ·right
  have hkk : k = (mag a).length := zc
  rw [hkk, abM _ (zq _), hVa] at h5
  refine uF sd ?_
  refine uC (mag (a * b), ()) ?_ ?_
  ·rw [zx zh]
   exact awL h4 zc (by rw [h5]; simp)
  ·rfl
theorem aPw (Vm Vq P d R m X Y B W : Int) (h : Vm = Vq * d + R) (h2 : Y + d * X = R * B + m) (hW : W = m + B * Vm) (hP : P = X + B * Vq) : W = P * d + Y := by
 subst hW hP h
 grind
theorem au2 (m : List Int) (d : Int) (y) (h : akK (m, d, ()) = some y) : (an3 m d).toO = some y := by
 obtain ⟨⟨a, e⟩, hn, hx, rfl⟩ := aaD h
 obtain ⟨rfl, hx2⟩ := Prod.mk.inj hx; obtain ⟨rfl, -⟩ := Prod.mk.inj hx2; dsimp only
 obtain ⟨la, he, he2⟩ := hn
 simp only at la he he2
 have hda := ahD a
 have hVa := am3 a
 unfold an3
 refine uN sn ?_
 have hd : abU (e : Int) = e := aaP zc
 refine uO (((mag a).length : Int) - 1, 0, List.replicate (mag a).length 0, ()) ?_ ?_
 ·repeat refine za ?_
  simp only [aaC]
  rw [aaA (x := ((mag a).length : Int) - 1) zc]
  rfl
 refine aaL (fun i : Int × Int × List Int × Unit => ∃ k : Nat, k ≤ (mag a).length ∧ i.1 = (k : Int) - 1 ∧ 0 ≤ i.2.1 ∧ i.2.1 < e ∧ i.2.2.1.length = (mag a).length ∧ Dg 1000000000 i.2.2.1 ∧ V 1000000000 ((mag a).drop k) = V 1000000000 (i.2.2.1.drop k) * e + i.2.1) (fun i => (i.1 + 1).toNat) (fun _ => (mag (a / e), ((a % e : Nat) : Int), ())) ?_ _ ⟨_, zq _, rfl, by simp, by simp; omega, by simp, agV zc _, by rw [adB _ (zq _), adB _ zi]; simp⟩
 rintro ⟨i, r, q, u⟩ ⟨k, h1, h2, h3, h4, h5, h6, h7⟩
 simp only at h2 h3 h4 h5 h6 h7
 subst h2
 rcases zD k with h0 | h0
 ·subst h0
  right
  simp only [yN, hVa] at h7
  obtain ⟨v, hv⟩ := zv (aaT zc h6)
  obtain ⟨r', rfl⟩ := zv h3
  rw [hv] at h7
  have h8 : a = v * e + r' := by
   have : (a : Int) = ((v * e + r' : Nat) : Int) := by simpa using h7
   exact Int.ofNat.inj this
  have h9 : a / e = v := by rw [h8, xc, wK _ _ he, xb zc, zu]
  have h10 : a % e = r' := by rw [h8, xc, xX, yE zc]
  simp only [apO]
  refine uF sd ?_
  refine uC (mag v, ()) ?_ ?_
  ·rw [zx (by simp [len]; omega)]
   exact awL h6 zc hv
  ·simp (disch := omega) only [aaJ, aaA, aaP, aa0, abO, aaM, zu, zp, aaC, zt]
   rw [h9, h10]
 ·left
  obtain ⟨j, rfl⟩ : ∃ j, k = j + 1 := ⟨k - 1, by omega⟩
  have e6 : ((j + 1 : Nat) : Int) - 1 = (j : Int) := zc
  rw [e6]
  simp only [apO, aaM, hd]
  have e1 := aaU 1000000000 (mag a) j
  have e2 := aa3 zc hda j
  have g1 : 0 ≤ r * 1000000000 + (mag a).getD j 0 := zc
  have g0 : (0 : Int) < e := zc
  have g2 := yl (r * 1000000000 + (mag a).getD j 0) e
  have g3 := yO (r * 1000000000 + (mag a).getD j 0) (show (e : Int) ≠ 0 by omega)
  have g4 := yB (r * 1000000000 + (mag a).getD j 0) g0
  have g5 : 0 ≤ (r * 1000000000 + (mag a).getD j 0) / e := xD g1 zc
  have g6 : (r * 1000000000 + (mag a).getD j 0) / e < 1000000000 := by
   refine Int.ediv_lt_of_lt_mul g0 ?_
   have : (r + 1) * 1000000000 ≤ e * 1000000000 := zF zc zc
   omega
  have hw1 : abU (abU (r * 1000000000) + abU ((mag a).getD j 0)) = r * 1000000000 + (mag a).getD j 0 := by
   rw [aaP (x := r * 1000000000) zc, aaP (x := (mag a).getD j 0) zc, aaP zc]
  simp only [hw1]
  refine ⟨((j : Int) - 1, (r * 1000000000 + (mag a).getD j 0) % e, q.set j ((r * 1000000000 + (mag a).getD j 0) / e), ()), ?_, ⟨j, by omega, rfl, g3, g4, by simp; omega, ajG h6 ⟨g5, g6⟩ _, ?_⟩, by simp only; omega, trivial⟩
  ·repeat refine za ?_
   rw [zz g1, zL g1]
   rw [aaP (x := (r * 1000000000 + (mag a).getD j 0) / e) zc, aa0 (x := (r * 1000000000 + (mag a).getD j 0) / e) zc]
   simp (disch := omega) only [aaJ, aaA, aaP, aa0, abO, aaM, zu, zp, aaC, zt]
  ·simp only
   refine aPw _ _ _ _ _ _ _ _ 1000000000 _ h7 g2 e1 ?_
   rw [aaU 1000000000 (q.set j _) j, apM zc, aiA _ zc]
theorem amS (v : Int) (y) (h : abT (v, ()) = some y) : (alC v).toO = some y := by
 unfold abT at h
 split at h
 ·rename_i hp
  obtain ⟨h0, h1⟩ := hp
  simp only at h0 h1
  injection h with h
  subst h
  obtain ⟨n, rfl⟩ := zv h0
  simp only [zp]
  refine uO (true, [], (n : Int), ()) rfl ?_
  refine aaL (fun i => ∃ w : Nat, i.2.2.1 = (w : Int) ∧ w ≤ n ∧ Dg 1000000000 i.2.1 ∧ V 1000000000 i.2.1 + 1000000000 ^ i.2.1.length * w = n ∧ (i.1 = true → i.2.1 = []) ∧ (w = 0 → Cn i.2.1) ∧ (i.2.1.length ≤ 3) ∧ (w ≠ 0 → w < 1000000000 ^ (3 - i.2.1.length))) (fun i => i.2.2.1.toNat) (fun _ => (mag n, ())) ?_ _ ⟨n, rfl, zq _, avH _, by simp [V], fun _ => rfl, fun _ => avI, by simp, fun _ => by simp; omega⟩
  rintro ⟨f, l, w', u⟩ ⟨w, g1, g2, g3, g4, g5, g6, g7, g8⟩
  simp only at g1 g3 g4 g5 g6 g7 g8
  subst g1
  rcases zD w with hw | hw
  ·subst hw
   right
   have : l = mag n := aqU g3 (g6 rfl) zc
   cases f
   ·unfold aeW
    repeat refine za ?_
    simp (disch := omega) only [aaJ, aaA, aaP, aa0, abO, aaM, zu, zp, aaC, zt]
    rw [this]
   ·unfold aeW
    repeat refine za ?_
    simp (disch := omega) only [aaJ, aaA, aaP, aa0, abO, aaM, zu, zp, aaC, zt]
    rw [← this, g5 rfl]
  ·left
   have hl : l.length ≤ 2 := by
    rcases zr 2 l.length with h | h
    ·have h3 : l.length = 3 := zc
     have := g8 zc
     rw [h3] at this
     simp at this
     omega
    ·exact h
   have e1 : ((w % 1000000000 : Nat) : Int) + 1000000000 * ((w / 1000000000 : Nat) : Int) = w := zc
   refine ⟨(false, l ++ [((w % 1000000000 : Nat) : Int)], ((w / 1000000000 : Nat) : Int), ()), ?_, ⟨w / 1000000000, rfl, by omega, ae1 g3 (anK zc zc), ?_, by simp, ?_, by simp; omega, ?_⟩, by simp only; omega, ze⟩
   ·have t1 : Int.tmod (w : Int) 1000000000 = ((w % 1000000000 : Nat) : Int) := by rw [zz zc]; omega
    have t2 : Int.tdiv (w : Int) 1000000000 = ((w / 1000000000 : Nat) : Int) := by rw [zL zc]; omega
    cases f
    ·simp only [aeW, t1, t2]
     repeat refine za ?_
     simp (disch := omega) only [aaJ, aaA, aaP, aa0, abO, aaM, zu, zp, aaC, zt]
    ·simp only [aeW, t1, t2]
     repeat refine za ?_
     rw [g5 rfl]
     simp (disch := omega) only [aaJ, aaA, aaP, aa0, abO, aaM, zu, zp, aaC, zt]
     rfl
   ·simp only
    rw [aeK, aAz, zH, yr, zY, ← g4]
    have : (1000000000 : Int) ^ l.length * (((w % 1000000000 : Nat) : Int) + 1000000000 * ((w / 1000000000 : Nat) : Int)) = 1000000000 ^ l.length * w := by rw [e1]
    grind
   ·intro hz
    unfold Cn
    simp
    omega
   ·intro hz
    simp only [zH, yr]
    have := g8 zc
    rw [yL zc]
    have h9 : 1000000000 ^ (3 - l.length) = 1000000000 ^ (3 - (l.length + 1)) * 1000000000 := by
     rw [← yz]; congr 1; omega
    omega
 ·cases h
theorem aHj {n : Nat} (h : n ≠ 0) : ∃ t : Nat, (mag n).getD ((mag n).length - 1) 0 = (t : Int) ∧ 1 ≤ t ∧ t < 1000000000 ∧ 1000000000 ^ ((mag n).length - 1) * t ≤ n ∧ n < 1000000000 ^ ((mag n).length - 1) * (t + 1) := by
 have hd := ahD n
 have hV := am3 n
 have hl : 1 ≤ (mag n).length := by
  rcases zD (mag n).length with h0 | h0
  ·exact absurd (mag_nil_iff.1 (zW.1 h0)) h
  ·exact h0
 have e1 := acJ 1000000000 (mag n) ((mag n).length - 1)
 have e2 := aaU 1000000000 (mag n) ((mag n).length - 1)
 rw [adB (k := (mag n).length - 1 + 1) _ zc] at e2
 have e3 := adP zc hd ((mag n).length - 1)
 have e4 := aaT zc (acI hd ((mag n).length - 1))
 have e5 := aa3 zc hd ((mag n).length - 1)
 obtain ⟨t, ht⟩ := zv e5.1
 have h1 : 1 ≤ t := by
  rcases zD t with h0 | h0
  ·have hc := aTk n
   unfold Cn at hc
   rw [yQ, zR zc] at hc
   rw [ajN zc, h0] at ht
   rw [ht] at hc
   exact absurd rfl hc
  ·exact h0
 have hp : (1000000000 : Int) ^ ((mag n).length - 1) = ((1000000000 ^ ((mag n).length - 1) : Nat) : Int) := zi
 rw [hV, e2, ht, hp] at e1
 rw [hp] at e3
 refine ⟨t, ht, h1, by omega, ?_, ?_⟩
 ·have : ((1000000000 ^ ((mag n).length - 1) * t : Nat) : Int) ≤ n := by
   rw [yd]
   simp only [wu, vF] at e1
   omega
  exact wI.1 this
 ·have : (n : Int) < ((1000000000 ^ ((mag n).length - 1) * (t + 1) : Nat) : Int) := by
   rw [yd]
   simp only [wu, vF] at e1
   rw [ve, wh]
   omega
  exact Int.ofNat_lt.1 this
theorem ayP {n t L : Nat} (h1 : 1 ≤ t) (h3 : 1000000000 ^ L * t ≤ n) (h4 : n < 1000000000 ^ L * (t + 1)) : (aa2 n).length = L * 9 + (aa2 t).length := by
 have a1 := af7 t
 have a2 := aGX (n := t) zc
 have a3 := aiC t
 have e : (1000000000 : Nat) ^ L = 10 ^ (L * 9) := by rw [show 1000000000 = 10 ^ 9 by decide, ← xL, yK]
 rw [e] at h3 h4
 obtain ⟨q, hq⟩ : ∃ q, (aa2 t).length = q + 1 := ⟨(aa2 t).length - 1, by omega⟩
 rw [hq] at a1 a2 ⊢
 have h5 : 10 ^ (L * 9 + q) ≤ n := by
  rw [xA]
  have := yy (10 ^ (L * 9)) a2
  simp at this
  omega
 have h6 : n < 10 ^ (L * 9 + q + 1) := by
  rw [show L * 9 + q + 1 = L * 9 + (q + 1) by omega, xA]
  have : 10 ^ (L * 9) * (t + 1) ≤ 10 ^ (L * 9) * 10 ^ (q + 1) := yy _ zc
  omega
 rw [ajQ h5 h6]
 omega
theorem aqZ (m : List Int) (y) (h : aiM (m, ()) = some y) : (ak7 m).toO = some y := by
 obtain ⟨n, hn, hx, rfl⟩ := aaD h
 obtain ⟨rfl, -⟩ := Prod.mk.inj hx
 unfold ak7
 refine uC (len (mag n) == 0, ()) rfl ?_
 by_cases h0 : n = 0
 ·subst h0
  refine uT (by simp [mag_zero, len]) ?_
  simp [aaJ, abL]
 ·obtain ⟨t, ht, h1, h2, h3, h4⟩ := aHj h0
  have hl : 1 ≤ (mag n).length := by
   rcases zD (mag n).length with h5 | h5
   ·exact absurd (mag_nil_iff.1 (zW.1 h5)) h0
   ·exact h5
  have hw : w64 (len (mag n) - 1) = (((mag n).length - 1 : Nat) : Int) := by rw [aaC, aaA (x := ((mag n).length : Int) - 1) zc]; omega
  refine uF sd ?_
  simp only [hw, aaM, ht]
  refine uN sd ?_
  have hdl : (aa2 t).length ≤ 9 := (ac8 zc).2 zc
  refine uC (aa2 t, ()) ?_ ?_
  ·rw [aaA (x := (t : Int)) zc]
   unfold aBM
   rw [if_pos zm]
   simp only [aeQ]
  ·rw [ayP h1 h3 h4]
   simp only [aaJ, aaC]
   rw [aaA (x := ((((mag n).length - 1 : Nat)) : Int) * 9) zc, aaA zc]
   simp
theorem aK9 (m o : List Int) (y) (h : ahK (m, o, ()) = some y) : (aCP m o).toO = some y := by
 obtain ⟨⟨a, b⟩, hn, hx, rfl⟩ := aaD h
 obtain ⟨rfl, hx2⟩ := Prod.mk.inj hx; obtain ⟨rfl, -⟩ := Prod.mk.inj hx2; dsimp only
 obtain ⟨la, lb⟩ := hn
 simp only at la lb
 unfold aCP
 refine uO (mag a, mag b, ()) rfl ?_
 refine aaL (fun i : List Int × List Int × Unit => ∃ p q : Nat, i = (mag p, mag q, ()) ∧ (mag p).length ≤ 100000000000 ∧ (mag q).length ≤ 100000000000 ∧ Nat.gcd p q = Nat.gcd a b) (fun i => (V 1000000000 i.2.1).toNat) (fun _ => (mag (Nat.gcd a b), ())) ?_ _ ⟨a, b, rfl, la, lb, rfl⟩
 rintro i ⟨p, q, rfl, lp, lq, hg⟩
 simp only [aFi]
 by_cases hq : q = 0
 ·right
  subst hq
  refine uC (len (mag 0) == 0, ()) rfl ?_
  refine uF (by simp [mag_zero, len]) ?_
  rw [← hg]
  simp [aaJ]
 ·have hql : 1 ≤ (mag q).length := by
   rcases zD (mag q).length with h5 | h5
   ·exact absurd (mag_nil_iff.1 (zW.1 h5)) hq
   ·exact h5
  by_cases hs : (mag p).length ≤ 2 ∧ (mag q).length ≤ 2
  ·right
   have bp : p < 1000000000000000000 := by have := mag_length_le_iff.1 hs.1; omega
   have bq : q < 1000000000000000000 := by have := mag_length_le_iff.1 hs.2; omega
   refine uC (len (mag q) == 0, ()) rfl ?_
   refine uT (by simp [len]; intro h; simp [h] at hql) ?_
   refine uL (true, ()) ?_ ?_
   ·refine uT sd ?_
    repeat refine za ?_
    show some (Sum.inl (decide (len (mag q) ≤ 2), ())) = _
    rw [zo (show len (mag q) ≤ 2 by exact sn)]
   ·simp only [ayB]
    refine uT rfl ?_
    refine uC ((p : Int), ()) (aaG (enc := fun n : Nat => (mag n, ())) p bp (fun b hb => ad7 (Prod.mk.inj hb).1)) ?_
    refine uC ((q : Int), ()) (aaG (enc := fun n : Nat => (mag n, ())) q bq (fun b hb => ad7 (Prod.mk.inj hb).1)) ?_
    refine uO ((q : Int), (p : Int), ()) rfl ?_
    refine aaL (fun i : Int × Int × Unit => ∃ r s : Nat, i = ((r : Int), (s : Int), ()) ∧ s < 1000000000000000000 ∧ r < 1000000000000000000 ∧ Nat.gcd s r = Nat.gcd a b) (fun i => i.1.toNat) (fun _ => (Sum.inr (mag (Nat.gcd a b), ()) : (List Int × List Int × Unit) ⊕ (List Int × Unit))) ?_ _ ⟨q, p, rfl, bp, bq, hg⟩
    rintro i ⟨r, s, rfl, h1, h2, h3⟩
    simp only [aFh]
    rcases zD r with hr | hr
    ·subst hr
     right
     refine uF sd ?_
     refine uC (mag s, ()) ?_ ?_
     ·unfold abT
      rw [if_pos zm]
      simp
     ·rw [← h3]
      simp [aaJ]
    ·left
     have hm := yU s hr
     refine ⟨(((s % r : Nat) : Int), (r : Int), ()), ?_, ⟨s % r, r, rfl, by omega, by omega, ?_⟩, by simp only; omega, ze⟩
     ·repeat refine za ?_
      rw [zz zc]
      rfl
     ·rw [← h3, xC s r, Nat.gcd_rec r s, xC]
  ·left
   refine ⟨(mag q, mag (p % q), ()), ?_, ⟨q, p % q, rfl, lq, ?_, ?_⟩, ?_, ze⟩
   ·refine uC (len (mag q) == 0, ()) rfl ?_
    refine uT (by simp [len]; intro h; simp [h] at hql) ?_
    refine uL (false, ()) ?_ ?_
    ·rcases zr 2 (mag p).length with h5 | h5
     ·repeat refine za ?_
      rfl
     ·repeat refine za ?_
      show some (Sum.inl (decide (len (mag q) ≤ 2), ())) = _
      rw [zn (show ¬ len (mag q) ≤ 2 by exact sn)]
    ·simp only [ayB]
     refine uF rfl ?_
     refine uC (mag (p / q), mag (p % q), ()) (aaG (enc := fun p : Nat × Nat => (mag p.1, mag p.2, ())) (p, q) ⟨lp, lq, hq⟩ (fun b hb => adW hb)) ?_
     repeat refine za ?_
     rfl
   ·have := abX (vG (yU p (show 0 < q by omega))); omega
   ·rw [← hg, xC p q, Nat.gcd_rec q p, xC]
   ·simp only [am3, zp]
    exact yU p zc
theorem av4 {s : List UInt8} (h : isD s) (i : Nat) : isD (s.take i) := fun c hc => h c (xa hc)
theorem aqW {s : List UInt8} (h : isD s) (i : Nat) : isD (s.drop i) := fun c hc => h c (yZ hc)
theorem aIx {s : List UInt8} {a i : Nat} (h1 : a ≤ i) (h2 : i < s.length) : (s.take (i + 1)).drop a = (s.take i).drop a ++ [s[i]] := by
 rw [zX h2, List.drop_append_of_le_length zh]
theorem awQ {s : List UInt8} {a i : Nat} (h1 : a ≤ i) (h2 : i ≤ s.length) : ((s.take i).drop a).length = i - a := zh
theorem aNU {s : List UInt8} {a e : Nat} (h1 : a ≤ e) (h2 : e ≤ s.length) : num (s.take e) = num (s.take a) * 10 ^ (e - a) + num ((s.take e).drop a) := by
 conv => lhs; rw [← xw a (s.take e)]
 rw [anX, awQ h1 h2, xe, yI h1]
theorem aHh : num [] = 0 := rfl
theorem aBn {s : List UInt8} (hd : isD s) {a i e : Nat} (h1 : a ≤ i) (h2 : i < e) (h3 : e ≤ s.length) (h4 : e - a ≤ 9) : aeH (aeH ((num ((s.take i).drop a) : Int) * 10) + aeH (wu8 (((s.getD i 0).toNat : Int) - 48))) = (num ((s.take (i + 1)).drop a) : Int) := by
 have hi : i < s.length := zc
 have e1 : s.getD i 0 = s[i] := by simp [hi]
 have e2 := hd s[i] (yf hi)
 have e3 := aEU (aqW (av4 hd i) a)
 rw [awQ h1 zc] at e3
 have e4 : (10 : Nat) ^ (i - a) ≤ 10 ^ 8 := zV zc zc
 have e5 : dv s[i] = s[i].toNat - 48 := rfl
 rw [aIx h1 hi, anV, e1, e5]
 rw [abO (x := (s[i].toNat : Int) - 48) zc, aa0 (x := (s[i].toNat : Int) - 48) zc, aa0 (x := (num ((s.take i).drop a) : Int) * 10) zc, aa0 zc]
 omega
theorem au6 (digits : List UInt8) (y) (h : ahQ (digits, ()) = some y) : (atQ digits).toO = some y := by
 unfold ahQ at h
 split at h
 case isFalse => cases h
 case isTrue hp =>
  obtain ⟨hd, hne, hl⟩ := hp
  simp only at hd hne hl
  injection h with h
  subst h
  generalize digits = s at *
  have hlen : 1 ≤ s.length := ya.2 hne
  refine uO ((s.length : Int), true, [], ()) rfl ?_
  refine aaL (fun i : Int × Bool × List Int × Unit => ∃ e : Nat, i.1 = (e : Int) ∧ 1 ≤ e ∧ e ≤ s.length ∧ Dg 1000000000 i.2.2.1 ∧ V 1000000000 i.2.2.1 + 1000000000 ^ i.2.2.1.length * num (s.take e) = num s ∧ i.2.2.1.length + e ≤ s.length ∧ (i.2.1 = true → i.2.2.1 = [])) (fun i => i.1.toNat) (fun _ => (mag (num s), ())) ?_ _ ⟨s.length, rfl, hlen, zq _, avH _, by simp [V], by simp, fun _ => rfl⟩
  rintro ⟨e', f, l, u⟩ ⟨e, g1, g2, g3, g4, g5, g6, g7⟩
  simp only at g1 g4 g5 g6 g7
  subst g1
  obtain ⟨a, ha, ha1, ha2, ha3⟩ : ∃ a : Nat, (if 0 > w64 ((e : Int) - 9) then 0 else w64 ((e : Int) - 9)) = (a : Int) ∧ a ≤ e ∧ e - a ≤ 9 ∧ (a = 0 ∨ a + 9 = e) := by
   rw [aaA (x := (e : Int) - 9) zc]
   rcases zr e 9 with h9 | h9
   ·exact ⟨0, by rw [if_pos zc]; rfl, by omega, by omega, Or.inl rfl⟩
   ·exact ⟨e - 9, by rw [if_neg zc]; omega, by omega, by omega, Or.inr zc⟩
  have hseg := aNU (s := s) ha1 g3
  have hv := aEU (aqW (av4 hd e) a)
  rw [awQ ha1 g3] at hv
  have hv9 : (10 : Nat) ^ (e - a) ≤ 10 ^ 9 := zV zc ha2
  generalize hX : num ((s.take e).drop a) = X at hseg hv
  have hD : Dg 1000000000 (l ++ [(X : Int)]) := ae1 g4 (anK zc zc)
  have hw9 : w64 ((e : Int) - 9) = (e : Int) - 9 := aaA zc
  have hV0 : a = 0 → V 1000000000 (l ++ [(X : Int)]) = num s := by
   intro h0
   subst h0
   rw [aeK, aAz, ← g5]
   rw [hseg]
   simp [aHh]
  have hV1 : a + 9 = e → V 1000000000 (l ++ [(X : Int)]) + 1000000000 ^ (l ++ [(X : Int)]).length * (num (s.take a) : Int) = num s := by
   intro h0
   rw [aeK, aAz, ← g5, hseg, show e - a = 9 by omega, zH, yr, zY]
   have : (((num (s.take a) * 10 ^ 9 + X : Nat)) : Int) = (num (s.take a) : Int) * 1000000000 + X := zi
   rw [this]
   grind
  cases f
  ·-- not the first group
   simp only [apR, ha]
   have hin : adG (fun i1 => (alA s ((e : Int), false, l, ()) i1).toO) ((a : Int), 0, ()) = some (if a = 0 then Sum.inr (mag (num s), ()) else Sum.inl ((a : Int), false, l ++ [(X : Int)], ())) := by
    refine aaL (fun j : Int × Int × Unit => ∃ i : Nat, a ≤ i ∧ i ≤ e ∧ j = ((i : Int), (num ((s.take i).drop a) : Int), ())) (fun j => ((e : Int) - j.1).toNat) (fun _ => (if a = 0 then Sum.inr (mag (num s), ()) else Sum.inl ((a : Int), false, l ++ [(X : Int)], ()))) ?_ _ ⟨a, zq _, ha1, by rw [yv zh]; rfl⟩
    rintro j ⟨i, h1, h2, rfl⟩
    rcases zr i e with hi | hi
    ·left
     refine ⟨(((i + 1 : Nat) : Int), (num ((s.take (i + 1)).drop a) : Int), ()), ?_, ⟨i + 1, by omega, by omega, rfl⟩, by simp only; omega, ze⟩
     simp only [alA, aaM, aBn hd h1 hi g3 ha2]
     repeat refine za ?_
     simp (disch := omega) only [aaJ, aaA, aaP, aa0, abO, aaM, zu, zp, aaC, zt]
     rfl
    ·right
     have hie : i = e := zc
     subst hie
     simp only [alA, ha, hX, zt]
     refine uF sd ?_
     refine uN zc ?_
     by_cases h0 : a = 0
     ·rw [if_pos h0]
      refine uT (by simp [h0]) ?_
      refine uC (mag (num s), ()) ?_ rfl
      rw [zx zi]
      exact awL hD zh (hV0 h0)
     ·rw [if_neg h0]
      refine uF zh ?_
      repeat refine za ?_
      have : w64 ((i : Int) - 9) = (a : Int) := by rw [hw9]; omega
      rw [this]
      rfl
   by_cases h0 : a = 0
   ·right
    rw [if_pos h0] at hin
    refine uF rfl ?_
    refine uO ((a : Int), 0, ()) ?_ hin
    repeat refine za ?_
    rfl
   ·left
    rw [if_neg h0] at hin
    refine ⟨((a : Int), false, l ++ [(X : Int)], ()), ?_, ⟨a, rfl, by omega, by omega, hD, hV1 zc, by simp; omega, by simp⟩, by simp only; omega, ze⟩
    refine uF rfl ?_
    refine uO ((a : Int), 0, ()) ?_ hin
    repeat refine za ?_
    rfl
  ·-- the first group
   obtain rfl := g7 rfl
   simp only [xk] at hD hV0 hV1
   simp only [apR, ha]
   have hin : adG (fun i1 => (alB s ((e : Int), true, [], ()) i1).toO) ((a : Int), 0, ()) = some (if a = 0 then Sum.inr (mag (num s), ()) else Sum.inl ((a : Int), false, [(X : Int)], ())) := by
    refine aaL (fun j : Int × Int × Unit => ∃ i : Nat, a ≤ i ∧ i ≤ e ∧ j = ((i : Int), (num ((s.take i).drop a) : Int), ())) (fun j => ((e : Int) - j.1).toNat) (fun _ => (if a = 0 then Sum.inr (mag (num s), ()) else Sum.inl ((a : Int), false, [(X : Int)], ()))) ?_ _ ⟨a, zq _, ha1, by rw [yv zh]; rfl⟩
    rintro j ⟨i, h1, h2, rfl⟩
    rcases zr i e with hi | hi
    ·left
     refine ⟨(((i + 1 : Nat) : Int), (num ((s.take (i + 1)).drop a) : Int), ()), ?_, ⟨i + 1, by omega, by omega, rfl⟩, by simp only; omega, ze⟩
     simp only [alB, aaM, aBn hd h1 hi g3 ha2]
     repeat refine za ?_
     simp (disch := omega) only [aaJ, aaA, aaP, aa0, abO, aaM, zu, zp, aaC, zt]
     rfl
    ·right
     have hie : i = e := zc
     subst hie
     simp only [alB, ha, hX]
     refine uF sd ?_
     refine uN zi ?_
     by_cases h0 : a = 0
     ·rw [if_pos h0]
      refine uT (by simp [h0]) ?_
      refine uC (mag (num s), ()) ?_ rfl
      exact awL hD zi (hV0 h0)
     ·rw [if_neg h0]
      refine uF zh ?_
      repeat refine za ?_
      have : w64 ((i : Int) - 9) = (a : Int) := by rw [hw9]; omega
      rw [this]
      rfl
   by_cases h0 : a = 0
   ·right
    rw [if_pos h0] at hin
    refine uT rfl ?_
    refine uO ((a : Int), 0, ()) ?_ hin
    repeat refine za ?_
    rfl
   ·left
    rw [if_neg h0] at hin
    refine ⟨((a : Int), false, [(X : Int)], ()), ?_, ⟨a, rfl, by omega, by omega, hD, hV1 zc, by simp; omega, by simp⟩, by simp only; omega, ze⟩
    refine uT rfl ?_
    refine uO ((a : Int), 0, ()) ?_ hin
    repeat refine za ?_
    rfl
set_option maxRecDepth 100000
open Go Go.Vg Go.Proofs
noncomputable section
def aLd : LTab := []
def aBt (m : List Int) (negative : Bool) : TT tq :=
 .ite (negative)
 (.call (adQ (m, ())) Dd1 fun y =>
 .ok (((m, !y.1, ()), ())))
 (.ok (((m, false, ()), ())))
def aS3 : LTab := []
def aRC (m : List Int) (negative : Bool) : TT tq :=
 .ite (negative)
 (.call (aiG (m, ())) Dd1 fun y =>
 .ok (((m, !y.1, ()), ())))
 (.ok (((m, false, ()), ())))
def aCU : LTab := []
def aq3 (n : List Int × Bool × Unit) : TT tq :=
 .call (abC (n.1, !n.2.1, ())) Dd5 fun y =>
 .ok (((y.1.1, y.1.2.1, ()), ()))
def aOy : LTab := []
def ayF (n : List Int × Bool × Unit) : TT uA :=
 .call (adQ (n.1, ())) Dd1 fun y =>
 .ite (y.1)
 (.ok ((0, ())))
 (.ite (n.2.1)
 (.ok ((-1, ())))
 (.ok ((1, ()))))
def aOx : LTab := []
def ayE (n : List Int × Bool × Unit) : TT uM :=
 .ite (n.2.1)
 (.call (aiN (n.1, ())) Dd2 fun y =>
 .need (List.length #[45].toList + List.length y.1 ≤ lim) <| .ok ((#[45].toList ++ y.1, ())))
 (.call (aiN (n.1, ())) Dd2 fun y1 =>
 .ok ((y1.1, ())))
def aRb : LTab := []
def aCS (n : List Int × Bool × Unit) (o : List Int × Bool × Unit) : TT tq :=
 .ite (n.2.1 == o.2.1)
 (.call (am9 (n.1, o.1, ())) Dd0 fun y =>
 .call (abC (y.1, n.2.1, ())) Dd5 fun y1 =>
 .ok (((y1.1.1, y1.1.2.1, ()), ())))
 (.call (aeB (n.1, o.1, ())) Dd6 fun y2 =>
 .ite (decide (y2.1 < 0))
 (.call (akL (o.1, n.1, ())) Dd0 fun y3 =>
 .call (abC (y3.1, o.2.1, ())) Dd5 fun y4 =>
 .ok (((y4.1.1, y4.1.2.1, ()), ())))
 (.call (akL (n.1, o.1, ())) Dd0 fun y5 =>
 .call (abC (y5.1, n.2.1, ())) Dd5 fun y6 =>
 .ok (((y6.1.1, y6.1.2.1, ()), ()))))
def al4 (s : List Int × Bool × Unit) (o : List Int × Bool × Unit) : TT tq :=
 .call (arK ((o.1, o.2.1, ()), ())) Dd5 fun y =>
 .call (aJq ((s.1, s.2.1, ()), y.1, ())) Dd5 fun y1 =>
 .ok (((y1.1.1, y1.1.2.1, ()), ()))
def aDL : LTab := []
def al3 (s : List Int × Bool × Unit) (o : List Int × Bool × Unit) : TT tq :=
 .call (akB (s.1, o.1, ())) Dd0 fun y =>
 .call (ai6 (y.1, !s.2.1 == o.2.1, ())) Dd5 fun y1 =>
 .ok (((y1.1.1, y1.1.2.1, ()), ()))
def aHD : LTab := []
def apP (n : List Int × Bool × Unit) (m : List Int) : TT tq :=
 .call (acM (n.1, m, ())) Dd0 fun y =>
 .call (abC (y.1, n.2.1, ())) Dd5 fun y1 =>
 .ok (((y1.1.1, y1.1.2.1, ()), ()))
def aLc : LTab := []
def atP (n : List Int × Bool × Unit) (d : List Int) : TT tq :=
 .call (abI (n.1, d, ())) Dd4 fun y =>
 .ite (n.2.1)
 (.call (adQ (y.2.1, ())) Dd1 fun y1 =>
 .ite (!y1.1)
 (.call (am9 (y.1, [1], ())) Dd0 fun y2 =>
 .call (abC (y2.1, n.2.1, ())) Dd5 fun y3 =>
 .ok (((y3.1.1, y3.1.2.1, ()), ())))
 (.call (abC (y.1, n.2.1, ())) Dd5 fun y4 =>
 .ok (((y4.1.1, y4.1.2.1, ()), ()))))
 (.call (abC (y.1, n.2.1, ())) Dd5 fun y5 =>
 .ok (((y5.1.1, y5.1.2.1, ()), ())))
def aLf : LTab := []
def aBu (a : List UInt8) : TT tq :=
 .call (ab4 (a, #[45].toList, ())) Dd7 fun y =>
 .call (ahQ (y.1, ())) Dd0 fun y1 =>
 .ok (((y1.1, y.2.1, ()), ()))
def aHT : LTab := []
def apT (s : List UInt8) (prefix0 : List UInt8) : TT (List UInt8 × Bool × Unit) :=
 .tt <| .tt <| .tt <| .tt <| .ite (decide (len s ≥ len prefix0))
 (.need (inc (len prefix0) (len s)) <| .ite (!List.take (Int.toNat (len prefix0)) s == prefix0)
 (.ok ((s, false, ())))
 (.need (inc (len prefix0) (len s)) <| .ok ((List.take (List.length s - Int.toNat (len prefix0)) (List.drop (Int.toNat (len prefix0)) s), true, ()))))
 (.ok ((s, false, ())))
def aK0 : LTab := []
def atK (x : ul × List Int × Unit) : TT uq :=
 .call (aiM (x.1.1, ())) Dd6 fun y =>
 .ite (decide (y.1 > 600))
 (.ok (((#[].toList, #[].toList, ()), 6, ())))
 (.call (aiM (x.2.1, ())) Dd6 fun y1 =>
 .ite (decide (y1.1 > 600))
 (.ok (((#[].toList, #[].toList, ()), 6, ())))
 (.call (akM ((x.1.1, x.1.2.1, ()), ())) Dd2 fun y2 =>
 .call (aiN (x.2.1, ())) Dd2 fun y3 =>
 .ok (((y2.1, y3.1, ()), 0, ()))))
def aHE : LTab := []
def apQ (n : List Int × Bool × Unit) (d : List Int) : TT uZ :=
 .call (ahK (n.1, d, ())) Dd0 fun y =>
 .call (abI (n.1, y.1, ())) Dd4 fun y1 =>
 .call (abI (d, y.1, ())) Dd4 fun y2 =>
 .call (abC (y1.1, n.2.1, ())) Dd5 fun y3 =>
 .ok ((((y3.1.1, y3.1.2.1, ()), y2.1, ()), ()))
def aFd : LTab := []
def auY (x : ul × List Int × Unit) : TT uZ :=
 .call (af0 ((x.1.1, x.1.2.1, ()), ())) Dd5 fun y =>
 .ok ((((y.1.1, y.1.2.1, ()), x.2.1, ()), ()))
def aQ8 : LTab := []
def aCN (x : ul × List Int × Unit) (y : ul × List Int × Unit) : TT uZ :=
 .call (ahK (x.2.1, y.2.1, ())) Dd0 fun y1 =>
 .call (abI (y.2.1, y1.1, ())) Dd4 fun y2 =>
 .call (abI (x.2.1, y1.1, ())) Dd4 fun y3 =>
 .call (aeC ((x.1.1, x.1.2.1, ()), y2.1, ())) Dd5 fun y4 =>
 .call (aeC ((y.1.1, y.1.2.1, ()), y3.1, ())) Dd5 fun y5 =>
 .call (aoL (y4.1, y5.1, ())) Dd5 fun y6 =>
 .call (ahK (y6.1.1, y1.1, ())) Dd0 fun y7 =>
 .call (abI (y6.1.1, y7.1, ())) Dd4 fun y8 =>
 .call (abI (y.2.1, y7.1, ())) Dd4 fun y9 =>
 .call (abC (y8.1, y6.1.2.1, ())) Dd5 fun y10 =>
 .call (acM (y3.1, y9.1, ())) Dd0 fun y11 =>
 .ok ((((y10.1.1, y10.1.2.1, ()), y11.1, ()), ()))
def aQ6 : LTab := []
def aI9 (x : ul × List Int × Unit) (y : ul × List Int × Unit) : TT uZ :=
 .call (ajB (((y.1.1, y.1.2.1, ()), y.2.1, ()), ())) Dd8 fun y1 =>
 .call (ar0 (((x.1.1, x.1.2.1, ()), x.2.1, ()), y1.1, ())) Dd8 fun y2 =>
 .ok ((((y2.1.1.1, y2.1.1.2.1, ()), y2.1.2.1, ()), ()))
def aQ7 : LTab := []
def aCM (x : ul × List Int × Unit) (y : ul × List Int × Unit) : TT uZ :=
 .call (ahK (x.1.1, y.2.1, ())) Dd0 fun y1 =>
 .call (ahK (y.1.1, x.2.1, ())) Dd0 fun y2 =>
 .call (abI (x.1.1, y1.1, ())) Dd4 fun y3 =>
 .call (abI (x.2.1, y2.1, ())) Dd4 fun y4 =>
 .call (abI (y.1.1, y2.1, ())) Dd4 fun y5 =>
 .call (abI (y.2.1, y1.1, ())) Dd4 fun y6 =>
 .call (acM (y3.1, y5.1, ())) Dd0 fun y7 =>
 .call (abC (y7.1, !x.1.2.1 == y.1.2.1, ())) Dd5 fun y8 =>
 .call (acM (y4.1, y6.1, ())) Dd0 fun y9 =>
 .ok ((((y8.1.1, y8.1.2.1, ()), y9.1, ()), ()))
def aFe : LTab := []
def auZ (x : ul × List Int × Unit) : TT uZ :=
 .call (abC (x.2.1, x.1.2.1, ())) Dd5 fun y =>
 .ok ((((y.1.1, y.1.2.1, ()), x.1.1, ()), ()))
def aK2 : LTab := []
def atL (x : ul × List Int × Unit) (y : ul × List Int × Unit) : TT uA :=
 .call (aeC ((x.1.1, x.1.2.1, ()), y.2.1, ())) Dd5 fun y1 =>
 .call (aeC ((y.1.1, y.1.2.1, ()), x.2.1, ())) Dd5 fun y2 =>
 .call (af0 (y2.1, ())) Dd5 fun y3 =>
 .call (aoL (y1.1, y3.1, ())) Dd5 fun y4 =>
 .call (akN (y4.1, ())) Dd6 fun y5 =>
 .ok ((y5.1, ()))
def aOm : LTab := []
def ax2 (x : ul × List Int × Unit) (scale : List Int) : TT tq :=
 .call (acM (scale, [2], ())) Dd0 fun y =>
 .call (aeC ((x.1.1, x.1.2.1, ()), y.1, ())) Dd5 fun y1 =>
 .call (abC (x.2.1, false, ())) Dd5 fun y2 =>
 .call (aoL (y1.1, y2.1, ())) Dd5 fun y3 =>
 .call (acM (x.2.1, [2], ())) Dd0 fun y4 =>
 .call (akO ((y3.1.1, y3.1.2.1, ()), y4.1, ())) Dd5 fun y5 =>
 .ok (((y5.1.1, y5.1.2.1, ()), ()))
def aMj : LTab := []
def awF (s : List Int × Bool × Unit) : TT tg :=
 .call (alO (s.1, ())) Dd6 fun y =>
 .ite (decide (y.1 > 600))
 (.ok ((#[].toList, 6, ())))
 (.ite (s.2.1)
 (.call (alQ (s.1, ())) Dd2 fun y1 =>
 .need (List.length #[45].toList + List.length y1.1 ≤ lim) <| .ok ((#[45].toList ++ y1.1, 0, ())))
 (.call (alQ (s.1, ())) Dd2 fun y2 =>
 .ok ((y2.1, 0, ()))))
end
theorem aCe {p q : Int × Int} (h : (sg p.1, sg p.2, ()) = (sg q.1, sg q.2, ())) : p = q := by
 obtain ⟨h1, h2⟩ := Prod.mk.inj h
 obtain ⟨h2, -⟩ := Prod.mk.inj h2
 exact Prod.ext (aqA h1) (aqA h2)
theorem aGw {p q : Int × Nat} (h : (sg p.1, mag p.2, ()) = (sg q.1, mag q.2, ())) : p = q := by
 obtain ⟨h1, h2⟩ := Prod.mk.inj h
 obtain ⟨h2, -⟩ := Prod.mk.inj h2
 exact Prod.ext (aqA h1) (ad7 h2)
theorem avX {p q : Rat × Rat} (h : (rt p.1, rt p.2, ()) = (rt q.1, rt q.2, ())) : p = q := by
 obtain ⟨h1, h2⟩ := Prod.mk.inj h
 obtain ⟨h2, -⟩ := Prod.mk.inj h2
 exact Prod.ext (aAM h1) (aAM h2)
theorem aR9 {p q : Rat × Nat} (h : (rt p.1, mag p.2, ()) = (rt q.1, mag q.2, ())) : p = q := by
 obtain ⟨h1, h2⟩ := Prod.mk.inj h
 obtain ⟨h2, -⟩ := Prod.mk.inj h2
 exact Prod.ext (aAM h1) (ad7 h2)
theorem aFn (m : List Int) (negative : Bool) (y) (h : abC (m, negative, ()) = some y) : (aBt m negative).toO = some y := by
 injection h with h
 subst h
 cases negative
 ·rfl
 ·exact uT rfl (uC (len m == 0, ()) rfl rfl)
theorem ab1 {n : Nat} {b : Bool} {w : Int} (hn : n = w.natAbs) (hb : w = 0 ∨ b = decide (w < 0)) : abC (mag n, b, ()) = some (sg w, ()) := by
 subst hn
 unfold abC sg
 rcases hb with rfl | rfl
 ·simp [mag_zero, len]
 ·by_cases h0 : w = 0
  ·subst h0; simp
  ·have : (len (mag w.natAbs) == 0) = false := by
    have h1 : mag w.natAbs ≠ [] := fun h2 => by have := mag_nil_iff.1 h2; omega
    have h3 : (mag w.natAbs).length ≠ 0 := fun h2 => h1 (zW.1 h2)
    rw [aaC, beq_eq_false_iff_ne]; omega
   simp only [this, wG, Bool.and_true]
theorem aPW (m : List Int) (negative : Bool) (y) (h : ai6 (m, negative, ()) = some y) : (aRC m negative).toO = some y := by
 injection h with h
 subst h
 cases negative
 ·rfl
 ·exact uT rfl (uC (len m == 0, ()) rfl rfl)
theorem aBO {n : Nat} {b : Bool} {w : Int} (hn : n = w.natAbs) (hb : w = 0 ∨ b = decide (w < 0)) : ai6 (mag n, b, ()) = some (sg w, ()) := by
 subst hn
 unfold ai6 sg
 rcases hb with rfl | rfl
 ·simp [mag_zero, len]
 ·by_cases h0 : w = 0
  ·subst h0; simp
  ·have : (len (mag w.natAbs) == 0) = false := by
    have h1 : mag w.natAbs ≠ [] := fun h2 => by have := mag_nil_iff.1 h2; omega
    have h3 : (mag w.natAbs).length ≠ 0 := fun h2 => h1 (zW.1 h2)
    rw [aaC, beq_eq_false_iff_ne]; omega
   simp only [this, wG, Bool.and_true]
theorem asA {a : Int} (h1 : Bd 8 a.natAbs) : af0 (sg a, ()) = some (sg (-a), ()) := aaG (enc := fun x : Int => (sg x, ())) a h1 (fun b hb => aqA (Prod.mk.inj hb).1)
theorem aDz {a b : Int} (h1 : Bd 7 a.natAbs) (h2 : Bd 7 b.natAbs) : aoL (sg a, sg b, ()) = some (sg (a + b), ()) := aaG (enc := fun x : Int × Int => (sg x.1, sg x.2, ())) (a, b) ⟨h1, h2⟩ (fun b hb => aCe hb)
theorem ayG (n : SgT) (y) (h : af0 (n, ()) = some y) : (aq3 n).toO = some y := by
 obtain ⟨a, hp, hx, rfl⟩ := aaD h
 obtain ⟨rfl, -⟩ := Prod.mk.inj hx
 refine uC (sg (-a), ()) (ab1 zc ?_) rfl
 by_cases h0 : a = 0
 ·left; omega
 ·right
  show (!decide (a < 0)) = decide (-a < 0)
  by_cases h1 : a < 0
  ·rw [zo h1, zn zc]; rfl
  ·rw [zn h1, zo zc]; rfl
theorem aLb (n o : SgT) (y) (h : aoL (n, o, ()) = some y) : (aCS n o).toO = some y := by
 obtain ⟨⟨a, b⟩, hp, hx, rfl⟩ := aaD h
 obtain ⟨rfl, hx2⟩ := Prod.mk.inj hx; obtain ⟨rfl, -⟩ := Prod.mk.inj hx2; dsimp only
 obtain ⟨l1, l2⟩ := hp
 simp only at l1 l2
 unfold aCS
 dsimp only
 by_cases hs : (decide (a < 0) == decide (b < 0)) = true
 ·refine uT hs ?_
  have hs' : (a < 0 ↔ b < 0) := by simpa using hs
  refine uC _ (aF3 (aaF l1 zc) (aaF l2 zc)) ?_
  refine uC (sg (a + b), ()) (ab1 zc (Or.inr ?_)) rfl
  exact decide_eq_decide.2 zc
 ·have hs' : ¬ (a < 0 ↔ b < 0) := by simpa using hs
  refine uF (by simpa using hs) ?_
  refine uC _ (avG (aaF l1 zc) (aaF l2 zc)) ?_
  by_cases hc : a.natAbs < b.natAbs
  ·refine uT ?_ ?_
   ·unfold avA; rw [if_pos zc]; rfl
   ·refine uC _ (aBU (aaF l2 zc) zc) ?_
    refine uC (sg (a + b), ()) (ab1 zc (Or.inr ?_)) rfl
    exact decide_eq_decide.2 zc
  ·refine uF ?_ ?_
   ·unfold avA
    rw [if_neg zc]
    split <;> rfl
   ·refine uC _ (aBU (aaF l1 zc) zc) ?_
    refine uC (sg (a + b), ()) (ab1 zc ?_) rfl
    by_cases h0 : a + b = 0
    ·exact Or.inl h0
    ·exact Or.inr (decide_eq_decide.2 zc)
theorem aDw {a : Int} (h1 : Bd 8 a.natAbs) : arK (sg a, ()) = some (sg (-a), ()) := aaG (enc := fun x : Int => (sg x, ())) a h1 (fun b hb => aqA (Prod.mk.inj hb).1)
theorem aRy {a b : Int} (h1 : Bd 7 a.natAbs) (h2 : Bd 7 b.natAbs) : aJq (sg a, sg b, ()) = some (sg (a + b), ()) := aaG (enc := fun x : Int × Int => (sg x.1, sg x.2, ())) (a, b) ⟨h1, h2⟩ (fun b hb => aCe hb)
theorem az2 {a : Int} (h1 : Bd 8 a.natAbs) : akN (sg a, ()) = some (a.sign, ()) := aaG (enc := fun x : Int => (sg x, ())) a h1 (fun b hb => aqA (Prod.mk.inj hb).1)
theorem aHC (n : SgT) (y) (h : akN (n, ()) = some y) : (ayF n).toO = some y := by
 obtain ⟨a, hp, hx, rfl⟩ := aaD h
 obtain ⟨rfl, -⟩ := Prod.mk.inj hx
 unfold ayF
 dsimp only
 refine uC _ (ar9 _) ?_
 rcases xj a 0 with h0 | h0 | h0
 ·refine uF zh (uT zh ?_)
  rw [xd h0]; rfl
 ·subst h0; exact uT zi rfl
 ·refine uF zh (uF zh ?_)
  rw [xq h0]; rfl
theorem az1 {a : Int} (h1 : Bd 0 a.natAbs) : akM (sg a, ()) = some (dec a, ()) := aaG (enc := fun x : Int => (sg x, ())) a h1 (fun b hb => aqA (Prod.mk.inj hb).1)
theorem aJh {n : Nat} (h : Bd 0 n) : (aa2 n).length ≤ 9000001 := by
 have := ajR (k := 1000000 * 4 ^ 0) h
 omega
theorem aHB (n : SgT) (y) (h : akM (n, ()) = some y) : (ayE n).toO = some y := by
 obtain ⟨a, hp, hx, rfl⟩ := aaD h
 obtain ⟨rfl, -⟩ := Prod.mk.inj hx
 unfold ayE
 dsimp only
 have hl := aJh hp
 by_cases h0 : a < 0
 ·refine uT zh (uC _ (ap2 hp) (uN ?_ ?_))
  ·show 1 + (aa2 a.natAbs).length ≤ lim
   unfold lim; omega
  ·rw [aiB h0]; rfl
 ·refine uF zh (uC _ (ap2 hp) ?_)
  rw [abZ zc]; rfl
theorem aiP {a : Int} {b : Nat} (h1 : Bd 7 a.natAbs) (h2 : Bd 7 b) : aeC (sg a, mag b, ()) = some (sg (a * b), ()) := aaG (enc := fun x : Int × Nat => (sg x.1, mag x.2, ())) (a, b) ⟨h1, h2⟩ (fun b hb => aGw hb)
theorem aCT (n : SgT) (m : List Int) (y) (h : aeC (n, m, ()) = some y) : (apP n m).toO = some y := by
 obtain ⟨⟨a, b⟩, hp, hx, rfl⟩ := aaD h
 obtain ⟨rfl, hx2⟩ := Prod.mk.inj hx; obtain ⟨rfl, -⟩ := Prod.mk.inj hx2; dsimp only
 obtain ⟨l1, l2⟩ := hp
 simp only at l1 l2
 unfold apP
 dsimp only
 refine uC _ (ahR (aaF l1 zc) (aaF l2 zc)) ?_
 refine uC (sg (a * b), ()) (ab1 (by rw [yD]; rfl) ?_) rfl
 rcases zD b with h0 | h0
 ·left; subst h0; simp
 ·right
  refine decide_eq_decide.2 ⟨fun h => xY h zc, fun h => ?_⟩
  rcases zS a 0 with h2 | h2
  ·exact h2
  ·have := yi h2 (show (0 : Int) ≤ b by omega); omega
theorem atN {a : Int} {d : Nat} (ha : a < 0) (hd : d ≠ 0) : a / (d : Int) = -((if a.natAbs % d = 0 then a.natAbs / d else a.natAbs / d + 1 : Nat) : Int) := by
 obtain ⟨n, hn⟩ : ∃ n : Nat, a = -(n : Int) := ⟨a.natAbs, by omega⟩
 subst hn
 rw [xH, zQ]
 have e := xU n d
 have hlt := yU n (show 0 < d by omega)
 generalize hq : n / d = q at e
 generalize hr : n % d = r at e hlt
 by_cases h0 : r = 0
 ·rw [if_pos h0]
  have : -(n : Int) = -(q : Int) * d := by
   rw [← e, h0]; simp; grind
  rw [this, Int.mul_ediv_cancel _ zc]
 ·rw [if_neg h0]
  have h1 : -(n : Int) = ((d : Int) - r) + (-((q + 1 : Nat) : Int)) * d := by
   rw [← e]; simp; grind
  rw [h1, Int.add_mul_ediv_right _ _ zc, xr zc zc, vh]
theorem aBV {a : Int} {b : Nat} (h1 : Bd 7 a.natAbs) (h2 : Bd 7 b) (h3 : b ≠ 0) : akO (sg a, mag b, ()) = some (sg (a / b), ()) := aaG (enc := fun x : Int × Nat => (sg x.1, mag x.2, ())) (a, b) ⟨h1, h2, h3⟩ (fun b hb => aGw hb)
theorem atC : mag 1 = [1] := aqV zc zc
theorem aSx : mag 2 = [2] := aqV zc zc
theorem aFl (n : SgT) (d : List Int) (y) (h : akO (n, d, ()) = some y) : (atP n d).toO = some y := by
 obtain ⟨⟨a, b⟩, hp, hx, rfl⟩ := aaD h
 obtain ⟨rfl, hx2⟩ := Prod.mk.inj hx; obtain ⟨rfl, -⟩ := Prod.mk.inj hx2; dsimp only
 obtain ⟨l1, l2, l3⟩ := hp
 simp only at l1 l2 l3
 unfold atP
 dsimp only
 refine uC _ (acG (aaF l1 zc) (aaF l2 zc) l3) ?_
 by_cases ha : a < 0
 ·refine uT zh ?_
  refine uC _ (ar9 _) ?_
  have hf := atN ha l3
  have hbd := aaS b l1
  generalize a.natAbs / b = q at hf hbd
  generalize hrr : a.natAbs % b = r at hf
  by_cases hr : r = 0
  ·rw [if_pos hr] at hf
   refine uF zh ?_
   refine uC (sg (a / b), ()) (ab1 (n := q) zc ?_) rfl
   by_cases h0 : a / (b : Int) = 0
   ·exact Or.inl h0
   ·exact Or.inr (decide_eq_decide.2 zc)
  ·rw [if_neg hr] at hf
   refine uT zh ?_
   have := aF3 (a := q) (b := 1) (aaF hbd zc) (aaF (aaH zc) zc)
   rw [atC] at this
   refine uC _ this ?_
   refine uC (sg (a / b), ()) (ab1 (n := q + 1) zc (Or.inr (decide_eq_decide.2 zc))) rfl
 ·refine uF zh ?_
  obtain ⟨n, rfl⟩ := zv (show 0 ≤ a by omega)
  have hdv : ((n : Int) / (b : Int)) = ((n / b : Nat) : Int) := zi
  rw [hdv]
  refine uC (sg ((n / b : Nat) : Int), ()) (ab1 (n := n / b) rfl (Or.inr (decide_eq_decide.2 ?_))) rfl
  generalize n / b = q
  omega
theorem aDc (s p : List UInt8) (hs : s.length ≤ 4611686018427387904) (y) (h : ab4 (s, p, ()) = some y) : (apT s p).toO = some y := by
 injection h with h
 subst h
 unfold apT
 dsimp only
 rcases zr s.length p.length with hl | hl
 ·repeat refine za ?_
  have : p.isPrefixOf s = false := by
   cases hp : p.isPrefixOf s with
   | false => rfl
   | true => have := (wS.1 hp).length_le; omega
  simp [this, aaJ]
 ·refine uV (uV (uV (uV (uT sd (uN sd ?_)))))
  simp only [aaC, zp]
  by_cases hp : p.isPrefixOf s = true
  ·have h2 := List.prefix_iff_eq_take.1 (wS.1 hp)
   refine uF (by rw [← h2]; simp) (uN sd ?_)
   rw [if_pos hp, zx zi]; rfl
  ·refine uT ?_ ?_
   ·simp only [zT, beq_eq_false_iff_ne]
    intro h2
    exact hp (wS.2 (List.prefix_iff_eq_take.2 h2.symm))
   ·rw [if_neg hp]; rfl
theorem aF4 (z : Int) : ab4 (dec z, #[45].toList, ()) = some (aa2 z.natAbs, decide (z < 0), ()) := by
 unfold ab4
 show some (if [45].isPrefixOf (dec z) = true then _ else _) = _
 by_cases h : z < 0
 ·rw [aiB h, zo h]
  simp [List.isPrefixOf]
 ·rw [abZ zc, zn h]
  have : [45].isPrefixOf (aa2 z.natAbs) = false := by
   have := adY z.natAbs
   cases hd : aa2 z.natAbs with
   | nil => rfl
   | cons a l =>
    rw [hd] at this
    simp only [wZ, ne_eq, Option.some.injEq] at this
    simp [List.isPrefixOf, Ne.symm this]
  rw [this]; simp
theorem aoQ {z : Int} (h : Bd 7 z.natAbs) : agI (dec z, ()) = some (sg z, ()) := aaG (enc := fun x : Int => (dec x, ())) z h (fun b hb => ajP (Prod.mk.inj hb).1)
theorem aFo (a : List UInt8) (y) (h : agI (a, ()) = some y) : (aBu a).toO = some y := by
 obtain ⟨z, hp, hx, rfl⟩ := aaD h
 obtain ⟨rfl, -⟩ := Prod.mk.inj hx
 exact uC _ (aF4 z) (uC _ (aL3 (aaF hp zc)) rfl)
end Go.Vs
