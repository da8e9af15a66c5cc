/-
  Trees of what the functions compute, and their laws. Own work; no condition.
-/
import Derived.Test.YtakjojajnblpoaaGreatDoorClX1
import Derived.Test.YtakjojajnblpoaaGreatDoorProg
set_option linter.unusedVariables false
set_option linter.unusedSimpArgs false
set_option maxRecDepth 100000
namespace Go.Vs
open Go Go.Vg Go.Proofs
noncomputable section
def aMH : LTab := []
def ap2 (m : List Int) : TT uI :=
 .ok ((len m == 0, ()))
def aMI : LTab := [(207, 12, 1025, ⟨0, (List Int) × Unit, .dat (.s 0) uZ <| .nil, [2], [], 0⟩)]
def aAE (m : List Int) (i : (List Int) × Unit) : TT (tW ⊕ ux) :=
 .ite (decide (len i.1 > 0))
 (.need (inb (w64 (len i.1 - 1)) (len i.1)) <| .ite (gi i.1 (w64 (len i.1 - 1)) 0 == 0)
 (.need (inc (w64 (len i.1 - 1)) (len i.1)) <| .tt <| .lt (List.take (Int.toNat (w64 (len i.1 - 1))) i.1 : List Int) fun z => .vT (vU z <| True ∧ True) <| .tr <| .ok (.inl ((z, ()))))
 (.ok (.inr ((i.1, ())))))
 (.ok (.inr ((i.1, ()))))
def awY (m : List Int) : TT ux :=
 .loop 0 (.tt <| .vT (vU m <| True ∧ True) <| .tr <| .ok ((m, ()))) (aAE m)
def aJM : LTab := [(175, 58, 6144, ⟨0, (Int) × (Int) × Unit, .dat (.s 4) uk <| .dat (.s 3) uJ <| .nil, [2, 0], [], 0⟩)]
def aw1 (m : List Int) (i : (Int) × (Int) × Unit) : TT (uG ⊕ uK) :=
 .ite (decide (i.1 ≥ 0))
 (.need (inb i.1 (len m)) <| .tt <| .lt (w64 (i.1 - 1) : Int) fun z1 => .lt (abE (abE (i.2.1 * 1000000000) + abE (gi m i.1 0)) : Int) fun z2 => .vT (vV z2 z1 (0 : Int) m) <| .tr <| .ok (.inl ((z1, z2, ()))))
 (.ok (.inr ((i.2.1, ()))))
def aAF (m : List Int) : TT uK :=
 .loop 0 (.tt <| .lt (w64 (len m - 1) : Int) fun z => .vT (vV (0 : Int) z (0 : Int) m) <| .tr <| .ok ((z, 0, ()))) (aw1 m)
def aEx : LTab := [(141, 58, 10240, ⟨0, (Int) × Unit, .dat (.s 5) uk <| .nil, [0, 1], [], 0⟩)]
def ap6 (m : List Int) (o : List Int) (i : (Int) × Unit) : TT (uW ⊕ uK) :=
 .ite (decide (i.1 ≥ 0))
 (.need (inb i.1 (len m)) <| .need (inb i.1 (len o)) <| .ite (gi m i.1 0 != gi o i.1 0)
 (.need (inb i.1 (len m)) <| .need (inb i.1 (len o)) <| .tt <| .tt <| .tt <| .tt <| .tt <| .tt <| .ite (gi m i.1 0 != gi m i.1 0)
 (.ite (gi o i.1 0 != gi o i.1 0)
 (.ok (.inr ((0, ()))))
 (.ok (.inr ((-1, ())))))
 (.ite (gi o i.1 0 != gi o i.1 0)
 (.ok (.inr ((1, ()))))
 (.ite (decide (gi m i.1 0 < gi o i.1 0))
 (.ok (.inr ((-1, ()))))
 (.ite (decide (gi m i.1 0 > gi o i.1 0))
 (.ok (.inr ((1, ()))))
 (.ok (.inr ((0, ()))))))))
 (.tt <| .lt (w64 (i.1 - 1) : Int) fun z1 => .vT (vW z1 m o) <| .tr <| .ok (.inl ((z1, ())))))
 (.ok (.inr ((0, ()))))
def aiG (m : List Int) (o : List Int) : TT uK :=
 .ite (len m != len o)
 (.tt <| .tt <| .tt <| .tt <| .tt <| .tt <| .ite (len m != len m)
 (.ite (len o != len o)
 (.ok ((0, ())))
 (.ok ((-1, ()))))
 (.ite (len o != len o)
 (.ok ((1, ())))
 (.ite (decide (len m < len o))
 (.ok ((-1, ())))
 (.ite (decide (len m > len o))
 (.ok ((1, ())))
 (.ok ((0, ())))))))
 (.loop 0 (.tt <| .lt (w64 (len m - 1) : Int) fun z => .vT (vW z m o) <| .tr <| .ok ((z, ()))) (ap6 m o))
def aMJ : LTab := [(181, 3, 1025, ⟨0, (List Int) × (List Int) × Unit, .dat (.s 0) uZ <| .dat (.s 1) uZ <| .nil, [4], [], 0⟩), (181, 250, 10241, ⟨1, (Int) × (Int) × (List Int) × Unit, .dat (.s 22) uk <| .dat (.s 6) un <| .app (.s 5) 10 189 un <| .nil, [21, 20, 1, 4], [], 1⟩)]
def aAG (m : List Int) (o : List Int) (j : List Int × List Int × Unit) (i : (Int) × (Int) × (List Int) × Unit) : TT (uP ⊕ ux) :=
 .ite (decide (i.1 < len j.1))
 (.need (inb i.1 (len j.1)) <| .ite (decide (i.1 < len j.2.1))
 (.need (inb i.1 (len j.2.1)) <| .ite (decide (adY (adY (gi j.1 i.1 0 + i.2.1) + gi j.2.1 i.1 0) ≥ 1000000000))
 (.need ((List.length i.2.2.1 + 1) * 4 ≤ 140737488355328) <| .tt <| .lt (w64 (i.1 + 1) : Int) fun z1 => .lt (List.take (List.length i.2.2.1) i.2.2.1 ++ [adY (adY (adY (gi j.1 i.1 0 + i.2.1) + gi j.2.1 i.1 0) - 1000000000)] : List Int) fun z2 => .need ((((10) = (10)) ∧ (((0) = (0)) ∧ ((List.length i.2.2.1 + 1 = List.length z2) ∧ ((true) = (true))))) ∧ ((1 : Int) = 1) ∧ ((z1 : Int) = z1) ∧ ((len j.1 : Int) = len j.1) ∧ ((j.1 : List Int) = j.1) ∧ ((j.2.1 : List Int) = j.2.1) ∧ True ∧ True) <| .vT (vS (vX 189 z2) True) <| .ok (.inl ((z1, 1, z2, ()))))
 (.need ((List.length i.2.2.1 + 1) * 4 ≤ 140737488355328) <| .tt <| .lt (w64 (i.1 + 1) : Int) fun z3 => .lt (List.take (List.length i.2.2.1) i.2.2.1 ++ [adY (adY (gi j.1 i.1 0 + i.2.1) + gi j.2.1 i.1 0)] : List Int) fun z4 => .need ((((10) = (10)) ∧ (((0) = (0)) ∧ ((List.length i.2.2.1 + 1 = List.length z4) ∧ ((true) = (true))))) ∧ ((0 : Int) = 0) ∧ ((z3 : Int) = z3) ∧ ((len j.1 : Int) = len j.1) ∧ ((j.1 : List Int) = j.1) ∧ ((j.2.1 : List Int) = j.2.1) ∧ True ∧ True) <| .vT (vS (vX 189 z4) True) <| .ok (.inl ((z3, 0, z4, ())))))
 (.ite (decide (adY (gi j.1 i.1 0 + i.2.1) ≥ 1000000000))
 (.need ((List.length i.2.2.1 + 1) * 4 ≤ 140737488355328) <| .tt <| .lt (w64 (i.1 + 1) : Int) fun z5 => .lt (List.take (List.length i.2.2.1) i.2.2.1 ++ [adY (adY (gi j.1 i.1 0 + i.2.1) - 1000000000)] : List Int) fun z6 => .need ((((10) = (10)) ∧ (((0) = (0)) ∧ ((List.length i.2.2.1 + 1 = List.length z6) ∧ ((true) = (true))))) ∧ ((1 : Int) = 1) ∧ ((z5 : Int) = z5) ∧ ((len j.1 : Int) = len j.1) ∧ ((j.1 : List Int) = j.1) ∧ ((j.2.1 : List Int) = j.2.1) ∧ True ∧ True) <| .vT (vS (vX 189 z6) True) <| .ok (.inl ((z5, 1, z6, ()))))
 (.need ((List.length i.2.2.1 + 1) * 4 ≤ 140737488355328) <| .tt <| .lt (w64 (i.1 + 1) : Int) fun z7 => .lt (List.take (List.length i.2.2.1) i.2.2.1 ++ [adY (gi j.1 i.1 0 + i.2.1)] : List Int) fun z8 => .need ((((10) = (10)) ∧ (((0) = (0)) ∧ ((List.length i.2.2.1 + 1 = List.length z8) ∧ ((true) = (true))))) ∧ ((0 : Int) = 0) ∧ ((z7 : Int) = z7) ∧ ((len j.1 : Int) = len j.1) ∧ ((j.1 : List Int) = j.1) ∧ ((j.2.1 : List Int) = j.2.1) ∧ True ∧ True) <| .vT (vS (vX 189 z8) True) <| .ok (.inl ((z7, 0, z8, ()))))))
 (.ite (decide (i.2.1 > 0))
 (.need ((List.length i.2.2.1 + 1) * 4 ≤ 140737488355328) <| .ok (.inr ((List.take (List.length i.2.2.1 + 1) (List.take (List.length i.2.2.1) i.2.2.1 ++ [i.2.1]), ()))))
 (.ok (.inr ((List.take (List.length i.2.2.1) i.2.2.1, ())))))
def asI (m : List Int) (o : List Int) (j : (List Int) × (List Int) × Unit) : TT ux :=
 .need (asT Int 0 ≤ 0 ∧ 0 ≤ w64 (len j.1 + 1) ∧ w64 (len j.1 + 1) * (↑4 : Int) ≤ 140737488355328) <| .loop 1 (.tt <| .lt (List.replicate (Int.toNat 0) 0 : List Int) fun z => .vT ((vY 10 0 0 true) ∧ (vZ (0 : Int) (0 : Int) (len j.1) j.1 j.2.1 <| True ∧ True)) <| .vT (vS (vX 189 z) True) <| .ok ((0, 0, z, ()))) (aAG m o j)
def ap3 (m : List Int) (o : List Int) : TT ux :=
 .join 0 (ι := (List Int) × (List Int) × Unit) (.ite (decide (len m < len o))
 (.tt <| .vT (ua m o <| True ∧ True) <| .tr <| .ok (.inl ((o, m, ()))))
 (.tt <| .vT (ua o m <| True ∧ True) <| .tr <| .ok (.inl ((m, o, ()))))) (asI m o)
def aJO : LTab := [(219, 122, 9217, ⟨0, (Int) × (Int) × (List Int) × Unit, .dat (.s 15) uk <| .dat (.s 6) un <| .row 3 un <| .nil, [14, 13, 5, 4, 1], [3], 0⟩)]
def aw3 (m : List Int) (o : List Int) (i : (Int) × (Int) × (List Int) × Unit) : TT (uP ⊕ ux) :=
 .ite (decide (i.1 < len m))
 (.need (inb i.1 (len m)) <| .ite (decide (i.1 < len o))
 (.need (inb i.1 (len o)) <| .ite (decide (gi m i.1 0 < adY (i.2.1 + gi o i.1 0)))
 (.need (inb i.1 (↑(Int.toNat (len m)) : Int)) <| .tt <| .lt (w64 (i.1 + 1) : Int) fun z1 => .lt (List.set i.2.2.1 (0 + Int.toNat i.1) (adY (adY (gi m i.1 0 + 1000000000) - adY (i.2.1 + gi o i.1 0))) : List Int) fun z2 => .vT (ub (1 : Int) z1 (len m) m <| (vY 3 0 (Int.toNat (len m)) true) ∧ True ∧ uc o) <| .vT (vS (vX 189 z2) True) <| .ok (.inl ((z1, 1, z2, ()))))
 (.need (inb i.1 (↑(Int.toNat (len m)) : Int)) <| .tt <| .lt (w64 (i.1 + 1) : Int) fun z3 => .lt (List.set i.2.2.1 (0 + Int.toNat i.1) (adY (gi m i.1 0 - adY (i.2.1 + gi o i.1 0))) : List Int) fun z4 => .vT (ub (0 : Int) z3 (len m) m <| (vY 3 0 (Int.toNat (len m)) true) ∧ True ∧ uc o) <| .vT (vS (vX 189 z4) True) <| .ok (.inl ((z3, 0, z4, ())))))
 (.ite (decide (gi m i.1 0 < i.2.1))
 (.need (inb i.1 (↑(Int.toNat (len m)) : Int)) <| .tt <| .lt (w64 (i.1 + 1) : Int) fun z5 => .lt (List.set i.2.2.1 (0 + Int.toNat i.1) (adY (adY (gi m i.1 0 + 1000000000) - i.2.1)) : List Int) fun z6 => .vT (ub (1 : Int) z5 (len m) m <| (vY 3 0 (Int.toNat (len m)) true) ∧ True ∧ uc o) <| .vT (vS (vX 189 z6) True) <| .ok (.inl ((z5, 1, z6, ()))))
 (.need (inb i.1 (↑(Int.toNat (len m)) : Int)) <| .tt <| .lt (w64 (i.1 + 1) : Int) fun z7 => .lt (List.set i.2.2.1 (0 + Int.toNat i.1) (adY (gi m i.1 0 - i.2.1)) : List Int) fun z8 => .vT (ub (0 : Int) z7 (len m) m <| (vY 3 0 (Int.toNat (len m)) true) ∧ True ∧ uc o) <| .vT (vS (vX 189 z8) True) <| .ok (.inl ((z7, 0, z8, ()))))))
 (.call (acG (List.take (Int.toNat (len m)) i.2.2.1, ())) Dd0 fun y =>
 .ok (.inr ((y.1, ()))))
def am6 (m : List Int) (o : List Int) : TT ux :=
 .need (0 ≤ len m ∧ len m ≤ len m ∧ len m * (↑4 : Int) ≤ 140737488355328) <| .loop 0 (.tt <| .lt (List.replicate (Int.toNat (len m)) 0 : List Int) fun z => .vT (ub (0 : Int) (0 : Int) (len m) m <| (vY 3 0 (Int.toNat (len m)) true) ∧ True ∧ uc o) <| .vT (vS (vX 189 z) True) <| .ok ((0, 0, z, ()))) (aw3 m o)
def aJL : LTab := [(180, 58, 11265, ⟨0, (Int) × (List Int) × Unit, .dat (.s 19) uk <| .row 6 un <| .nil, [18, 17, 5, 4, 1], [6], 0⟩), (180, 59802, 21505, ⟨1, (Int) × (Int) × (List Int) × Unit, .dat (.s 26) uk <| .dat (.s 8) uJ <| .row 6 un <| .nil, [25, 24, 7, 6, 23, 22, 21, 20, 19, 18, 17, 5, 4, 1], [6], 0⟩)]
def aoP (m : List Int) (o : List Int) (i : Int × List Int × Unit) (i1 : (Int) × (Int) × (List Int) × Unit) : TT (uP ⊕ th) :=
 .ite (decide (i1.1 < len o))
 (.need (inb i1.1 (len o)) <| .need (inb (w64 (i.1 + i1.1)) (↑(Int.toNat (w64 (len m + len o))) : Int)) <| .triv (asT Int 1000000000 ≠ 0) zf <| .need (inb (w64 (i.1 + i1.1)) (↑(Int.toNat (w64 (len m + len o))) : Int)) <| .triv (asT Int 1000000000 ≠ 0) zf <| .tt <| .lt (w64 (i1.1 + 1) : Int) fun z2 => .lt (abE (Int.tdiv (abE (i1.2.1 + abE (abE (List.getD i1.2.2.1 (0 + Int.toNat (w64 (i.1 + i1.1))) 0) + abE (abE (gi m i.1 0) * abE (gi o i1.1 0))))) 1000000000) : Int) fun z3 => .lt (List.set i1.2.2.1 (0 + Int.toNat (w64 (i.1 + i1.1))) (adY (Int.tmod (abE (i1.2.1 + abE (abE (List.getD i1.2.2.1 (0 + Int.toNat (w64 (i.1 + i1.1))) 0) + abE (abE (gi m i.1 0) * abE (gi o i1.1 0))))) 1000000000)) : List Int) fun z4 => .vT (ud z3 z2 (len o) o (gi m i.1 0) i.1 (gi m i.1 0) (gi m i.1 0) <| vZ i.1 (decide (i.1 < len m)) i.1 (len m) m <| (vY 6 0 (Int.toNat (w64 (len m + len o))) true) ∧ True ∧ uc o) <| .vT (vS (vX 189 z4) True) <| .ok (.inl ((z2, z3, z4, ()))))
 (.need (inb (w64 (i.1 + len o)) (↑(Int.toNat (w64 (len m + len o))) : Int)) <| .tt <| .lt (w64 (i.1 + 1) : Int) fun z5 => .lt (List.set i1.2.2.1 (0 + Int.toNat (w64 (i.1 + len o))) (adY i1.2.1) : List Int) fun z6 => .vT (ue z5 (len m) m <| (vY 6 0 (Int.toNat (w64 (len m + len o))) true) ∧ True ∧ uc o) <| .vT (vS (vX 189 z6) True) <| .ok (.inr (.inl ((z5, z6, ())))))
def aw0 (m : List Int) (o : List Int) (i : (Int) × (List Int) × Unit) : TT th :=
 .ite (decide (i.1 < len m))
 (.need (inb i.1 (len m)) <| .loop 1 (.tt <| .lt (i.2.1 : List Int) fun z1 => .vT (ud (0 : Int) (0 : Int) (len o) o (gi m i.1 0) i.1 (gi m i.1 0) (gi m i.1 0) <| vZ i.1 (decide (i.1 < len m)) i.1 (len m) m <| (vY 6 0 (Int.toNat (w64 (len m + len o))) true) ∧ True ∧ uc o) <| .vT (vS (vX 189 z1) True) <| .ok ((0, 0, z1, ()))) (aoP m o i))
 (.call (acG (List.take (Int.toNat (w64 (len m + len o))) i.2.1, ())) Dd0 fun y =>
 .ok (.inr ((y.1, ()))))
def am4 (m : List Int) (o : List Int) : TT ux :=
 .need (0 ≤ w64 (len m + len o) ∧ w64 (len m + len o) ≤ w64 (len m + len o) ∧ w64 (len m + len o) * (↑4 : Int) ≤ 140737488355328) <| .loop 0 (.tt <| .lt (List.replicate (Int.toNat (w64 (len m + len o))) 0 : List Int) fun z => .vT (ue (0 : Int) (len m) m <| (vY 6 0 (Int.toNat (w64 (len m + len o))) true) ∧ True ∧ uc o) <| .vT (vS (vX 189 z) True) <| .ok ((0, z, ()))) (aw0 m o)
def aJN : LTab := [(208, 122, 11265, ⟨0, (Int) × (Int) × (List Int) × Unit, .dat (.s 8) uk <| .dat (.s 7) uJ <| .row 4 un <| .nil, [6, 5, 4, 0, 1], [4], 0⟩)]
def aoQ (m : List Int) (d : Int) (i : (Int) × (Int) × (List Int) × Unit) : TT (uP ⊕ tP) :=
 .ite (decide (i.1 ≥ 0))
 (.need (inb i.1 (len m)) <| .need (abE d ≠ 0) <| .need (inb i.1 (↑(Int.toNat (len m)) : Int)) <| .need (abE d ≠ 0) <| .tt <| .lt (w64 (i.1 - 1) : Int) fun z2 => .lt (Int.tmod (abE (abE (i.2.1 * 1000000000) + abE (gi m i.1 0))) (abE d) : Int) fun z3 => .lt (List.set i.2.2.1 (0 + Int.toNat i.1) (adY (abE (Int.tdiv (abE (abE (i.2.1 * 1000000000) + abE (gi m i.1 0))) (abE d)))) : List Int) fun z4 => .vT (ua z3 z2 <| (vY 4 0 (Int.toNat (len m)) true) ∧ (vU (0 : Int) <| True ∧ uf m d)) <| .vT (vS (vX 189 z4) True) <| .ok (.inl ((z2, z3, z4, ()))))
 (.call (acG (List.take (Int.toNat (len m)) i.2.2.1, ())) Dd0 fun y =>
 .ok (.inr ((y.1, adY i.2.1, ()))))
def am5 (m : List Int) (d : Int) : TT tP :=
 .need (0 ≤ len m ∧ len m ≤ len m ∧ len m * (↑4 : Int) ≤ 140737488355328) <| .loop 0 (.tt <| .lt (w64 (len m - 1) : Int) fun z => .lt (List.replicate (Int.toNat (len m)) 0 : List Int) fun z1 => .vT (ua (0 : Int) z <| (vY 4 0 (Int.toNat (len m)) true) ∧ (vU (0 : Int) <| True ∧ uf m d)) <| .vT (vS (vX 189 z1) True) <| .ok ((z, 0, z1, ()))) (aoQ m d)
def aCj : LTab := [(176, 28, 2050, ⟨0, Bool × (List Int) × (Int) × Unit, .appN (.s 3) 2 189 un <| .dat (.s 0) uJ <| .nil, [2], [], 1⟩)]
def aeG (v : Int) (i : Bool × (List Int) × (Int) × Unit) : TT ((Bool × (List Int) × (Int) × Unit) ⊕ ux) :=
 .ite (i.1)
 (.ite (decide (i.2.2.1 > 0))
 (.triv (asT Int 1000000000 ≠ 0) zf <| .need (1 * 4 ≤ 140737488355328) <| .triv (asT Int 1000000000 ≠ 0) zf <| .tt <| .lt ([adY (Int.tmod i.2.2.1 1000000000)] : List Int) fun z => .lt (abE (Int.tdiv i.2.2.1 1000000000) : Int) fun z1 => .vT (vU z1 <| (vY 2 0 1 true) ∧ True ∧ True) <| .vT (vS (vX 189 z) True) <| .ok (.inl ((false, z, z1, ()))))
 (.ok (.inr (([], ())))))
 (.ite (decide (i.2.2.1 > 0))
 (.triv (asT Int 1000000000 ≠ 0) zf <| .need ((List.length i.2.1 + 1) * 4 ≤ 140737488355328) <| .triv (asT Int 1000000000 ≠ 0) zf <| .tt <| .lt (List.take (List.length i.2.1) i.2.1 ++ [adY (Int.tmod i.2.2.1 1000000000)] : List Int) fun z2 => .lt (abE (Int.tdiv i.2.2.1 1000000000) : Int) fun z3 => .need (((z3 : Int) = z3) ∧ (((2) = (2)) ∧ (((0) = (0)) ∧ ((List.length i.2.1 + 1 = List.length z2) ∧ ((true) = (true))))) ∧ True ∧ True) <| .vT (vS (vX 189 z2) True) <| .ok (.inl ((false, z2, z3, ()))))
 (.ok (.inr ((List.take (List.length i.2.1) i.2.1, ())))))
def akO (v : Int) : TT ux :=
 .loop 0 (.tt <| .vT (vU v <| True ∧ True ∧ True) <| .tr <| .ok ((true, [], v, ()))) (aeG v)
def aJX : LTab := [(174, 218, 5122, ⟨0, (Int) × Bool × (List Int) × Unit, .dat (.s 4) uk <| .appN (.s 3) 5 189 un <| .nil, [2, 0], [], 1⟩), (174, 55834, 13314, ⟨1, (Int) × (Int) × Unit, .dat (.s 7) uk <| .dat (.s 6) un <| .nil, [15, 5, 14, 13, 12, 3, 4, 2, 0], [], 0⟩), (174, 55834, 13313, ⟨2, (Int) × (Int) × Unit, .dat (.s 7) uk <| .dat (.s 6) un <| .nil, [15, 5, 14, 13, 12, 3, 4, 2, 0], [5], 0⟩)]
def akN (digits : List UInt8) (i : Int × Bool × List Int × Unit) (i1 : (Int) × (Int) × Unit) : TT (uG ⊕ (uS ⊕ ux)) :=
 .ite (decide (i1.1 < i.1))
 (.need (inb i1.1 (len digits)) <| .tt <| .lt (w64 (i1.1 + 1) : Int) fun z1 => .lt (adY (adY (i1.2.1 * 10) + adY (wu8 ((↑(UInt8.toNat (gi digits i1.1 0)) : Int) - 48))) : Int) fun z2 => .vT (ug z2 z1 (if 0 > w64 (i.1 - 9) then 0 else w64 (i.1 - 9) : Int) (if 0 > w64 (i.1 - 9) then 0 else w64 (i.1 - 9) : Int) (if 0 > w64 (i.1 - 9) then 0 else w64 (i.1 - 9) : Int) (w64 (i.1 - 9)) i.1 <| True ∧ (vU i.1 <| True ∧ uc digits)) <| .tr <| .ok (.inl ((z1, z2, ()))))
 (.need (1 * 4 ≤ 140737488355328) <| .ite ((if 0 > w64 (i.1 - 9) then 0 else w64 (i.1 - 9)) == 0)
 (.call (acG ([i1.2.1], ())) Dd0 fun y =>
 .ok (.inr (.inr ((y.1, ())))))
 (.tt <| .lt (w64 (i.1 - 9) : Int) fun z3 => .lt ([i1.2.1] : List Int) fun z4 => .vT (sa ∧ (vU z3 <| True ∧ uc digits)) <| .vT (vS (vX 189 z4) True) <| .ok (.inr (.inl ((z3, false, z4, ()))))))
def akM (digits : List UInt8) (i : Int × Bool × List Int × Unit) (i2 : (Int) × (Int) × Unit) : TT (uG ⊕ (uS ⊕ ux)) :=
 .ite (decide (i2.1 < i.1))
 (.need (inb i2.1 (len digits)) <| .tt <| .lt (w64 (i2.1 + 1) : Int) fun z6 => .lt (adY (adY (i2.2.1 * 10) + adY (wu8 ((↑(UInt8.toNat (gi digits i2.1 0)) : Int) - 48))) : Int) fun z7 => .vT (ug z7 z6 (if 0 > w64 (i.1 - 9) then 0 else w64 (i.1 - 9) : Int) (if 0 > w64 (i.1 - 9) then 0 else w64 (i.1 - 9) : Int) (if 0 > w64 (i.1 - 9) then 0 else w64 (i.1 - 9) : Int) (w64 (i.1 - 9)) i.1 <| (vY 5 0 (List.length i.2.2.1) true) ∧ (vU i.1 <| True ∧ uc digits)) <| .vT (vS (vX 189 i.2.2.1) True) <| .ok (.inl ((z6, z7, ()))))
 (.need ((List.length i.2.2.1 + 1) * 4 ≤ 140737488355328) <| .ite ((if 0 > w64 (i.1 - 9) then 0 else w64 (i.1 - 9)) == 0)
 (.call (acG (List.take (List.length i.2.2.1 + 1) (List.take (List.length i.2.2.1) i.2.2.1 ++ [i2.2.1]), ())) Dd0 fun y1 =>
 .ok (.inr (.inr ((y1.1, ())))))
 (.tt <| .lt (w64 (i.1 - 9) : Int) fun z8 => .lt (List.take (List.length i.2.2.1) i.2.2.1 ++ [i2.2.1] : List Int) fun z9 => .need ((((5) = (5)) ∧ (((0) = (0)) ∧ ((List.length i.2.2.1 + 1 = List.length z9) ∧ ((true) = (true))))) ∧ ((z8 : Int) = z8) ∧ True ∧ ((digits) = (digits)) ∧ True) <| .vT (vS (vX 189 z9) True) <| .ok (.inr (.inl ((z8, false, z9, ()))))))
def aoT (digits : List UInt8) (i : (Int) × Bool × (List Int) × Unit) : TT (uS ⊕ ux) :=
 .ite (i.2.1)
 (.loop 1 (.tt <| .lt (if 0 > w64 (i.1 - 9) then 0 else w64 (i.1 - 9) : Int) fun z => .vT (ug (0 : Int) z z z z (w64 (i.1 - 9)) i.1 <| True ∧ (vU i.1 <| True ∧ uc digits)) <| .tr <| .ok ((z, 0, ()))) (akN digits i))
 (.loop 2 (.tt <| .lt (if 0 > w64 (i.1 - 9) then 0 else w64 (i.1 - 9) : Int) fun z5 => .vT (ug (0 : Int) z5 z5 z5 z5 (w64 (i.1 - 9)) i.1 <| (vY 5 0 (List.length i.2.2.1) true) ∧ (vU i.1 <| True ∧ uc digits)) <| .vT (vS (vX 189 i.2.2.1) True) <| .ok ((z5, 0, ()))) (akM digits i))
def asM (digits : List UInt8) : TT ux :=
 .loop 0 (.tt <| .vT (True ∧ (vU (len digits) <| True ∧ uc digits)) <| .tr <| .ok ((len digits, true, [], ()))) (aoT digits)
def aGy : LTab := []
def akJ (m : List Int) : TT uK :=
 .call (ac9 (m, ())) Dd1 fun y =>
 .ite (y.1)
 (.ok ((1, ())))
 (.need (inb (w64 (len m - 1)) (len m)) <| .call (aA6 (w64 (gi m (w64 (len m - 1)) 0), ())) Dd2 fun y1 =>
 .ok ((w64 (w64 (w64 (len m - 1) * 9) + len y1.1), ())))
def aPB : LTab := [(140, 12, 1025, ⟨0, (List Int) × (List Int) × Unit, .dat (.s 0) uZ <| .dat (.s 1) uZ <| .nil, [], [], 0⟩), (140, 196, 4096, ⟨1, (Bool) × Unit, .dat (.s 19) tU <| .nil, [1, 0], [], 0⟩), (140, 6292, 10240, ⟨2, (Int) × (Int) × Unit, .dat (.s 6) uJ <| .dat (.s 5) uJ <| .nil, [23, 22, 21, 20, 19, 1, 0], [], 0⟩)]
def aEv (m : List Int) (o : List Int) (i : List Int × List Int × Unit) (y : Bool × Unit) (j : Bool × Unit) (y1 : Int × Unit) (y2 : Int × Unit) (i1 : (Int) × (Int) × Unit) : TT (uG ⊕ (tx ⊕ ux)) :=
 .ite (decide (i1.1 > 0))
 (.need (i1.1 ≠ 0) <| .tt <| .lt (Int.tmod i1.2.1 i1.1 : Int) fun z1 => .vT (ud i1.1 z1 y2.1 i.2.1 y1.1 i.1 j.1 i.2.1 <| uc i.1) <| .tr <| .ok (.inl ((z1, i1.1, ()))))
 (.call (abO (i1.2.1, ())) Dd0 fun y3 =>
 .ok (.inr (.inr ((y3.1, ())))))
def aw4 (m : List Int) (o : List Int) (i : List Int × List Int × Unit) (y : Bool × Unit) (j : (Bool) × Unit) : TT (tx ⊕ ux) :=
 .ite (j.1)
 (.call (anK (i.1, ())) Dd3 fun y1 =>
 .call (anK (i.2.1, ())) Dd3 fun y2 =>
 .loop 2 (.tt <| .vT (ud y1.1 y2.1 y2.1 i.2.1 y1.1 i.1 j.1 i.2.1 <| uc i.1) <| .tr <| .ok ((y2.1, y1.1, ()))) (aEv m o i y j y1 y2))
 (.call (abC (i.1, i.2.1, ())) Dd4 fun y4 =>
 .tt <| .lt (i.2.1 : List Int) fun z2 => .lt (y4.2.1 : List Int) fun z3 => .vT (uf z3 z2) <| .tr <| .ok (.inl ((z2, z3, ()))))
def aEw (m : List Int) (o : List Int) (i : (List Int) × (List Int) × Unit) : TT (tx ⊕ ux) :=
 .call (ac9 (i.2.1, ())) Dd1 fun y =>
 .ite (!y.1)
 (.join 1 (ι := (Bool) × Unit) (.ite (decide (len i.1 ≤ 2))
 (.tt <| .lt (decide (len i.2.1 ≤ 2) : Bool) fun z => .vT (vW z i.2.1 i.1) <| .tr <| .ok (.inl ((z, ()))))
 (.tt <| .vT (vW false i.2.1 i.1) <| .tr <| .ok (.inl ((false, ()))))) (aw4 m o i y))
 (.ok (.inr ((i.1, ()))))
def aCc (m : List Int) (o : List Int) : TT ux :=
 .loop 0 (.tt <| .vT (uf o m) <| .tr <| .ok ((m, o, ()))) (aEw m o)
end
open Go Go.Vg
theorem awX (m : List Int) (y) (h : ac9 (m, ()) = some y) : (ap2 m).toO = some y := by
 simpa [ac9, ap2, TT.toO] using h
theorem awZ (m : List Int) (y) (h : acG (m, ()) = some y) : (awY m).toO = some y := by
 unfold acG at h
 split at h
 ·rename_i hp
  obtain ⟨hd, hl⟩ := hp
  simp only at hd hl
  injection h with h
  subst h
  refine uO (m, ()) rfl ?_
  refine aaO (fun i => Dg 1000000000 i.1 ∧ i.1.length ≤ 2000000000000 ∧ V 1000000000 i.1 = V 1000000000 m) (fun i => i.1.length) (fun _ => (mag (V 1000000000 m).toNat, ())) ?_ _ ⟨hd, hl, rfl⟩
  rintro ⟨l, u⟩ ⟨h1, h2, h3⟩
  simp only at h1 h2 h3
  have hfin : Cn l → l = mag (V 1000000000 m).toNat := fun hc => apX h1 hc (by rw [h3]; have := aaT zc hd; omega)
  unfold aAE
  by_cases hz : l = []
  ·subst hz
   right
   repeat refine za ?_
   rw [← hfin auJ]; rfl
  ·have hlen : 0 < l.length := ya.2 hz
   have hw : w64 (len l - 1) = ((l.length - 1 : Nat) : Int) := by rw [aaC]; simp (disch := omega) only [aaA]; omega
   have hg : gi l ((l.length - 1 : Nat) : Int) 0 = l[l.length - 1] := aSy rfl zc
   simp only [hw, hg]
   by_cases h0 : l[l.length - 1] = 0
   ·left
    refine ⟨(l.take (l.length - 1), ()), ?_, ⟨ab8 h1 _, ?_, ?_⟩, ?_, trivial⟩
    ·repeat refine za ?_
     rfl
    ·simp; omega
    ·have := akX 1000000000 (l := l) (i := l.length - 1) zc
     rw [h0, show l.length - 1 + 1 = l.length by omega, zt] at this
     rw [← h3, this]; simp
    ·simp; omega
   ·right
    repeat refine za ?_
    rw [← hfin (by unfold Cn; rw [yT, zP zc]; simpa using h0)]; rfl
 ·cases h
theorem aEu (m : List Int) (y) (h : anK (m, ()) = some y) : (aAF m).toO = some y := by
 obtain ⟨n, hn, hx, rfl⟩ := aaD h
 injection hx with hx
 subst hx
 have hl : (mag n).length ≤ 2 := mag_length_le_iff.2 zc
 have hd := agY n
 have hV := amD n
 refine uO (((mag n).length : Int) - 1, 0, ()) ?_ ?_
 ·repeat refine za ?_
  show some (w64 ((mag n).length - 1), (0 : Int), ()) = _
  rw [aaA (x := ((mag n).length : Int) - 1) zc]
 refine aaO (fun i => ∃ k : Nat, k ≤ (mag n).length ∧ i.1 = (k : Int) - 1 ∧ i.2.1 = V 1000000000 ((mag n).drop k)) (fun i => (i.1 + 1).toNat) (fun _ => ((n : Int), ())) ?_ _ ⟨_, zq _, rfl, by simp [V]⟩
 rintro ⟨i, v, u⟩ ⟨k, h1, h2, h3⟩
 simp only at h2 h3
 subst h2 h3
 unfold aw1
 rcases zE k with h0 | h0
 ·subst h0
  right
  repeat refine za ?_
  simp only [yQ, hV]
  rfl
 ·left
  obtain ⟨j, rfl⟩ : ∃ j, k = j + 1 := ⟨k - 1, by omega⟩
  have e1 := aaU 1000000000 (mag n) j
  have e2 := aa4 zc hd j
  have e3 := aaT zc (acM hd j)
  have e4 := aaT zc (acM hd (j + 1))
  have e5 := aNZ zc hd j
  have e6 : ((j + 1 : Nat) : Int) - 1 = (j : Int) := zc
  rw [e6]
  refine ⟨((j : Int) - 1, V 1000000000 ((mag n).drop j), ()), ?_, ⟨j, by omega, rfl, rfl⟩, by simp only; omega, rfl⟩
  repeat refine za ?_
  simp only [aaM]
  rw [aaA (x := (j : Int) - 1) zc, aaN (x := V 1000000000 ((mag n).drop (j + 1)) * 1000000000) zc, aaN (x := (mag n).getD j 0) zc, aaN zc, e1, aaK]
  rw [Int.add_comm, yN]
theorem an0 (m o : List Int) (y) (h : adS (m, o, ()) = some y) : (aiG m o).toO = some y := by
 obtain ⟨⟨a, b⟩, hn, hx, rfl⟩ := aaD h
 obtain ⟨rfl, hx2⟩ := Prod.mk.inj hx
 obtain ⟨rfl, -⟩ := Prod.mk.inj hx2
 dsimp only
 obtain ⟨l1, l2⟩ := hn
 simp only at l1 l2
 unfold aiG
 have hda := agY a
 have hdb := agY b
 have hVa := amD a
 have hVb := amD b
 rcases Nat.lt_trichotomy (mag a).length (mag b).length with hl | hl | hl
 ·have := an4 hl
  repeat refine za ?_
  simp only [aaK, auC]
  rw [if_pos (show (a : Int) < b by omega)]
 ·refine uF sd ?_
  refine uO (((mag a).length : Int) - 1, ()) ?_ ?_
  ·repeat refine za ?_
   show some (w64 ((mag a).length - 1), ()) = _
   rw [aaA (x := ((mag a).length : Int) - 1) zc]
  refine aaO (fun i => ∃ k : Nat, k ≤ (mag a).length ∧ i.1 = (k : Int) - 1 ∧ V 1000000000 ((mag a).drop k) = V 1000000000 ((mag b).drop k)) (fun i => (i.1 + 1).toNat) (fun _ => (auC a b, ())) ?_ _ ⟨_, zq _, rfl, by rw [acW _ (zq _), acW _ zc]⟩
  rintro ⟨i, u⟩ ⟨k, h1, h2, h3⟩
  simp only at h2 h3
  subst h2
  unfold ap6
  rcases zE k with h0 | h0
  ·subst h0
   right
   repeat refine za ?_
   simp only [yQ, hVa, hVb] at h3
   simp only [aaK, auC]
   rw [if_neg zc, if_pos h3]
  ·obtain ⟨j, rfl⟩ : ∃ j, k = j + 1 := ⟨k - 1, by omega⟩
   have e6 : ((j + 1 : Nat) : Int) - 1 = (j : Int) := zc
   simp only [e6, aaM]
   have a1 := ab9 1000000000 (mag a) j
   have b1 := ab9 1000000000 (mag b) j
   have a2 := aaU 1000000000 (mag a) j
   have b2 := aaU 1000000000 (mag b) j
   have a3 := ac8 zc hda j
   have b3 := ac8 zc hdb j
   have a4 := aaT zc (ab8 hda j)
   have b4 := aaT zc (ab8 hdb j)
   have hp : (1 : Int) ≤ 1000000000 ^ j := aBN zc j
   rcases xm ((mag a).getD j 0) ((mag b).getD j 0) with hc | hc | hc
   ·right
    repeat refine za ?_
    have h5 : (1000000000 : Int) ^ j * (V 1000000000 ((mag a).drop j) + 1) ≤ 1000000000 ^ j * V 1000000000 ((mag b).drop j) := zD zc zc
    rw [wx] at h5
    simp only [aaK, auC]
    rw [if_pos (show (a : Int) < b by omega)]
   ·left
    refine ⟨((j : Int) - 1, ()), ?_, ⟨j, by omega, rfl, by omega⟩, by simp only; omega, trivial⟩
    repeat refine za ?_
    rw [aaA (x := (j : Int) - 1) zc]; rfl
   ·right
    repeat refine za ?_
    have h5 : (1000000000 : Int) ^ j * (V 1000000000 ((mag b).drop j) + 1) ≤ 1000000000 ^ j * V 1000000000 ((mag a).drop j) := zD zc zc
    rw [wx] at h5
    simp only [aaK, auC]
    rw [if_neg (show ¬ (a : Int) < b by omega), if_neg (show ¬ (a : Int) = b by omega)]
 ·have := an4 hl
  repeat refine za ?_
  simp only [aaK, auC]
  rw [if_neg (show ¬ (a : Int) < b by omega), if_neg (show ¬ (a : Int) = b by omega)]
theorem anZ (m o : List Int) (a b : Nat) (la : (mag a).length ≤ 1000000000000) (hl : (mag b).length ≤ (mag a).length) : (asI m o (mag a, mag b, ())).toO = some (mag (a + b), ()) := by
 have hda := agY a
 have hdb := agY b
 have hVa := amD a
 have hVb := amD b
 unfold asI
 dsimp only
 refine uN ?_ ?_
 ·(try simp only [aaC, inb, inc, ge_iff_le, gt_iff_lt, zp, asT, ne_eq])
  simp (disch := omega) only [aaA, aaN, aa0, abP, aaM, zw, zp, aaC]
  omega
 refine uO (0, 0, [], ()) rfl ?_
 refine aaO (fun i => ∃ k : Nat, k ≤ (mag a).length ∧ i.1 = (k : Int) ∧ 0 ≤ i.2.1 ∧ i.2.1 ≤ 1 ∧ i.2.2.1.length = k ∧ Dg 1000000000 i.2.2.1 ∧ V 1000000000 i.2.2.1 + 1000000000 ^ k * i.2.1 = V 1000000000 ((mag a).take k) + V 1000000000 ((mag b).take k)) (fun i => (((mag a).length : Int) - i.1).toNat) (fun _ => (mag (a + b), ())) ?_ _ ⟨0, yh _, rfl, by simp, by simp, rfl, auI _, by simp [V]⟩
 rintro ⟨i, c, s, u⟩ ⟨k, h1, h2, h3, h4, h5, h6, h7⟩
 simp only at h2 h3 h4 h5 h6 h7
 subst h2
 simp only [aAG, aaM]
 have ea := aa6 1000000000 (mag a) k
 have eb := aa6 1000000000 (mag b) k
 have da := aa4 zc hda k
 have db := aa4 zc hdb k
 rcases zr k (mag a).length with hk | hk
 ·left
  have key : ∀ x c' : Int, 0 ≤ x ∧ x < 1000000000 → x + 1000000000 * c' = (mag a).getD k 0 + (mag b).getD k 0 + c → V 1000000000 (s ++ [x]) + 1000000000 ^ (k + 1) * c' = V 1000000000 ((mag a).take (k + 1)) + V 1000000000 ((mag b).take (k + 1)) := by
   intro x c' _ hx
   rw [ad3, azV, h5, ea, eb, zY]
   have : (1000000000 : Int) ^ k * (x + 1000000000 * c') = 1000000000 ^ k * ((mag a).getD k 0 + (mag b).getD k 0 + c) := by rw [hx]
   grind
  have fin : ∀ x c' : Int, 0 ≤ x ∧ x < 1000000000 → 0 ≤ c' ∧ c' ≤ 1 → x + 1000000000 * c' = (mag a).getD k 0 + (mag b).getD k 0 + c → (∃ k_1 : Nat, k_1 ≤ (mag a).length ∧ ((k + 1 : Nat) : Int) = (k_1 : Int) ∧ 0 ≤ c' ∧ c' ≤ 1 ∧ (s ++ [x]).length = k_1 ∧ Dg 1000000000 (s ++ [x]) ∧ V 1000000000 (s ++ [x]) + 1000000000 ^ k_1 * c' = V 1000000000 ((mag a).take k_1) + V 1000000000 ((mag b).take k_1)) ∧ (((mag a).length : Int) - ((k + 1 : Nat) : Int)).toNat < (((mag a).length : Int) - (k : Int)).toNat :=
   fun x c' hx hc he => ⟨⟨k + 1, by omega, rfl, hc.1, hc.2, by simp; omega, aeK h6 (amP hx.1 hx.2), key x c' hx he⟩, by omega⟩
  rcases zr k (mag b).length with hkb | hkb
  ·rcases zO ((mag a).getD k 0 + c + (mag b).getD k 0) 1000000000 with hc | hc
   ·obtain ⟨g1, g2⟩ := fin ((mag a).getD k 0 + c + (mag b).getD k 0) 0 zc zc zc
    refine ⟨(((k + 1 : Nat) : Int), 0, s ++ [(mag a).getD k 0 + c + (mag b).getD k 0], ()), ?_, g1, g2, trivial⟩
    repeat refine za ?_
    simp (disch := omega) only [aaK, aaA, aaN, aa0, abP, aaM, zw, zp, aaC, zt]
    rfl
   ·obtain ⟨g1, g2⟩ := fin ((mag a).getD k 0 + c + (mag b).getD k 0 - 1000000000) 1 zc zc zc
    refine ⟨(((k + 1 : Nat) : Int), 1, s ++ [(mag a).getD k 0 + c + (mag b).getD k 0 - 1000000000], ()), ?_, g1, g2, trivial⟩
    repeat refine za ?_
    simp (disch := omega) only [aaK, aaA, aaN, aa0, abP, aaM, zw, zp, aaC, zt]
    rfl
  ·have hz : (mag b).getD k 0 = 0 := ahP hkb 0
   rcases zO ((mag a).getD k 0 + c) 1000000000 with hc | hc
   ·obtain ⟨g1, g2⟩ := fin ((mag a).getD k 0 + c) 0 zc zc zc
    refine ⟨(((k + 1 : Nat) : Int), 0, s ++ [(mag a).getD k 0 + c], ()), ?_, g1, g2, trivial⟩
    repeat refine za ?_
    simp (disch := omega) only [aaK, aaA, aaN, aa0, abP, aaM, zw, zp, aaC, zt]
    rfl
   ·obtain ⟨g1, g2⟩ := fin ((mag a).getD k 0 + c - 1000000000) 1 zc zc zc
    refine ⟨(((k + 1 : Nat) : Int), 1, s ++ [(mag a).getD k 0 + c - 1000000000], ()), ?_, g1, g2, trivial⟩
    repeat refine za ?_
    simp (disch := omega) only [aaK, aaA, aaN, aa0, abP, aaM, zw, zp, aaC, zt]
    rfl
 ·right
  have hkk : k = (mag a).length := zc
  rw [hkk, abG _ (zq _), abG _ hl, hVa, hVb] at h7
  rcases zO 0 c with hc | hc
  ·have hc1 : c = 1 := zc
   subst hc1
   repeat refine za ?_
   simp (disch := omega) only [aaK, aaA, aaN, aa0, abP, aaM, zw, zp, aaC, zt]
   rw [zz zi]
   rw [apX (l := s ++ [1]) (n := a + b) (aeK h6 (amP zc zc)) (by simp [Cn]) (by rw [ad3, azV, h5, hkk]; omega)]
  ·have hc1 : c = 0 := zc
   subst hc1
   repeat refine za ?_
   simp (disch := omega) only [aaK, aaA, aaN, aa0, abP, aaM, zw, zp, aaC, zt]
   rw [apX (l := s) (n := a + b) h6 (aIx zc h6 ?_) zc]
   rcases zE a with ha | ha
   ·left
    subst ha
    rw [mag_zero] at hkk
    exact zV.1 (by rw [h5, hkk]; rfl)
   ·right
    have := awA (B := 1000000000) zc (n := a) zc
    have h8 : (1000000000 : Int) ^ ((mag a).length - 1) ≤ a := by
     have : ((1000000000 ^ ((mag a).length - 1) : Nat) : Int) ≤ (a : Int) := wN.2 this
     simpa using this
    rw [h5, hkk]
    omega
theorem aw2 (m o : List Int) (y) (h : amH (m, o, ()) = some y) : (ap3 m o).toO = some y := by
 obtain ⟨⟨a, b⟩, hn, hx, rfl⟩ := aaD h
 obtain ⟨rfl, hx2⟩ := Prod.mk.inj hx; obtain ⟨rfl, -⟩ := Prod.mk.inj hx2; dsimp only
 obtain ⟨l1, l2⟩ := hn
 simp only at l1 l2
 unfold ap3
 rcases zr (mag a).length (mag b).length with hl | hl
 ·refine uL (mag b, mag a, ()) ?_ ?_
  ·repeat refine za ?_
   rfl
  ·rw [xe]
   exact anZ _ _ b a l2 zc
 ·refine uL (mag a, mag b, ()) ?_ ?_
  ·repeat refine za ?_
   rfl
  ·exact anZ _ _ a b l1 hl
theorem avM {l : List Int} (h : Dg 1000000000 l) (hl : l.length ≤ 2000000000000) {n : Nat} (hv : V 1000000000 l = n) : acG (l, ()) = some (mag n, ()) := by
 unfold acG
 rw [if_pos ⟨h, hl⟩]
 simp only [hv, zp]
theorem at5 (m o : List Int) (y) (h : ajZ (m, o, ()) = some y) : (am6 m o).toO = some y := by
 obtain ⟨⟨a, b⟩, hn, hx, rfl⟩ := aaD h
 obtain ⟨rfl, hx2⟩ := Prod.mk.inj hx; obtain ⟨rfl, -⟩ := Prod.mk.inj hx2; dsimp only
 obtain ⟨la, hba⟩ := hn
 simp only at la hba
 have hda := agY a
 have hdb := agY b
 have hVa := amD a
 have hVb := amD b
 have hl := abR hba
 unfold am6
 refine uN sn ?_
 refine uO (0, 0, List.replicate (mag a).length 0, ()) ?_ ?_
 ·repeat refine za ?_
  simp (disch := omega) only [aaK, aaA, aaN, aa0, abP, aaM, zw, zp, aaC, zt]
 refine aaO (fun i => ∃ k : Nat, k ≤ (mag a).length ∧ i.1 = (k : Int) ∧ 0 ≤ i.2.1 ∧ i.2.1 ≤ 1 ∧ i.2.2.1.length = (mag a).length ∧ Dg 1000000000 i.2.2.1 ∧ V 1000000000 (i.2.2.1.take k) = V 1000000000 ((mag a).take k) - V 1000000000 ((mag b).take k) + 1000000000 ^ k * i.2.1) (fun i => (((mag a).length : Int) - i.1).toNat) (fun _ => (mag (a - b), ())) ?_ _ ⟨0, yh _, rfl, by simp, by simp, by simp, agH zc _, by simp [V]⟩
 rintro ⟨i, c, s, u⟩ ⟨k, h1, h2, h3, h4, h5, h6, h7⟩
 simp only at h2 h3 h4 h5 h6 h7
 subst h2
 simp only [aw3, aaM]
 have ea := aa6 1000000000 (mag a) k
 have eb := aa6 1000000000 (mag b) k
 have da := aa4 zc hda k
 have db := aa4 zc hdb k
 rcases zr k (mag a).length with hk | hk
 ·left
  have fin : ∀ x c' : Int, 0 ≤ x ∧ x < 1000000000 → 0 ≤ c' ∧ c' ≤ 1 → x = (mag a).getD k 0 - (mag b).getD k 0 - c + 1000000000 * c' → (∃ k_1 : Nat, k_1 ≤ (mag a).length ∧ ((k + 1 : Nat) : Int) = (k_1 : Int) ∧ 0 ≤ c' ∧ c' ≤ 1 ∧ (s.set k x).length = (mag a).length ∧ Dg 1000000000 (s.set k x) ∧ V 1000000000 ((s.set k x).take k_1) = V 1000000000 ((mag a).take k_1) - V 1000000000 ((mag b).take k_1) + 1000000000 ^ k_1 * c') ∧ (((mag a).length : Int) - ((k + 1 : Nat) : Int)).toNat < (((mag a).length : Int) - (k : Int)).toNat := by
   intro x c' hx hc he
   refine ⟨⟨k + 1, by omega, rfl, hc.1, hc.2, by simp; omega, aiT h6 hx _, ?_⟩, by omega⟩
   rw [aKy _ zc, h7, ea, eb, zY, he]
   grind
  rcases zr k (mag b).length with hkb | hkb
  ·rcases zO ((mag a).getD k 0) (c + (mag b).getD k 0) with hc | hc
   ·obtain ⟨g1, g2⟩ := fin ((mag a).getD k 0 + 1000000000 - (c + (mag b).getD k 0)) 1 zc zc zc
    refine ⟨(((k + 1 : Nat) : Int), 1, s.set k ((mag a).getD k 0 + 1000000000 - (c + (mag b).getD k 0)), ()), ?_, g1, g2, trivial⟩
    repeat refine za ?_
    simp (disch := omega) only [aaK, aaA, aaN, aa0, abP, aaM, zw, zp, aaC, zt]
    rfl
   ·obtain ⟨g1, g2⟩ := fin ((mag a).getD k 0 - (c + (mag b).getD k 0)) 0 zc zc zc
    refine ⟨(((k + 1 : Nat) : Int), 0, s.set k ((mag a).getD k 0 - (c + (mag b).getD k 0)), ()), ?_, g1, g2, trivial⟩
    repeat refine za ?_
    simp (disch := omega) only [aaK, aaA, aaN, aa0, abP, aaM, zw, zp, aaC, zt]
    rfl
  ·have hz : (mag b).getD k 0 = 0 := ahP hkb 0
   rcases zO ((mag a).getD k 0) c with hc | hc
   ·obtain ⟨g1, g2⟩ := fin ((mag a).getD k 0 + 1000000000 - c) 1 zc zc zc
    refine ⟨(((k + 1 : Nat) : Int), 1, s.set k ((mag a).getD k 0 + 1000000000 - c), ()), ?_, g1, g2, trivial⟩
    repeat refine za ?_
    simp (disch := omega) only [aaK, aaA, aaN, aa0, abP, aaM, zw, zp, aaC, zt]
    rfl
   ·obtain ⟨g1, g2⟩ := fin ((mag a).getD k 0 - c) 0 zc zc zc
    refine ⟨(((k + 1 : Nat) : Int), 0, s.set k ((mag a).getD k 0 - c), ()), ?_, g1, g2, trivial⟩
    repeat refine za ?_
    simp (disch := omega) only [aaK, aaA, aaN, aa0, abP, aaM, zw, zp, aaC, zt]
    rfl
 ·right
  have hkk : k = (mag a).length := zc
  rw [hkk, abG _ zc, abG _ (zq _), abG _ hl, hVa, hVb] at h7
  have hlt := aKz zc h6
  rw [h5] at hlt
  have hc : c = 0 := by
   rcases zO 0 c with hc | hc
   ·have hc1 : c = 1 := zc
    subst hc1
    omega
   ·omega
  subst hc
  refine uF sd ?_
  refine uC (mag (a - b), ()) ?_ ?_
  ·rw [zz (by simp [len]; omega)]
   exact avM h6 zc zc
  ·rfl
theorem aMl {a b B : Int} (ha : 0 ≤ a ∧ a < B) (hb : 0 ≤ b ∧ b < B) : 0 ≤ a * b ∧ a * b ≤ (B - 1) * (B - 1) := by
 refine ⟨ye ha.1 hb.1, ?_⟩
 have h1 : a * b ≤ a * (B - 1) := zD zc ha.1
 have h2 : a * (B - 1) ≤ (B - 1) * (B - 1) := zu zc zc
 omega
theorem aNU (Vs P c A K x T X Y d e Q B : Int) (h : Vs + P * c = A + K * (x * T)) (h2 : X + B * Y = c + (d + x * e)) (hP : P = K * Q) : Vs + P * (X - d) + P * B * Y = A + K * (x * (T + Q * e)) := by
 subst hP
 have h3 : K * Q * (X + B * Y) = K * Q * (c + (d + x * e)) := by rw [h2]
 grind
theorem at3 (m o : List Int) (y) (h : acD (m, o, ()) = some y) : (am4 m o).toO = some y := by
 obtain ⟨⟨a, b⟩, hn, hx, rfl⟩ := aaD h
 obtain ⟨rfl, hx2⟩ := Prod.mk.inj hx; obtain ⟨rfl, -⟩ := Prod.mk.inj hx2; dsimp only
 obtain ⟨la, lb⟩ := hn
 simp only at la lb
 have hda := agY a
 have hdb := agY b
 have hVa := amD a
 have hVb := amD b
 have hw : w64 (len (mag a) + len (mag b)) = (((mag a).length + (mag b).length : Nat) : Int) := by
  simp only [aaC]; rw [aaA (x := ((mag a).length : Int) + (mag b).length) zc]; omega
 unfold am4
 simp only [hw]
 refine uN zc ?_
 refine uO (0, List.replicate ((mag a).length + (mag b).length) 0, ()) ?_ ?_
 ·repeat refine za ?_
  simp (disch := omega) only [aaK, aaA, aaN, aa0, abP, aaM, zw, zp, aaC, zt]
 have hBb : V 1000000000 (mag b) < 1000000000 ^ (mag b).length := aKz zc hdb
 refine aaO (fun i => ∃ k : Nat, k ≤ (mag a).length ∧ i.1 = (k : Int) ∧ i.2.1.length = (mag a).length + (mag b).length ∧ Dg 1000000000 i.2.1 ∧ V 1000000000 i.2.1 = V 1000000000 ((mag a).take k) * b) (fun i => (((mag a).length : Int) - i.1).toNat) (fun _ => (mag (a * b), ())) ?_ _ ⟨0, yh _, rfl, by simp, agH zc _, by simp [V, as2]⟩
 rintro ⟨i, s, u⟩ ⟨k, h1, h2, h3, h4, h5⟩
 simp only at h2 h3 h4 h5
 subst h2
 simp only [aw0, aaM, hw]
 have ea := aa6 1000000000 (mag a) k
 have da := aa4 zc hda k
 rcases zr k (mag a).length with hk | hk
 ·left
  have hs : V 1000000000 s < 1000000000 ^ (k + (mag b).length) := by
   rw [h5, wy]
   have e1 := ac8 zc hda k
   have e2 := aaT zc (ab8 hda k)
   rw [hVb] at hBb
   have e3 : V 1000000000 ((mag a).take k) * b ≤ V 1000000000 ((mag a).take k) * 1000000000 ^ (mag b).length := zD zc e2
   have e4 : V 1000000000 ((mag a).take k) * 1000000000 ^ (mag b).length < 1000000000 ^ k * 1000000000 ^ (mag b).length := Int.mul_lt_mul_of_pos_right e1 (yK zc)
   omega
  have hz := al1 zc h4 hs
  -- the inner loop
  obtain ⟨r, hin, s', rfl, q1, q2, q3⟩ : ∃ r : ((Int × List Int × Unit) ⊕ (List Int × Unit)), ac6 (fun i1 => (aoP (mag a) (mag b) ((k : Int), s, ()) i1).toO) (0, 0, s, ()) = some r ∧ ∃ s', r = Sum.inl (((k + 1 : Nat) : Int), s', ()) ∧ s'.length = (mag a).length + (mag b).length ∧ Dg 1000000000 s' ∧ V 1000000000 s' = V 1000000000 ((mag a).take (k + 1)) * b := by
   refine adP (fun j => ∃ q : Nat, q ≤ (mag b).length ∧ j.1 = (q : Int) ∧ 0 ≤ j.2.1 ∧ j.2.1 < 1000000000 ∧ j.2.2.1.length = (mag a).length + (mag b).length ∧ Dg 1000000000 j.2.2.1 ∧ (∀ t, k + (mag b).length ≤ t → j.2.2.1.getD t 0 = 0) ∧ V 1000000000 j.2.2.1 + 1000000000 ^ (k + q) * j.2.1 = V 1000000000 ((mag a).take k) * b + 1000000000 ^ k * ((mag a).getD k 0 * V 1000000000 ((mag b).take q))) (fun j => (((mag b).length : Int) - j.1).toNat) _ ?_ _ ⟨0, yh _, rfl, by simp, by simp, h3, h4, hz, by simp [V, h5]⟩
   rintro ⟨j, c, s1, u1⟩ ⟨q, g1, g2, g3, g4, g5, g6, g7, g8⟩
   simp only at g2 g3 g4 g5 g6 g7 g8
   subst g2
   have hkq : w64 ((k : Int) + q) = ((k + q : Nat) : Int) := by rw [aaA (x := (k : Int) + q) zc]; omega
   have hkl : w64 ((k : Int) + len (mag b)) = ((k + (mag b).length : Nat) : Int) := by rw [aaC, aaA (x := (k : Int) + ((mag b).length : Int)) zc]; omega
   simp only [aoP, aaM, hw, hkq, hkl, zp, zw]
   have eb := aa6 1000000000 (mag b) q
   have db := aa4 zc hdb q
   have ds := aa4 zc g6 (k + q)
   have hm := aMl da db
   rcases zr q (mag b).length with hq | hq
   ·left
    have hsum : 0 ≤ c + (s1.getD (k + q) 0 + (mag a).getD k 0 * (mag b).getD q 0) := zc
    have e1 := ym (c + (s1.getD (k + q) 0 + (mag a).getD k 0 * (mag b).getD q 0)) 1000000000
    have e2 : 0 ≤ (c + (s1.getD (k + q) 0 + (mag a).getD k 0 * (mag b).getD q 0)) % 1000000000 ∧ (c + (s1.getD (k + q) 0 + (mag a).getD k 0 * (mag b).getD q 0)) % 1000000000 < 1000000000 := zc
    have e3 : 0 ≤ (c + (s1.getD (k + q) 0 + (mag a).getD k 0 * (mag b).getD q 0)) / 1000000000 ∧ (c + (s1.getD (k + q) 0 + (mag a).getD k 0 * (mag b).getD q 0)) / 1000000000 < 1000000000 := zc
    refine ⟨(((q + 1 : Nat) : Int), (c + (s1.getD (k + q) 0 + (mag a).getD k 0 * (mag b).getD q 0)) / 1000000000, s1.set (k + q) ((c + (s1.getD (k + q) 0 + (mag a).getD k 0 * (mag b).getD q 0)) % 1000000000), ()), ?_, ⟨q + 1, by omega, rfl, e3.1, e3.2, by simp; omega, aiT g6 e2 _, ?_, ?_⟩, by simp only; omega⟩
    ·repeat refine za ?_
     simp (disch := omega) only [aaK, aaA, aaN, aa0, abP, aaM, zw, zp, aaC, zt]
     rw [zH hsum, zN hsum]
     simp (disch := omega) only [aaK, aaA, aaN, aa0, abP, aaM, zw, zp, aaC, zt]
     rfl
    ·intro t ht
     rw [aoN _ zc]; exact g7 t ht
    ·simp only
     rw [ayK _ zc, eb, show k + (q + 1) = k + q + 1 by omega, zY]
     exact aNU _ _ _ _ _ _ _ _ _ _ _ _ _ g8 e1 (wy _ _ _)
   ·right
    have hqq : q = (mag b).length := zc
    subst hqq
    rw [abG _ (zq _), hVb] at g8
    refine ⟨.inl (((k + 1 : Nat) : Int), s1.set (k + (mag b).length) c, ()), ?_, _, rfl, by simp; omega, aiT g6 ⟨g3, g4⟩ _, ?_⟩
    ·repeat refine za ?_
     simp (disch := omega) only [aaK, aaA, aaN, aa0, abP, aaM, zw, zp, aaC, zt]
     rfl
    ·rw [ayK _ zc, g7 _ zc, ea, wX]
     simp only [wO]
     rw [g8]
     grind
  refine ⟨(((k + 1 : Nat) : Int), s', ()), ?_, ⟨k + 1, by omega, rfl, q1, q2, q3⟩, by simp only; omega, trivial⟩
  refine uT sd ?_
  refine uN sd ?_
  refine uO (0, 0, s, ()) ?_ ?_
  ·repeat refine za ?_
   rfl
  ·exact hin
 ·right
  have hkk : k = (mag a).length := zc
  rw [hkk, abG _ (zq _), hVa] at h5
  refine uF sd ?_
  refine uC (mag (a * b), ()) ?_ ?_
  ·rw [zz zh]
   exact avM h4 zc (by rw [h5]; simp)
  ·rfl
theorem aNV (Vm Vq P d R m X Y B W : Int) (h : Vm = Vq * d + R) (h2 : Y + d * X = R * B + m) (hW : W = m + B * Vm) (hP : P = X + B * Vq) : W = P * d + Y := by
 subst hW hP h
 grind
theorem at4 (m : List Int) (d : Int) (y) (h : ajY (m, d, ()) = some y) : (am5 m d).toO = some y := by
 obtain ⟨⟨a, e⟩, hn, hx, rfl⟩ := aaD h
 obtain ⟨rfl, hx2⟩ := Prod.mk.inj hx; obtain ⟨rfl, -⟩ := Prod.mk.inj hx2; dsimp only
 obtain ⟨la, he, he2⟩ := hn
 simp only at la he he2
 have hda := agY a
 have hVa := amD a
 unfold am5
 refine uN sn ?_
 have hd : abE (e : Int) = e := aaN zc
 refine uO (((mag a).length : Int) - 1, 0, List.replicate (mag a).length 0, ()) ?_ ?_
 ·repeat refine za ?_
  simp only [aaC]
  rw [aaA (x := ((mag a).length : Int) - 1) zc]
  rfl
 refine aaO (fun i : Int × Int × List Int × Unit => ∃ k : Nat, k ≤ (mag a).length ∧ i.1 = (k : Int) - 1 ∧ 0 ≤ i.2.1 ∧ i.2.1 < e ∧ i.2.2.1.length = (mag a).length ∧ Dg 1000000000 i.2.2.1 ∧ V 1000000000 ((mag a).drop k) = V 1000000000 (i.2.2.1.drop k) * e + i.2.1) (fun i => (i.1 + 1).toNat) (fun _ => (mag (a / e), ((a % e : Nat) : Int), ())) ?_ _ ⟨_, zq _, rfl, by simp, by simp; omega, by simp, agH zc _, by rw [acW _ (zq _), acW _ zi]; simp⟩
 rintro ⟨i, r, q, u⟩ ⟨k, h1, h2, h3, h4, h5, h6, h7⟩
 simp only at h2 h3 h4 h5 h6 h7
 subst h2
 rcases zE k with h0 | h0
 ·subst h0
  right
  simp only [yQ, hVa] at h7
  obtain ⟨v, hv⟩ := zv (aaT zc h6)
  obtain ⟨r', rfl⟩ := zv h3
  rw [hv] at h7
  have h8 : a = v * e + r' := by
   have : (a : Int) = ((v * e + r' : Nat) : Int) := by simpa using h7
   exact Int.ofNat.inj this
  have h9 : a / e = v := by rw [h8, xe, wP _ _ he, xd zc, zw]
  have h10 : a % e = r' := by rw [h8, xe, wh, yG zc]
  simp only [aoQ]
  refine uF sd ?_
  refine uC (mag v, ()) ?_ ?_
  ·rw [zz (by simp [len]; omega)]
   exact avM h6 zc hv
  ·simp (disch := omega) only [aaK, aaA, aaN, aa0, abP, aaM, zw, zp, aaC, zt]
   rw [h9, h10]
 ·left
  obtain ⟨j, rfl⟩ : ∃ j, k = j + 1 := ⟨k - 1, by omega⟩
  have e6 : ((j + 1 : Nat) : Int) - 1 = (j : Int) := zc
  rw [e6]
  simp only [aoQ, aaM, hd]
  have e1 := aaU 1000000000 (mag a) j
  have e2 := aa4 zc hda j
  have g1 : 0 ≤ r * 1000000000 + (mag a).getD j 0 := zc
  have g0 : (0 : Int) < e := zc
  have g2 := ym (r * 1000000000 + (mag a).getD j 0) e
  have g3 := yR (r * 1000000000 + (mag a).getD j 0) (show (e : Int) ≠ 0 by omega)
  have g4 := yC (r * 1000000000 + (mag a).getD j 0) g0
  have g5 : 0 ≤ (r * 1000000000 + (mag a).getD j 0) / e := xJ g1 zc
  have g6 : (r * 1000000000 + (mag a).getD j 0) / e < 1000000000 := by
   refine Int.ediv_lt_of_lt_mul g0 ?_
   have : (r + 1) * 1000000000 ≤ e * 1000000000 := zu zc zc
   omega
  have hw1 : abE (abE (r * 1000000000) + abE ((mag a).getD j 0)) = r * 1000000000 + (mag a).getD j 0 := by
   rw [aaN (x := r * 1000000000) zc, aaN (x := (mag a).getD j 0) zc, aaN zc]
  simp only [hw1]
  refine ⟨((j : Int) - 1, (r * 1000000000 + (mag a).getD j 0) % e, q.set j ((r * 1000000000 + (mag a).getD j 0) / e), ()), ?_, ⟨j, by omega, rfl, g3, g4, by simp; omega, aiT h6 ⟨g5, g6⟩ _, ?_⟩, by simp only; omega, trivial⟩
  ·repeat refine za ?_
   rw [zH g1, zN g1]
   rw [aaN (x := (r * 1000000000 + (mag a).getD j 0) / e) zc, aa0 (x := (r * 1000000000 + (mag a).getD j 0) / e) zc]
   simp (disch := omega) only [aaK, aaA, aaN, aa0, abP, aaM, zw, zp, aaC, zt]
  ·simp only
   refine aNV _ _ _ _ _ _ _ _ 1000000000 _ h7 g2 e1 ?_
   rw [aaU 1000000000 (q.set j _) j, aoO zc, ahS _ zc]
theorem al2 (v : Int) (y) (h : abO (v, ()) = some y) : (akO v).toO = some y := by
 unfold abO at h
 split at h
 ·rename_i hp
  obtain ⟨h0, h1⟩ := hp
  simp only at h0 h1
  injection h with h
  subst h
  obtain ⟨n, rfl⟩ := zv h0
  simp only [zp]
  refine uO (true, [], (n : Int), ()) rfl ?_
  refine aaO (fun i => ∃ w : Nat, i.2.2.1 = (w : Int) ∧ w ≤ n ∧ Dg 1000000000 i.2.1 ∧ V 1000000000 i.2.1 + 1000000000 ^ i.2.1.length * w = n ∧ (i.1 = true → i.2.1 = []) ∧ (w = 0 → Cn i.2.1) ∧ (i.2.1.length ≤ 3) ∧ (w ≠ 0 → w < 1000000000 ^ (3 - i.2.1.length))) (fun i => i.2.2.1.toNat) (fun _ => (mag n, ())) ?_ _ ⟨n, rfl, zq _, auI _, by simp [V], fun _ => rfl, fun _ => auJ, by simp, fun _ => by simp; omega⟩
  rintro ⟨f, l, w', u⟩ ⟨w, g1, g2, g3, g4, g5, g6, g7, g8⟩
  simp only at g1 g3 g4 g5 g6 g7 g8
  subst g1
  rcases zE w with hw | hw
  ·subst hw
   right
   have : l = mag n := apX g3 (g6 rfl) zc
   cases f
   ·unfold aeG
    repeat refine za ?_
    simp (disch := omega) only [aaK, aaA, aaN, aa0, abP, aaM, zw, zp, aaC, zt]
    rw [this]
   ·unfold aeG
    repeat refine za ?_
    simp (disch := omega) only [aaK, aaA, aaN, aa0, abP, aaM, zw, zp, aaC, zt]
    rw [← this, g5 rfl]
  ·left
   have hl : l.length ≤ 2 := by
    rcases zr 2 l.length with h | h
    ·have h3 : l.length = 3 := zc
     have := g8 zc
     rw [h3] at this
     simp at this
     omega
    ·exact h
   have e1 : ((w % 1000000000 : Nat) : Int) + 1000000000 * ((w / 1000000000 : Nat) : Int) = w := zc
   refine ⟨(false, l ++ [((w % 1000000000 : Nat) : Int)], ((w / 1000000000 : Nat) : Int), ()), ?_, ⟨w / 1000000000, rfl, by omega, aeK g3 (amP zc zc), ?_, by simp, ?_, by simp; omega, ?_⟩, by simp only; omega, ze⟩
   ·have t1 : Int.tmod (w : Int) 1000000000 = ((w % 1000000000 : Nat) : Int) := by rw [zH zc]; omega
    have t2 : Int.tdiv (w : Int) 1000000000 = ((w / 1000000000 : Nat) : Int) := by rw [zN zc]; omega
    cases f
    ·simp only [aeG, t1, t2]
     repeat refine za ?_
     simp (disch := omega) only [aaK, aaA, aaN, aa0, abP, aaM, zw, zp, aaC, zt]
    ·simp only [aeG, t1, t2]
     repeat refine za ?_
     rw [g5 rfl]
     simp (disch := omega) only [aaK, aaA, aaN, aa0, abP, aaM, zw, zp, aaC, zt]
     rfl
   ·simp only
    rw [ad3, azV, zR, yu, zY, ← g4]
    have : (1000000000 : Int) ^ l.length * (((w % 1000000000 : Nat) : Int) + 1000000000 * ((w / 1000000000 : Nat) : Int)) = 1000000000 ^ l.length * w := by rw [e1]
    grind
   ·intro hz
    unfold Cn
    simp
    omega
   ·intro hz
    simp only [zR, yu]
    have := g8 zc
    rw [yF zc]
    have h9 : 1000000000 ^ (3 - l.length) = 1000000000 ^ (3 - (l.length + 1)) * 1000000000 := by
     rw [← yD]; congr 1; omega
    omega
 ·cases h
theorem aGl {n : Nat} (h : n ≠ 0) : ∃ t : Nat, (mag n).getD ((mag n).length - 1) 0 = (t : Int) ∧ 1 ≤ t ∧ t < 1000000000 ∧ 1000000000 ^ ((mag n).length - 1) * t ≤ n ∧ n < 1000000000 ^ ((mag n).length - 1) * (t + 1) := by
 have hd := agY n
 have hV := amD n
 have hl : 1 ≤ (mag n).length := by
  rcases zE (mag n).length with h0 | h0
  ·exact absurd (mag_nil_iff.1 (zV.1 h0)) h
  ·exact h0
 have e1 := ab9 1000000000 (mag n) ((mag n).length - 1)
 have e2 := aaU 1000000000 (mag n) ((mag n).length - 1)
 rw [acW (k := (mag n).length - 1 + 1) _ zc] at e2
 have e3 := ac8 zc hd ((mag n).length - 1)
 have e4 := aaT zc (ab8 hd ((mag n).length - 1))
 have e5 := aa4 zc hd ((mag n).length - 1)
 obtain ⟨t, ht⟩ := zv e5.1
 have h1 : 1 ≤ t := by
  rcases zE t with h0 | h0
  ·have hc := aRR n
   unfold Cn at hc
   rw [yT, zP zc] at hc
   rw [aiZ zc, h0] at ht
   rw [ht] at hc
   exact absurd rfl hc
  ·exact h0
 have hp : (1000000000 : Int) ^ ((mag n).length - 1) = ((1000000000 ^ ((mag n).length - 1) : Nat) : Int) := zi
 rw [hV, e2, ht, hp] at e1
 rw [hp] at e3
 refine ⟨t, ht, h1, by omega, ?_, ?_⟩
 ·have : ((1000000000 ^ ((mag n).length - 1) * t : Nat) : Int) ≤ n := by
   rw [yq]
   simp only [wB, vq] at e1
   omega
  exact wN.1 this
 ·have : (n : Int) < ((1000000000 ^ ((mag n).length - 1) * (t + 1) : Nat) : Int) := by
   rw [yq]
   simp only [wB, vq] at e1
   rw [vl, wx]
   omega
  exact Int.ofNat_lt.1 this
theorem axK {n t L : Nat} (h1 : 1 ≤ t) (h3 : 1000000000 ^ L * t ≤ n) (h4 : n < 1000000000 ^ L * (t + 1)) : (aa3 n).length = L * 9 + (aa3 t).length := by
 have a1 := afU t
 have a2 := aFX (n := t) zc
 have a3 := ahU t
 have e : (1000000000 : Nat) ^ L = 10 ^ (L * 9) := by rw [show 1000000000 = 10 ^ 9 by decide, ← xi, yH]
 rw [e] at h3 h4
 obtain ⟨q, hq⟩ : ∃ q, (aa3 t).length = q + 1 := ⟨(aa3 t).length - 1, by omega⟩
 rw [hq] at a1 a2 ⊢
 have h5 : 10 ^ (L * 9 + q) ≤ n := by
  rw [xv]
  have := yv (10 ^ (L * 9)) a2
  simp at this
  omega
 have h6 : n < 10 ^ (L * 9 + q + 1) := by
  rw [show L * 9 + q + 1 = L * 9 + (q + 1) by omega, xv]
  have : 10 ^ (L * 9) * (t + 1) ≤ 10 ^ (L * 9) * 10 ^ (q + 1) := yv _ zc
  omega
 rw [an2 h5 h6]
 omega
theorem ap4 (m : List Int) (y) (h : ah2 (m, ()) = some y) : (akJ m).toO = some y := by
 obtain ⟨n, hn, hx, rfl⟩ := aaD h
 obtain ⟨rfl, -⟩ := Prod.mk.inj hx
 unfold akJ
 refine uC (len (mag n) == 0, ()) rfl ?_
 by_cases h0 : n = 0
 ·subst h0
  refine uT (by simp [mag_zero, len]) ?_
  simp [aaK, abI]
 ·obtain ⟨t, ht, h1, h2, h3, h4⟩ := aGl h0
  have hl : 1 ≤ (mag n).length := by
   rcases zE (mag n).length with h5 | h5
   ·exact absurd (mag_nil_iff.1 (zV.1 h5)) h0
   ·exact h5
  have hw : w64 (len (mag n) - 1) = (((mag n).length - 1 : Nat) : Int) := by rw [aaC, aaA (x := ((mag n).length : Int) - 1) zc]; omega
  refine uF sd ?_
  simp only [hw, aaM, ht]
  refine uN sd ?_
  have hdl : (aa3 t).length ≤ 9 := (abF zc).2 zc
  refine uC (aa3 t, ()) ?_ ?_
  ·rw [aaA (x := (t : Int)) zc]
   unfold aA6
   rw [if_pos zm]
   simp only [aeA]
  ·rw [axK h1 h3 h4]
   simp only [aaK, aaC]
   rw [aaA (x := ((((mag n).length - 1 : Nat)) : Int) * 9) zc, aaA zc]
   simp
theorem aJP (m o : List Int) (y) (h : ag4 (m, o, ()) = some y) : (aCc m o).toO = some y := by
 obtain ⟨⟨a, b⟩, hn, hx, rfl⟩ := aaD h
 obtain ⟨rfl, hx2⟩ := Prod.mk.inj hx; obtain ⟨rfl, -⟩ := Prod.mk.inj hx2; dsimp only
 obtain ⟨la, lb⟩ := hn
 simp only at la lb
 unfold aCc
 refine uO (mag a, mag b, ()) rfl ?_
 refine aaO (fun i : List Int × List Int × Unit => ∃ p q : Nat, i = (mag p, mag q, ()) ∧ (mag p).length ≤ 100000000000 ∧ (mag q).length ≤ 100000000000 ∧ Nat.gcd p q = Nat.gcd a b) (fun i => (V 1000000000 i.2.1).toNat) (fun _ => (mag (Nat.gcd a b), ())) ?_ _ ⟨a, b, rfl, la, lb, rfl⟩
 rintro i ⟨p, q, rfl, lp, lq, hg⟩
 simp only [aEw]
 by_cases hq : q = 0
 ·right
  subst hq
  refine uC (len (mag 0) == 0, ()) rfl ?_
  refine uF (by simp [mag_zero, len]) ?_
  rw [← hg]
  simp [aaK]
 ·have hql : 1 ≤ (mag q).length := by
   rcases zE (mag q).length with h5 | h5
   ·exact absurd (mag_nil_iff.1 (zV.1 h5)) hq
   ·exact h5
  by_cases hs : (mag p).length ≤ 2 ∧ (mag q).length ≤ 2
  ·right
   have bp : p < 1000000000000000000 := by have := mag_length_le_iff.1 hs.1; omega
   have bq : q < 1000000000000000000 := by have := mag_length_le_iff.1 hs.2; omega
   refine uC (len (mag q) == 0, ()) rfl ?_
   refine uT (by simp [len]; intro h; simp [h] at hql) ?_
   refine uL (true, ()) ?_ ?_
   ·refine uT sd ?_
    repeat refine za ?_
    show some (Sum.inl (decide (len (mag q) ≤ 2), ())) = _
    rw [zo (show len (mag q) ≤ 2 by exact sn)]
   ·simp only [aw4]
    refine uT rfl ?_
    refine uC ((p : Int), ()) (aaI (enc := fun n : Nat => (mag n, ())) p bp (fun b hb => adO (Prod.mk.inj hb).1)) ?_
    refine uC ((q : Int), ()) (aaI (enc := fun n : Nat => (mag n, ())) q bq (fun b hb => adO (Prod.mk.inj hb).1)) ?_
    refine uO ((q : Int), (p : Int), ()) rfl ?_
    refine aaO (fun i : Int × Int × Unit => ∃ r s : Nat, i = ((r : Int), (s : Int), ()) ∧ s < 1000000000000000000 ∧ r < 1000000000000000000 ∧ Nat.gcd s r = Nat.gcd a b) (fun i => i.1.toNat) (fun _ => (Sum.inr (mag (Nat.gcd a b), ()) : (List Int × List Int × Unit) ⊕ (List Int × Unit))) ?_ _ ⟨q, p, rfl, bp, bq, hg⟩
    rintro i ⟨r, s, rfl, h1, h2, h3⟩
    simp only [aEv]
    rcases zE r with hr | hr
    ·subst hr
     right
     refine uF sd ?_
     refine uC (mag s, ()) ?_ ?_
     ·unfold abO
      rw [if_pos zm]
      simp
     ·rw [← h3]
      simp [aaK]
    ·left
     have hm := yX s hr
     refine ⟨(((s % r : Nat) : Int), (r : Int), ()), ?_, ⟨s % r, r, rfl, by omega, by omega, ?_⟩, by simp only; omega, ze⟩
     ·repeat refine za ?_
      rw [zH zc]
      rfl
     ·rw [← h3, xI s r, Nat.gcd_rec r s, xI]
  ·left
   refine ⟨(mag q, mag (p % q), ()), ?_, ⟨q, p % q, rfl, lq, ?_, ?_⟩, ?_, ze⟩
   ·refine uC (len (mag q) == 0, ()) rfl ?_
    refine uT (by simp [len]; intro h; simp [h] at hql) ?_
    refine uL (false, ()) ?_ ?_
    ·rcases zr 2 (mag p).length with h5 | h5
     ·repeat refine za ?_
      rfl
     ·repeat refine za ?_
      show some (Sum.inl (decide (len (mag q) ≤ 2), ())) = _
      rw [zn (show ¬ len (mag q) ≤ 2 by exact sn)]
    ·simp only [aw4]
     refine uF rfl ?_
     refine uC (mag (p / q), mag (p % q), ()) (aaI (enc := fun p : Nat × Nat => (mag p.1, mag p.2, ())) (p, q) ⟨lp, lq, hq⟩ (fun b hb => adF hb)) ?_
     repeat refine za ?_
     rfl
   ·have := abR (vt (yX p (show 0 < q by omega))); omega
   ·rw [← hg, xI p q, Nat.gcd_rec q p, xI]
   ·simp only [amD, zp]
    exact yX p zc
theorem au6 {s : List UInt8} (h : isD s) (i : Nat) : isD (s.take i) := fun c hc => h c (xc hc)
theorem apZ {s : List UInt8} (h : isD s) (i : Nat) : isD (s.drop i) := fun c hc => h c (xb hc)
theorem aHz {s : List UInt8} {a i : Nat} (h1 : a ≤ i) (h2 : i < s.length) : (s.take (i + 1)).drop a = (s.take i).drop a ++ [s[i]] := by
 rw [zW h2, List.drop_append_of_le_length zh]
theorem avS {s : List UInt8} {a i : Nat} (h1 : a ≤ i) (h2 : i ≤ s.length) : ((s.take i).drop a).length = i - a := zh
theorem aMd {s : List UInt8} {a e : Nat} (h1 : a ≤ e) (h2 : e ≤ s.length) : num (s.take e) = num (s.take a) * 10 ^ (e - a) + num ((s.take e).drop a) := by
 conv => lhs; rw [← xB a (s.take e)]
 rw [am0, avS h1 h2, xh, yM h1]
theorem aGh : num [] = 0 := rfl
theorem aAC {s : List UInt8} (hd : isD s) {a i e : Nat} (h1 : a ≤ i) (h2 : i < e) (h3 : e ≤ s.length) (h4 : e - a ≤ 9) : adY (adY ((num ((s.take i).drop a) : Int) * 10) + adY (wu8 (((s.getD i 0).toNat : Int) - 48))) = (num ((s.take (i + 1)).drop a) : Int) := by
 have hi : i < s.length := zc
 have e1 : s.getD i 0 = s[i] := by simp [hi]
 have e2 := hd s[i] (yg hi)
 have e3 := aD6 (apZ (au6 hd i) a)
 rw [avS h1 zc] at e3
 have e4 : (10 : Nat) ^ (i - a) ≤ 10 ^ 8 := zU zc zc
 have e5 : dv s[i] = s[i].toNat - 48 := rfl
 rw [aHz h1 hi, amY, e1, e5]
 rw [abP (x := (s[i].toNat : Int) - 48) zc, aa0 (x := (s[i].toNat : Int) - 48) zc, aa0 (x := (num ((s.take i).drop a) : Int) * 10) zc, aa0 zc]
 omega
theorem at8 (digits : List UInt8) (y) (h : ahA (digits, ()) = some y) : (asM digits).toO = some y := by
 unfold ahA at h
 split at h
 case isFalse => cases h
 case isTrue hp =>
  obtain ⟨hd, hne, hl⟩ := hp
  simp only at hd hne hl
  injection h with h
  subst h
  generalize digits = s at *
  have hlen : 1 ≤ s.length := ya.2 hne
  refine uO ((s.length : Int), true, [], ()) rfl ?_
  refine aaO (fun i : Int × Bool × List Int × Unit => ∃ e : Nat, i.1 = (e : Int) ∧ 1 ≤ e ∧ e ≤ s.length ∧ Dg 1000000000 i.2.2.1 ∧ V 1000000000 i.2.2.1 + 1000000000 ^ i.2.2.1.length * num (s.take e) = num s ∧ i.2.2.1.length + e ≤ s.length ∧ (i.2.1 = true → i.2.2.1 = [])) (fun i => i.1.toNat) (fun _ => (mag (num s), ())) ?_ _ ⟨s.length, rfl, hlen, zq _, auI _, by simp [V], by simp, fun _ => rfl⟩
  rintro ⟨e', f, l, u⟩ ⟨e, g1, g2, g3, g4, g5, g6, g7⟩
  simp only at g1 g4 g5 g6 g7
  subst g1
  obtain ⟨a, ha, ha1, ha2, ha3⟩ : ∃ a : Nat, (if 0 > w64 ((e : Int) - 9) then 0 else w64 ((e : Int) - 9)) = (a : Int) ∧ a ≤ e ∧ e - a ≤ 9 ∧ (a = 0 ∨ a + 9 = e) := by
   rw [aaA (x := (e : Int) - 9) zc]
   rcases zr e 9 with h9 | h9
   ·exact ⟨0, by rw [if_pos zc]; rfl, by omega, by omega, Or.inl rfl⟩
   ·exact ⟨e - 9, by rw [if_neg zc]; omega, by omega, by omega, Or.inr zc⟩
  have hseg := aMd (s := s) ha1 g3
  have hv := aD6 (apZ (au6 hd e) a)
  rw [avS ha1 g3] at hv
  have hv9 : (10 : Nat) ^ (e - a) ≤ 10 ^ 9 := zU zc ha2
  generalize hX : num ((s.take e).drop a) = X at hseg hv
  have hD : Dg 1000000000 (l ++ [(X : Int)]) := aeK g4 (amP zc zc)
  have hw9 : w64 ((e : Int) - 9) = (e : Int) - 9 := aaA zc
  have hV0 : a = 0 → V 1000000000 (l ++ [(X : Int)]) = num s := by
   intro h0
   subst h0
   rw [ad3, azV, ← g5]
   rw [hseg]
   simp [aGh]
  have hV1 : a + 9 = e → V 1000000000 (l ++ [(X : Int)]) + 1000000000 ^ (l ++ [(X : Int)]).length * (num (s.take a) : Int) = num s := by
   intro h0
   rw [ad3, azV, ← g5, hseg, show e - a = 9 by omega, zR, yu, zY]
   have : (((num (s.take a) * 10 ^ 9 + X : Nat)) : Int) = (num (s.take a) : Int) * 1000000000 + X := zi
   rw [this]
   grind
  cases f
  ·-- not the first group
   simp only [aoT, ha]
   have hin : ac6 (fun i1 => (akM s ((e : Int), false, l, ()) i1).toO) ((a : Int), 0, ()) = some (if a = 0 then Sum.inr (mag (num s), ()) else Sum.inl ((a : Int), false, l ++ [(X : Int)], ())) := by
    refine aaO (fun j : Int × Int × Unit => ∃ i : Nat, a ≤ i ∧ i ≤ e ∧ j = ((i : Int), (num ((s.take i).drop a) : Int), ())) (fun j => ((e : Int) - j.1).toNat) (fun _ => (if a = 0 then Sum.inr (mag (num s), ()) else Sum.inl ((a : Int), false, l ++ [(X : Int)], ()))) ?_ _ ⟨a, zq _, ha1, by rw [yx zh]; rfl⟩
    rintro j ⟨i, h1, h2, rfl⟩
    rcases zr i e with hi | hi
    ·left
     refine ⟨(((i + 1 : Nat) : Int), (num ((s.take (i + 1)).drop a) : Int), ()), ?_, ⟨i + 1, by omega, by omega, rfl⟩, by simp only; omega, ze⟩
     simp only [akM, aaM, aAC hd h1 hi g3 ha2]
     repeat refine za ?_
     simp (disch := omega) only [aaK, aaA, aaN, aa0, abP, aaM, zw, zp, aaC, zt]
     rfl
    ·right
     have hie : i = e := zc
     subst hie
     simp only [akM, ha, hX, zt]
     refine uF sd ?_
     refine uN zc ?_
     by_cases h0 : a = 0
     ·rw [if_pos h0]
      refine uT (by simp [h0]) ?_
      refine uC (mag (num s), ()) ?_ rfl
      rw [zz zi]
      exact avM hD zh (hV0 h0)
     ·rw [if_neg h0]
      refine uF zh ?_
      repeat refine za ?_
      have : w64 ((i : Int) - 9) = (a : Int) := by rw [hw9]; omega
      rw [this]
      rfl
   by_cases h0 : a = 0
   ·right
    rw [if_pos h0] at hin
    refine uF rfl ?_
    refine uO ((a : Int), 0, ()) ?_ hin
    repeat refine za ?_
    rfl
   ·left
    rw [if_neg h0] at hin
    refine ⟨((a : Int), false, l ++ [(X : Int)], ()), ?_, ⟨a, rfl, by omega, by omega, hD, hV1 zc, by simp; omega, by simp⟩, by simp only; omega, ze⟩
    refine uF rfl ?_
    refine uO ((a : Int), 0, ()) ?_ hin
    repeat refine za ?_
    rfl
  ·-- the first group
   obtain rfl := g7 rfl
   simp only [xj] at hD hV0 hV1
   simp only [aoT, ha]
   have hin : ac6 (fun i1 => (akN s ((e : Int), true, [], ()) i1).toO) ((a : Int), 0, ()) = some (if a = 0 then Sum.inr (mag (num s), ()) else Sum.inl ((a : Int), false, [(X : Int)], ())) := by
    refine aaO (fun j : Int × Int × Unit => ∃ i : Nat, a ≤ i ∧ i ≤ e ∧ j = ((i : Int), (num ((s.take i).drop a) : Int), ())) (fun j => ((e : Int) - j.1).toNat) (fun _ => (if a = 0 then Sum.inr (mag (num s), ()) else Sum.inl ((a : Int), false, [(X : Int)], ()))) ?_ _ ⟨a, zq _, ha1, by rw [yx zh]; rfl⟩
    rintro j ⟨i, h1, h2, rfl⟩
    rcases zr i e with hi | hi
    ·left
     refine ⟨(((i + 1 : Nat) : Int), (num ((s.take (i + 1)).drop a) : Int), ()), ?_, ⟨i + 1, by omega, by omega, rfl⟩, by simp only; omega, ze⟩
     simp only [akN, aaM, aAC hd h1 hi g3 ha2]
     repeat refine za ?_
     simp (disch := omega) only [aaK, aaA, aaN, aa0, abP, aaM, zw, zp, aaC, zt]
     rfl
    ·right
     have hie : i = e := zc
     subst hie
     simp only [akN, ha, hX]
     refine uF sd ?_
     refine uN zi ?_
     by_cases h0 : a = 0
     ·rw [if_pos h0]
      refine uT (by simp [h0]) ?_
      refine uC (mag (num s), ()) ?_ rfl
      exact avM hD zi (hV0 h0)
     ·rw [if_neg h0]
      refine uF zh ?_
      repeat refine za ?_
      have : w64 ((i : Int) - 9) = (a : Int) := by rw [hw9]; omega
      rw [this]
      rfl
   by_cases h0 : a = 0
   ·right
    rw [if_pos h0] at hin
    refine uT rfl ?_
    refine uO ((a : Int), 0, ()) ?_ hin
    repeat refine za ?_
    rfl
   ·left
    rw [if_neg h0] at hin
    refine ⟨((a : Int), false, [(X : Int)], ()), ?_, ⟨a, rfl, by omega, by omega, hD, hV1 zc, by simp; omega, by simp⟩, by simp only; omega, ze⟩
    refine uT rfl ?_
    refine uO ((a : Int), 0, ()) ?_ hin
    repeat refine za ?_
    rfl
set_option maxRecDepth 100000
open Go Go.Vg Go.Proofs
noncomputable section
def aJU : LTab := []
def aAI (m : List Int) (negative : Bool) : TT tD :=
 .ite (negative)
 (.call (ac9 (m, ())) Dd1 fun y =>
 .ok (((m, !y.1, ()), ())))
 (.ok (((m, false, ()), ())))
def aRz : LTab := []
def aP5 (m : List Int) (negative : Bool) : TT tD :=
 .ite (negative)
 (.call (ahY (m, ())) Dd1 fun y =>
 .ok (((m, !y.1, ()), ())))
 (.ok (((m, false, ()), ())))
def aCg : LTab := []
def ap9 (n : List Int × Bool × Unit) : TT tD :=
 .call (aa9 (n.1, !n.2.1, ())) Dd5 fun y =>
 .ok (((y.1.1, y.1.2.1, ()), ()))
def aMP : LTab := []
def aw9 (n : List Int × Bool × Unit) : TT uK :=
 .call (ac9 (n.1, ())) Dd1 fun y =>
 .ite (y.1)
 (.ok ((0, ())))
 (.ite (n.2.1)
 (.ok ((-1, ())))
 (.ok ((1, ()))))
def aMO : LTab := []
def aw8 (n : List Int × Bool × Unit) : TT tc :=
 .ite (n.2.1)
 (.call (ah3 (n.1, ())) Dd2 fun y =>
 .need (List.length #[45].toList + List.length y.1 ≤ lim) <| .ok ((#[45].toList ++ y.1, ())))
 (.call (ah3 (n.1, ())) Dd2 fun y1 =>
 .ok ((y1.1, ())))
def aPC : LTab := []
def aCe (n : List Int × Bool × Unit) (o : List Int × Bool × Unit) : TT tD :=
 .ite (n.2.1 == o.2.1)
 (.call (amH (n.1, o.1, ())) Dd0 fun y =>
 .call (aa9 (y.1, n.2.1, ())) Dd5 fun y1 =>
 .ok (((y1.1.1, y1.1.2.1, ()), ())))
 (.call (adS (n.1, o.1, ())) Dd6 fun y2 =>
 .ite (decide (y2.1 < 0))
 (.call (ajZ (o.1, n.1, ())) Dd0 fun y3 =>
 .call (aa9 (y3.1, o.2.1, ())) Dd5 fun y4 =>
 .ok (((y4.1.1, y4.1.2.1, ()), ())))
 (.call (ajZ (n.1, o.1, ())) Dd0 fun y5 =>
 .call (aa9 (y5.1, n.2.1, ())) Dd5 fun y6 =>
 .ok (((y6.1.1, y6.1.2.1, ()), ()))))
def alI (s : List Int × Bool × Unit) (o : List Int × Bool × Unit) : TT tD :=
 .call (aqS ((o.1, o.2.1, ()), ())) Dd5 fun y =>
 .call (aIk ((s.1, s.2.1, ()), y.1, ())) Dd5 fun y1 =>
 .ok (((y1.1.1, y1.1.2.1, ()), ()))
def aC3 : LTab := []
def alH (s : List Int × Bool × Unit) (o : List Int × Bool × Unit) : TT tD :=
 .call (ajO (s.1, o.1, ())) Dd0 fun y =>
 .call (aiM (y.1, !s.2.1 == o.2.1, ())) Dd5 fun y1 =>
 .ok (((y1.1.1, y1.1.2.1, ()), ()))
def aGF : LTab := []
def aoR (n : List Int × Bool × Unit) (m : List Int) : TT tD :=
 .call (acD (n.1, m, ())) Dd0 fun y =>
 .call (aa9 (y.1, n.2.1, ())) Dd5 fun y1 =>
 .ok (((y1.1.1, y1.1.2.1, ()), ()))
def aJT : LTab := []
def asL (n : List Int × Bool × Unit) (d : List Int) : TT tD :=
 .call (abC (n.1, d, ())) Dd4 fun y =>
 .ite (n.2.1)
 (.call (ac9 (y.2.1, ())) Dd1 fun y1 =>
 .ite (!y1.1)
 (.call (amH (y.1, [1], ())) Dd0 fun y2 =>
 .call (aa9 (y2.1, n.2.1, ())) Dd5 fun y3 =>
 .ok (((y3.1.1, y3.1.2.1, ()), ())))
 (.call (aa9 (y.1, n.2.1, ())) Dd5 fun y4 =>
 .ok (((y4.1.1, y4.1.2.1, ()), ()))))
 (.call (aa9 (y.1, n.2.1, ())) Dd5 fun y5 =>
 .ok (((y5.1.1, y5.1.2.1, ()), ())))
def aJW : LTab := []
def aAJ (a : List UInt8) : TT tD :=
 .call (abY (a, #[45].toList, ())) Dd7 fun y =>
 .call (ahA (y.1, ())) Dd0 fun y1 =>
 .ok (((y1.1, y.2.1, ()), ()))
def aGV : LTab := []
def aoV (s : List UInt8) (prefix0 : List UInt8) : TT (List UInt8 × Bool × Unit) :=
 .tt <| .tt <| .tt <| .tt <| .ite (decide (len s ≥ len prefix0))
 (.need (inc (len prefix0) (len s)) <| .ite (!List.take (Int.toNat (len prefix0)) s == prefix0)
 (.ok ((s, false, ())))
 (.need (inc (len prefix0) (len s)) <| .ok ((List.take (List.length s - Int.toNat (len prefix0)) (List.drop (Int.toNat (len prefix0)) s), true, ()))))
 (.ok ((s, false, ())))
def aJG : LTab := []
def asG (x : uv × List Int × Unit) : TT uH :=
 .call (ah2 (x.1.1, ())) Dd6 fun y =>
 .ite (decide (y.1 > 600))
 (.ok (((#[].toList, #[].toList, ()), 6, ())))
 (.call (ah2 (x.2.1, ())) Dd6 fun y1 =>
 .ite (decide (y1.1 > 600))
 (.ok (((#[].toList, #[].toList, ()), 6, ())))
 (.call (aj0 ((x.1.1, x.1.2.1, ()), ())) Dd2 fun y2 =>
 .call (ah3 (x.2.1, ())) Dd2 fun y3 =>
 .ok (((y2.1, y3.1, ()), 0, ()))))
def aGG : LTab := []
def aoS (n : List Int × Bool × Unit) (d : List Int) : TT te :=
 .call (ag4 (n.1, d, ())) Dd0 fun y =>
 .call (abC (n.1, y.1, ())) Dd4 fun y1 =>
 .call (abC (d, y.1, ())) Dd4 fun y2 =>
 .call (aa9 (y1.1, n.2.1, ())) Dd5 fun y3 =>
 .ok ((((y3.1.1, y3.1.2.1, ()), y2.1, ()), ()))
def aEp : LTab := []
def atZ (x : uv × List Int × Unit) : TT te :=
 .call (afK ((x.1.1, x.1.2.1, ()), ())) Dd5 fun y =>
 .ok ((((y.1.1, y.1.2.1, ()), x.2.1, ()), ()))
def aPA : LTab := []
def aCb (x : uv × List Int × Unit) (y : uv × List Int × Unit) : TT te :=
 .call (ag4 (x.2.1, y.2.1, ())) Dd0 fun y1 =>
 .call (abC (y.2.1, y1.1, ())) Dd4 fun y2 =>
 .call (abC (x.2.1, y1.1, ())) Dd4 fun y3 =>
 .call (adT ((x.1.1, x.1.2.1, ()), y2.1, ())) Dd5 fun y4 =>
 .call (adT ((y.1.1, y.1.2.1, ()), y3.1, ())) Dd5 fun y5 =>
 .call (anL (y4.1, y5.1, ())) Dd5 fun y6 =>
 .call (ag4 (y6.1.1, y1.1, ())) Dd0 fun y7 =>
 .call (abC (y6.1.1, y7.1, ())) Dd4 fun y8 =>
 .call (abC (y.2.1, y7.1, ())) Dd4 fun y9 =>
 .call (aa9 (y8.1, y6.1.2.1, ())) Dd5 fun y10 =>
 .call (acD (y3.1, y9.1, ())) Dd0 fun y11 =>
 .ok ((((y10.1.1, y10.1.2.1, ()), y11.1, ()), ()))
def aPy : LTab := []
def aH4 (x : uv × List Int × Unit) (y : uv × List Int × Unit) : TT te :=
 .call (aiN (((y.1.1, y.1.2.1, ()), y.2.1, ()), ())) Dd8 fun y1 =>
 .call (aq5 (((x.1.1, x.1.2.1, ()), x.2.1, ()), y1.1, ())) Dd8 fun y2 =>
 .ok ((((y2.1.1.1, y2.1.1.2.1, ()), y2.1.2.1, ()), ()))
def aPz : LTab := []
def aCa (x : uv × List Int × Unit) (y : uv × List Int × Unit) : TT te :=
 .call (ag4 (x.1.1, y.2.1, ())) Dd0 fun y1 =>
 .call (ag4 (y.1.1, x.2.1, ())) Dd0 fun y2 =>
 .call (abC (x.1.1, y1.1, ())) Dd4 fun y3 =>
 .call (abC (x.2.1, y2.1, ())) Dd4 fun y4 =>
 .call (abC (y.1.1, y2.1, ())) Dd4 fun y5 =>
 .call (abC (y.2.1, y1.1, ())) Dd4 fun y6 =>
 .call (acD (y3.1, y5.1, ())) Dd0 fun y7 =>
 .call (aa9 (y7.1, !x.1.2.1 == y.1.2.1, ())) Dd5 fun y8 =>
 .call (acD (y4.1, y6.1, ())) Dd0 fun y9 =>
 .ok ((((y8.1.1, y8.1.2.1, ()), y9.1, ()), ()))
def aEq : LTab := []
def at1 (x : uv × List Int × Unit) : TT te :=
 .call (aa9 (x.2.1, x.1.2.1, ())) Dd5 fun y =>
 .ok ((((y.1.1, y.1.2.1, ()), x.1.1, ()), ()))
def aJI : LTab := []
def asH (x : uv × List Int × Unit) (y : uv × List Int × Unit) : TT uK :=
 .call (adT ((x.1.1, x.1.2.1, ()), y.2.1, ())) Dd5 fun y1 =>
 .call (adT ((y.1.1, y.1.2.1, ()), x.2.1, ())) Dd5 fun y2 =>
 .call (afK (y2.1, ())) Dd5 fun y3 =>
 .call (anL (y1.1, y3.1, ())) Dd5 fun y4 =>
 .call (aj1 (y4.1, ())) Dd6 fun y5 =>
 .ok ((y5.1, ()))
def aME : LTab := []
def awU (x : uv × List Int × Unit) (scale : List Int) : TT tD :=
 .call (acD (scale, [2], ())) Dd0 fun y =>
 .call (adT ((x.1.1, x.1.2.1, ()), y.1, ())) Dd5 fun y1 =>
 .call (aa9 (x.2.1, false, ())) Dd5 fun y2 =>
 .call (anL (y1.1, y2.1, ())) Dd5 fun y3 =>
 .call (acD (x.2.1, [2], ())) Dd0 fun y4 =>
 .call (aj2 ((y3.1.1, y3.1.2.1, ()), y4.1, ())) Dd5 fun y5 =>
 .ok (((y5.1.1, y5.1.2.1, ()), ()))
def aKS : LTab := []
def avF (s : List Int × Bool × Unit) : TT tk :=
 .call (akY (s.1, ())) Dd6 fun y =>
 .ite (decide (y.1 > 600))
 (.ok ((#[].toList, 6, ())))
 (.ite (s.2.1)
 (.call (ak0 (s.1, ())) Dd2 fun y1 =>
 .need (List.length #[45].toList + List.length y1.1 ≤ lim) <| .ok ((#[45].toList ++ y1.1, 0, ())))
 (.call (ak0 (s.1, ())) Dd2 fun y2 =>
 .ok ((y2.1, 0, ()))))
end
theorem aBB {p q : Int × Int} (h : (sg p.1, sg p.2, ()) = (sg q.1, sg q.2, ())) : p = q := by
 obtain ⟨h1, h2⟩ := Prod.mk.inj h
 obtain ⟨h2, -⟩ := Prod.mk.inj h2
 exact Prod.ext (apF h1) (apF h2)
theorem aFH {p q : Int × Nat} (h : (sg p.1, mag p.2, ()) = (sg q.1, mag q.2, ())) : p = q := by
 obtain ⟨h1, h2⟩ := Prod.mk.inj h
 obtain ⟨h2, -⟩ := Prod.mk.inj h2
 exact Prod.ext (apF h1) (adO h2)
theorem auX {p q : Rat × Rat} (h : (rt p.1, rt p.2, ()) = (rt q.1, rt q.2, ())) : p = q := by
 obtain ⟨h1, h2⟩ := Prod.mk.inj h
 obtain ⟨h2, -⟩ := Prod.mk.inj h2
 exact Prod.ext (az6 h1) (az6 h2)
theorem aQx {p q : Rat × Nat} (h : (rt p.1, mag p.2, ()) = (rt q.1, mag q.2, ())) : p = q := by
 obtain ⟨h1, h2⟩ := Prod.mk.inj h
 obtain ⟨h2, -⟩ := Prod.mk.inj h2
 exact Prod.ext (az6 h1) (adO h2)
theorem aEC (m : List Int) (negative : Bool) (y) (h : aa9 (m, negative, ()) = some y) : (aAI m negative).toO = some y := by
 injection h with h
 subst h
 cases negative
 ·rfl
 ·exact uT rfl (uC (len m == 0, ()) rfl rfl)
theorem abV {n : Nat} {b : Bool} {w : Int} (hn : n = w.natAbs) (hb : w = 0 ∨ b = decide (w < 0)) : aa9 (mag n, b, ()) = some (sg w, ()) := by
 subst hn
 unfold aa9 sg
 rcases hb with rfl | rfl
 ·simp [mag_zero, len]
 ·by_cases h0 : w = 0
  ·subst h0; simp
  ·have : (len (mag w.natAbs) == 0) = false := by
    have h1 : mag w.natAbs ≠ [] := fun h2 => by have := mag_nil_iff.1 h2; omega
    have h3 : (mag w.natAbs).length ≠ 0 := fun h2 => h1 (zV.1 h2)
    rw [aaC, beq_eq_false_iff_ne]; omega
   simp only [this, wM, Bool.and_true]
theorem aOk (m : List Int) (negative : Bool) (y) (h : aiM (m, negative, ()) = some y) : (aP5 m negative).toO = some y := by
 injection h with h
 subst h
 cases negative
 ·rfl
 ·exact uT rfl (uC (len m == 0, ()) rfl rfl)
theorem aA8 {n : Nat} {b : Bool} {w : Int} (hn : n = w.natAbs) (hb : w = 0 ∨ b = decide (w < 0)) : aiM (mag n, b, ()) = some (sg w, ()) := by
 subst hn
 unfold aiM sg
 rcases hb with rfl | rfl
 ·simp [mag_zero, len]
 ·by_cases h0 : w = 0
  ·subst h0; simp
  ·have : (len (mag w.natAbs) == 0) = false := by
    have h1 : mag w.natAbs ≠ [] := fun h2 => by have := mag_nil_iff.1 h2; omega
    have h3 : (mag w.natAbs).length ≠ 0 := fun h2 => h1 (zV.1 h2)
    rw [aaC, beq_eq_false_iff_ne]; omega
   simp only [this, wM, Bool.and_true]
theorem arF {a : Int} (h1 : Bd 8 a.natAbs) : afK (sg a, ()) = some (sg (-a), ()) := aaI (enc := fun x : Int => (sg x, ())) a h1 (fun b hb => apF (Prod.mk.inj hb).1)
theorem aCS {a b : Int} (h1 : Bd 7 a.natAbs) (h2 : Bd 7 b.natAbs) : anL (sg a, sg b, ()) = some (sg (a + b), ()) := aaI (enc := fun x : Int × Int => (sg x.1, sg x.2, ())) (a, b) ⟨h1, h2⟩ (fun b hb => aBB hb)
theorem axA (n : SgT) (y) (h : afK (n, ()) = some y) : (ap9 n).toO = some y := by
 obtain ⟨a, hp, hx, rfl⟩ := aaD h
 obtain ⟨rfl, -⟩ := Prod.mk.inj hx
 refine uC (sg (-a), ()) (abV zc ?_) rfl
 by_cases h0 : a = 0
 ·left; omega
 ·right
  show (!decide (a < 0)) = decide (-a < 0)
  by_cases h1 : a < 0
  ·rw [zo h1, zn zc]; rfl
  ·rw [zn h1, zo zc]; rfl
theorem aJS (n o : SgT) (y) (h : anL (n, o, ()) = some y) : (aCe n o).toO = some y := by
 obtain ⟨⟨a, b⟩, hp, hx, rfl⟩ := aaD h
 obtain ⟨rfl, hx2⟩ := Prod.mk.inj hx; obtain ⟨rfl, -⟩ := Prod.mk.inj hx2; dsimp only
 obtain ⟨l1, l2⟩ := hp
 simp only at l1 l2
 unfold aCe
 dsimp only
 by_cases hs : (decide (a < 0) == decide (b < 0)) = true
 ·refine uT hs ?_
  have hs' : (a < 0 ↔ b < 0) := by simpa using hs
  refine uC _ (aFf (aaH l1 zc) (aaH l2 zc)) ?_
  refine uC (sg (a + b), ()) (abV zc (Or.inr ?_)) rfl
  exact decide_eq_decide.2 zc
 ·have hs' : ¬ (a < 0 ↔ b < 0) := by simpa using hs
  refine uF (by simpa using hs) ?_
  refine uC _ (auH (aaH l1 zc) (aaH l2 zc)) ?_
  by_cases hc : a.natAbs < b.natAbs
  ·refine uT ?_ ?_
   ·unfold auC; rw [if_pos zc]; rfl
   ·refine uC _ (aBg (aaH l2 zc) zc) ?_
    refine uC (sg (a + b), ()) (abV zc (Or.inr ?_)) rfl
    exact decide_eq_decide.2 zc
  ·refine uF ?_ ?_
   ·unfold auC
    rw [if_neg zc]
    split <;> rfl
   ·refine uC _ (aBg (aaH l1 zc) zc) ?_
    refine uC (sg (a + b), ()) (abV zc ?_) rfl
    by_cases h0 : a + b = 0
    ·exact Or.inl h0
    ·exact Or.inr (decide_eq_decide.2 zc)
theorem aCP {a : Int} (h1 : Bd 8 a.natAbs) : aqS (sg a, ()) = some (sg (-a), ()) := aaI (enc := fun x : Int => (sg x, ())) a h1 (fun b hb => apF (Prod.mk.inj hb).1)
theorem aP0 {a b : Int} (h1 : Bd 7 a.natAbs) (h2 : Bd 7 b.natAbs) : aIk (sg a, sg b, ()) = some (sg (a + b), ()) := aaI (enc := fun x : Int × Int => (sg x.1, sg x.2, ())) (a, b) ⟨h1, h2⟩ (fun b hb => aBB hb)
theorem ay3 {a : Int} (h1 : Bd 8 a.natAbs) : aj1 (sg a, ()) = some (a.sign, ()) := aaI (enc := fun x : Int => (sg x, ())) a h1 (fun b hb => apF (Prod.mk.inj hb).1)
theorem aGE (n : SgT) (y) (h : aj1 (n, ()) = some y) : (aw9 n).toO = some y := by
 obtain ⟨a, hp, hx, rfl⟩ := aaD h
 obtain ⟨rfl, -⟩ := Prod.mk.inj hx
 unfold aw9
 dsimp only
 refine uC _ (arE _) ?_
 rcases xm a 0 with h0 | h0 | h0
 ·refine uF zh (uT zh ?_)
  rw [xg h0]; rfl
 ·subst h0; exact uT zi rfl
 ·refine uF zh (uF zh ?_)
  rw [xw h0]; rfl
theorem ay2 {a : Int} (h1 : Bd 0 a.natAbs) : aj0 (sg a, ()) = some (dec a, ()) := aaI (enc := fun x : Int => (sg x, ())) a h1 (fun b hb => apF (Prod.mk.inj hb).1)
theorem aIc {n : Nat} (h : Bd 0 n) : (aa3 n).length ≤ 9000001 := by
 have := ai1 (k := 1000000 * 4 ^ 0) h
 omega
theorem aGD (n : SgT) (y) (h : aj0 (n, ()) = some y) : (aw8 n).toO = some y := by
 obtain ⟨a, hp, hx, rfl⟩ := aaD h
 obtain ⟨rfl, -⟩ := Prod.mk.inj hx
 unfold aw8
 dsimp only
 have hl := aIc hp
 by_cases h0 : a < 0
 ·refine uT zh (uC _ (ao5 hp) (uN ?_ ?_))
  ·show 1 + (aa3 a.natAbs).length ≤ lim
   unfold lim; omega
  ·rw [ahT h0]; rfl
 ·refine uF zh (uC _ (ao5 hp) ?_)
  rw [acC zc]; rfl
theorem ah5 {a : Int} {b : Nat} (h1 : Bd 7 a.natAbs) (h2 : Bd 7 b) : adT (sg a, mag b, ()) = some (sg (a * b), ()) := aaI (enc := fun x : Int × Nat => (sg x.1, mag x.2, ())) (a, b) ⟨h1, h2⟩ (fun b hb => aFH hb)
theorem aCf (n : SgT) (m : List Int) (y) (h : adT (n, m, ()) = some y) : (aoR n m).toO = some y := by
 obtain ⟨⟨a, b⟩, hp, hx, rfl⟩ := aaD h
 obtain ⟨rfl, hx2⟩ := Prod.mk.inj hx; obtain ⟨rfl, -⟩ := Prod.mk.inj hx2; dsimp only
 obtain ⟨l1, l2⟩ := hp
 simp only at l1 l2
 unfold aoR
 dsimp only
 refine uC _ (ahB (aaH l1 zc) (aaH l2 zc)) ?_
 refine uC (sg (a * b), ()) (abV (by rw [yy]; rfl) ?_) rfl
 rcases zE b with h0 | h0
 ·left; subst h0; simp
 ·right
  refine decide_eq_decide.2 ⟨fun h => wi h zc, fun h => ?_⟩
  rcases zO a 0 with h2 | h2
  ·exact h2
  ·have := ye h2 (show (0 : Int) ≤ b by omega); omega
theorem asJ {a : Int} {d : Nat} (ha : a < 0) (hd : d ≠ 0) : a / (d : Int) = -((if a.natAbs % d = 0 then a.natAbs / d else a.natAbs / d + 1 : Nat) : Int) := by
 obtain ⟨n, hn⟩ : ∃ n : Nat, a = -(n : Int) := ⟨a.natAbs, by omega⟩
 subst hn
 rw [xN, zM]
 have e := xY n d
 have hlt := yX n (show 0 < d by omega)
 generalize hq : n / d = q at e
 generalize hr : n % d = r at e hlt
 by_cases h0 : r = 0
 ·rw [if_pos h0]
  have : -(n : Int) = -(q : Int) * d := by
   rw [← e, h0]; simp; grind
  rw [this, Int.mul_ediv_cancel _ zc]
 ·rw [if_neg h0]
  have h1 : -(n : Int) = ((d : Int) - r) + (-((q + 1 : Nat) : Int)) * d := by
   rw [← e]; simp; grind
  rw [h1, Int.add_mul_ediv_right _ _ zc, xx zc zc, vu]
theorem aBh {a : Int} {b : Nat} (h1 : Bd 7 a.natAbs) (h2 : Bd 7 b) (h3 : b ≠ 0) : aj2 (sg a, mag b, ()) = some (sg (a / b), ()) := aaI (enc := fun x : Int × Nat => (sg x.1, mag x.2, ())) (a, b) ⟨h1, h2, h3⟩ (fun b hb => aFH hb)
theorem asA : mag 1 = [1] := apY zc zc
theorem aQW : mag 2 = [2] := apY zc zc
theorem aEA (n : SgT) (d : List Int) (y) (h : aj2 (n, d, ()) = some y) : (asL n d).toO = some y := by
 obtain ⟨⟨a, b⟩, hp, hx, rfl⟩ := aaD h
 obtain ⟨rfl, hx2⟩ := Prod.mk.inj hx; obtain ⟨rfl, -⟩ := Prod.mk.inj hx2; dsimp only
 obtain ⟨l1, l2, l3⟩ := hp
 simp only at l1 l2 l3
 unfold asL
 dsimp only
 refine uC _ (ab6 (aaH l1 zc) (aaH l2 zc) l3) ?_
 by_cases ha : a < 0
 ·refine uT zh ?_
  refine uC _ (arE _) ?_
  have hf := asJ ha l3
  have hbd := aaS b l1
  generalize a.natAbs / b = q at hf hbd
  generalize hrr : a.natAbs % b = r at hf
  by_cases hr : r = 0
  ·rw [if_pos hr] at hf
   refine uF zh ?_
   refine uC (sg (a / b), ()) (abV (n := q) zc ?_) rfl
   by_cases h0 : a / (b : Int) = 0
   ·exact Or.inl h0
   ·exact Or.inr (decide_eq_decide.2 zc)
  ·rw [if_neg hr] at hf
   refine uT zh ?_
   have := aFf (a := q) (b := 1) (aaH hbd zc) (aaH (aaG zc) zc)
   rw [asA] at this
   refine uC _ this ?_
   refine uC (sg (a / b), ()) (abV (n := q + 1) zc (Or.inr (decide_eq_decide.2 zc))) rfl
 ·refine uF zh ?_
  obtain ⟨n, rfl⟩ := zv (show 0 ≤ a by omega)
  have hdv : ((n : Int) / (b : Int)) = ((n / b : Nat) : Int) := zi
  rw [hdv]
  refine uC (sg ((n / b : Nat) : Int), ()) (abV (n := n / b) rfl (Or.inr (decide_eq_decide.2 ?_))) rfl
  generalize n / b = q
  omega
theorem aCw (s p : List UInt8) (hs : s.length ≤ 4611686018427387904) (y) (h : abY (s, p, ()) = some y) : (aoV s p).toO = some y := by
 injection h with h
 subst h
 unfold aoV
 dsimp only
 rcases zr s.length p.length with hl | hl
 ·repeat refine za ?_
  have : p.isPrefixOf s = false := by
   cases hp : p.isPrefixOf s with
   | false => rfl
   | true => have := (wV.1 hp).length_le; omega
  simp [this, aaK]
 ·refine uV (uV (uV (uV (uT sd (uN sd ?_)))))
  simp only [aaC, zp]
  by_cases hp : p.isPrefixOf s = true
  ·have h2 := List.prefix_iff_eq_take.1 (wV.1 hp)
   refine uF (by rw [← h2]; simp) (uN sd ?_)
   rw [if_pos hp, zz zi]; rfl
  ·refine uT ?_ ?_
   ·simp only [zS, beq_eq_false_iff_ne]
    intro h2
    exact hp (wV.2 (List.prefix_iff_eq_take.2 h2.symm))
   ·rw [if_neg hp]; rfl
theorem aFg (z : Int) : abY (dec z, #[45].toList, ()) = some (aa3 z.natAbs, decide (z < 0), ()) := by
 unfold abY
 show some (if [45].isPrefixOf (dec z) = true then _ else _) = _
 by_cases h : z < 0
 ·rw [ahT h, zo h]
  simp [List.isPrefixOf]
 ·rw [acC zc, zn h]
  have : [45].isPrefixOf (aa3 z.natAbs) = false := by
   have := adH z.natAbs
   cases hd : aa3 z.natAbs with
   | nil => rfl
   | cons a l =>
    rw [hd] at this
    simp only [vk, ne_eq, Option.some.injEq] at this
    simp [List.isPrefixOf, Ne.symm this]
  rw [this]; simp
theorem anO {z : Int} (h : Bd 7 z.natAbs) : af4 (dec z, ()) = some (sg z, ()) := aaI (enc := fun x : Int => (dec x, ())) z h (fun b hb => akP (Prod.mk.inj hb).1)
theorem aED (a : List UInt8) (y) (h : af4 (a, ()) = some y) : (aAJ a).toO = some y := by
 obtain ⟨z, hp, hx, rfl⟩ := aaD h
 obtain ⟨rfl, -⟩ := Prod.mk.inj hx
 exact uC _ (aFg z) (uC _ (aKG (aaH hp zc)) rfl)
end Go.Vs
