/-
  Trees of what the functions compute, and their laws. Own work; no condition.
-/
import Derived.Test.YtakjojajnblpoaaGreatDoorClX1
import Derived.Test.YtakjojajnblpoaaGreatDoorProg
set_option linter.unusedVariables false
set_option linter.unusedSimpArgs false
set_option maxRecDepth 100000
namespace Go.Vs
open Go Go.Vg Go.Proofs
noncomputable section
def aLK : LTab := []
def apE (m : List Int) : TT uk :=
 .ok ((len m == 0, ()))
def aLM : LTab := [(207, 12, 1025, ⟨0, (List Int) × Unit, .dat (.s 0) uI <| .nil, [2], [], 0⟩)]
def az8 (m : List Int) (i : (List Int) × Unit) : TT (tu ⊕ uj) :=
 .ite (decide (len i.1 > 0))
 (.need (inb (w64 (len i.1 - 1)) (len i.1)) <| .ite (gi i.1 (w64 (len i.1 - 1)) 0 == 0)
 (.need (inc (w64 (len i.1 - 1)) (len i.1)) <| .tt <| .lt (List.take (Int.toNat (w64 (len i.1 - 1))) i.1 : List Int) fun z => .vI (vJ z <| True ∧ True) <| .tr <| .ok (.inl ((z, ()))))
 (.ok (.inr ((i.1, ())))))
 (.ok (.inr ((i.1, ()))))
def av1 (m : List Int) : TT uj :=
 .loop 0 (.tt <| .vI (vJ m <| True ∧ True) <| .tr <| .ok ((m, ()))) (az8 m)
def aIU : LTab := [(175, 58, 6144, ⟨0, (Int) × (Int) × Unit, .dat (.s 4) vZ <| .dat (.s 3) uw <| .nil, [2, 0], [], 0⟩)]
def av4 (m : List Int) (i : (Int) × (Int) × Unit) : TT (ur ⊕ uz) :=
 .ite (decide (i.1 ≥ 0))
 (.need (inb i.1 (len m)) <| .tt <| .lt (w64 (i.1 - 1) : Int) fun z1 => .lt (abN (abN (i.2.1 * 1000000000) + abN (gi m i.1 0)) : Int) fun z2 => .vI (vK z2 z1 (0 : Int) m) <| .tr <| .ok (.inl ((z1, z2, ()))))
 (.ok (.inr ((i.2.1, ()))))
def az9 (m : List Int) : TT uz :=
 .loop 0 (.tt <| .lt (w64 (len m - 1) : Int) fun z => .vI (vK (0 : Int) z (0 : Int) m) <| .tr <| .ok ((z, 0, ()))) (av4 m)
def aDL : LTab := [(141, 58, 10240, ⟨0, (Int) × Unit, .dat (.s 5) vZ <| .nil, [0, 1], [], 0⟩)]
def apI (m : List Int) (o : List Int) (i : (Int) × Unit) : TT (uq ⊕ uz) :=
 .ite (decide (i.1 ≥ 0))
 (.need (inb i.1 (len m)) <| .need (inb i.1 (len o)) <| .ite (gi m i.1 0 != gi o i.1 0)
 (.need (inb i.1 (len m)) <| .need (inb i.1 (len o)) <| .tt <| .tt <| .tt <| .tt <| .tt <| .tt <| .ite (gi m i.1 0 != gi m i.1 0)
 (.ite (gi o i.1 0 != gi o i.1 0)
 (.ok (.inr ((0, ()))))
 (.ok (.inr ((-1, ())))))
 (.ite (gi o i.1 0 != gi o i.1 0)
 (.ok (.inr ((1, ()))))
 (.ite (decide (gi m i.1 0 < gi o i.1 0))
 (.ok (.inr ((-1, ()))))
 (.ite (decide (gi m i.1 0 > gi o i.1 0))
 (.ok (.inr ((1, ()))))
 (.ok (.inr ((0, ()))))))))
 (.tt <| .lt (w64 (i.1 - 1) : Int) fun z1 => .vI (vL z1 m o) <| .tr <| .ok (.inl ((z1, ())))))
 (.ok (.inr ((0, ()))))
def ahX (m : List Int) (o : List Int) : TT uz :=
 .ite (len m != len o)
 (.tt <| .tt <| .tt <| .tt <| .tt <| .tt <| .ite (len m != len m)
 (.ite (len o != len o)
 (.ok ((0, ())))
 (.ok ((-1, ()))))
 (.ite (len o != len o)
 (.ok ((1, ())))
 (.ite (decide (len m < len o))
 (.ok ((-1, ())))
 (.ite (decide (len m > len o))
 (.ok ((1, ())))
 (.ok ((0, ())))))))
 (.loop 0 (.tt <| .lt (w64 (len m - 1) : Int) fun z => .vI (vL z m o) <| .tr <| .ok ((z, ()))) (apI m o))
def aLN : LTab := [(181, 3, 1025, ⟨0, (List Int) × (List Int) × Unit, .dat (.s 0) uI <| .dat (.s 1) uI <| .nil, [4], [], 0⟩), (181, 250, 10241, ⟨1, (Int) × (Int) × (List Int) × Unit, .dat (.s 22) vZ <| .dat (.s 6) ud <| .app (.s 5) 10 189 ud <| .nil, [21, 20, 1, 4], [], 1⟩)]
def aAa (m : List Int) (o : List Int) (j : List Int × List Int × Unit) (i : (Int) × (Int) × (List Int) × Unit) : TT (uy ⊕ uj) :=
 .ite (decide (i.1 < len j.1))
 (.need (inb i.1 (len j.1)) <| .ite (decide (i.1 < len j.2.1))
 (.need (inb i.1 (len j.2.1)) <| .ite (decide (adT (adT (gi j.1 i.1 0 + i.2.1) + gi j.2.1 i.1 0) ≥ 1000000000))
 (.need ((List.length i.2.2.1 + 1) * 4 ≤ 140737488355328) <| .tt <| .lt (w64 (i.1 + 1) : Int) fun z1 => .lt (List.take (List.length i.2.2.1) i.2.2.1 ++ [adT (adT (adT (gi j.1 i.1 0 + i.2.1) + gi j.2.1 i.1 0) - 1000000000)] : List Int) fun z2 => .need ((((10) = (10)) ∧ (((0) = (0)) ∧ ((List.length i.2.2.1 + 1 = List.length z2) ∧ ((true) = (true))))) ∧ ((1 : Int) = 1) ∧ ((z1 : Int) = z1) ∧ ((len j.1 : Int) = len j.1) ∧ ((j.1 : List Int) = j.1) ∧ ((j.2.1 : List Int) = j.2.1) ∧ True ∧ True) <| .vI (vH (vM 189 z2) True) <| .ok (.inl ((z1, 1, z2, ()))))
 (.need ((List.length i.2.2.1 + 1) * 4 ≤ 140737488355328) <| .tt <| .lt (w64 (i.1 + 1) : Int) fun z3 => .lt (List.take (List.length i.2.2.1) i.2.2.1 ++ [adT (adT (gi j.1 i.1 0 + i.2.1) + gi j.2.1 i.1 0)] : List Int) fun z4 => .need ((((10) = (10)) ∧ (((0) = (0)) ∧ ((List.length i.2.2.1 + 1 = List.length z4) ∧ ((true) = (true))))) ∧ ((0 : Int) = 0) ∧ ((z3 : Int) = z3) ∧ ((len j.1 : Int) = len j.1) ∧ ((j.1 : List Int) = j.1) ∧ ((j.2.1 : List Int) = j.2.1) ∧ True ∧ True) <| .vI (vH (vM 189 z4) True) <| .ok (.inl ((z3, 0, z4, ())))))
 (.ite (decide (adT (gi j.1 i.1 0 + i.2.1) ≥ 1000000000))
 (.need ((List.length i.2.2.1 + 1) * 4 ≤ 140737488355328) <| .tt <| .lt (w64 (i.1 + 1) : Int) fun z5 => .lt (List.take (List.length i.2.2.1) i.2.2.1 ++ [adT (adT (gi j.1 i.1 0 + i.2.1) - 1000000000)] : List Int) fun z6 => .need ((((10) = (10)) ∧ (((0) = (0)) ∧ ((List.length i.2.2.1 + 1 = List.length z6) ∧ ((true) = (true))))) ∧ ((1 : Int) = 1) ∧ ((z5 : Int) = z5) ∧ ((len j.1 : Int) = len j.1) ∧ ((j.1 : List Int) = j.1) ∧ ((j.2.1 : List Int) = j.2.1) ∧ True ∧ True) <| .vI (vH (vM 189 z6) True) <| .ok (.inl ((z5, 1, z6, ()))))
 (.need ((List.length i.2.2.1 + 1) * 4 ≤ 140737488355328) <| .tt <| .lt (w64 (i.1 + 1) : Int) fun z7 => .lt (List.take (List.length i.2.2.1) i.2.2.1 ++ [adT (gi j.1 i.1 0 + i.2.1)] : List Int) fun z8 => .need ((((10) = (10)) ∧ (((0) = (0)) ∧ ((List.length i.2.2.1 + 1 = List.length z8) ∧ ((true) = (true))))) ∧ ((0 : Int) = 0) ∧ ((z7 : Int) = z7) ∧ ((len j.1 : Int) = len j.1) ∧ ((j.1 : List Int) = j.1) ∧ ((j.2.1 : List Int) = j.2.1) ∧ True ∧ True) <| .vI (vH (vM 189 z8) True) <| .ok (.inl ((z7, 0, z8, ()))))))
 (.ite (decide (i.2.1 > 0))
 (.need ((List.length i.2.2.1 + 1) * 4 ≤ 140737488355328) <| .ok (.inr ((List.take (List.length i.2.2.1 + 1) (List.take (List.length i.2.2.1) i.2.2.1 ++ [i.2.1]), ()))))
 (.ok (.inr ((List.take (List.length i.2.2.1) i.2.2.1, ())))))
def arS (m : List Int) (o : List Int) (j : (List Int) × (List Int) × Unit) : TT uj :=
 .need (asT Int 0 ≤ 0 ∧ 0 ≤ w64 (len j.1 + 1) ∧ w64 (len j.1 + 1) * (↑4 : Int) ≤ 140737488355328) <| .loop 1 (.tt <| .lt (List.replicate (Int.toNat 0) 0 : List Int) fun z => .vI ((vN 10 0 0 true) ∧ (vO (0 : Int) (0 : Int) (len j.1) j.1 j.2.1 <| True ∧ True)) <| .vI (vH (vM 189 z) True) <| .ok ((0, 0, z, ()))) (aAa m o j)
def apF (m : List Int) (o : List Int) : TT uj :=
 .join 0 (ι := (List Int) × (List Int) × Unit) (.ite (decide (len m < len o))
 (.tt <| .vI (vP m o <| True ∧ True) <| .tr <| .ok (.inl ((o, m, ()))))
 (.tt <| .vI (vP o m <| True ∧ True) <| .tr <| .ok (.inl ((m, o, ()))))) (arS m o)
def aIW : LTab := [(219, 122, 9217, ⟨0, (Int) × (Int) × (List Int) × Unit, .dat (.s 15) vZ <| .dat (.s 6) ud <| .row 3 ud <| .nil, [14, 13, 5, 4, 1], [3], 0⟩)]
def av6 (m : List Int) (o : List Int) (i : (Int) × (Int) × (List Int) × Unit) : TT (uy ⊕ uj) :=
 .ite (decide (i.1 < len m))
 (.need (inb i.1 (len m)) <| .ite (decide (i.1 < len o))
 (.need (inb i.1 (len o)) <| .ite (decide (gi m i.1 0 < adT (i.2.1 + gi o i.1 0)))
 (.need (inb i.1 (↑(Int.toNat (len m)) : Int)) <| .tt <| .lt (w64 (i.1 + 1) : Int) fun z1 => .lt (List.set i.2.2.1 (0 + Int.toNat i.1) (adT (adT (gi m i.1 0 + 1000000000) - adT (i.2.1 + gi o i.1 0))) : List Int) fun z2 => .vI (vQ (1 : Int) z1 (len m) m <| (vN 3 0 (Int.toNat (len m)) true) ∧ True ∧ vR o) <| .vI (vH (vM 189 z2) True) <| .ok (.inl ((z1, 1, z2, ()))))
 (.need (inb i.1 (↑(Int.toNat (len m)) : Int)) <| .tt <| .lt (w64 (i.1 + 1) : Int) fun z3 => .lt (List.set i.2.2.1 (0 + Int.toNat i.1) (adT (gi m i.1 0 - adT (i.2.1 + gi o i.1 0))) : List Int) fun z4 => .vI (vQ (0 : Int) z3 (len m) m <| (vN 3 0 (Int.toNat (len m)) true) ∧ True ∧ vR o) <| .vI (vH (vM 189 z4) True) <| .ok (.inl ((z3, 0, z4, ())))))
 (.ite (decide (gi m i.1 0 < i.2.1))
 (.need (inb i.1 (↑(Int.toNat (len m)) : Int)) <| .tt <| .lt (w64 (i.1 + 1) : Int) fun z5 => .lt (List.set i.2.2.1 (0 + Int.toNat i.1) (adT (adT (gi m i.1 0 + 1000000000) - i.2.1)) : List Int) fun z6 => .vI (vQ (1 : Int) z5 (len m) m <| (vN 3 0 (Int.toNat (len m)) true) ∧ True ∧ vR o) <| .vI (vH (vM 189 z6) True) <| .ok (.inl ((z5, 1, z6, ()))))
 (.need (inb i.1 (↑(Int.toNat (len m)) : Int)) <| .tt <| .lt (w64 (i.1 + 1) : Int) fun z7 => .lt (List.set i.2.2.1 (0 + Int.toNat i.1) (adT (gi m i.1 0 - i.2.1)) : List Int) fun z8 => .vI (vQ (0 : Int) z7 (len m) m <| (vN 3 0 (Int.toNat (len m)) true) ∧ True ∧ vR o) <| .vI (vH (vM 189 z8) True) <| .ok (.inl ((z7, 0, z8, ()))))))
 (.call (acD (List.take (Int.toNat (len m)) i.2.2.1, ())) Dd0 fun y =>
 .ok (.inr ((y.1, ()))))
def amN (m : List Int) (o : List Int) : TT uj :=
 .need (0 ≤ len m ∧ len m ≤ len m ∧ len m * (↑4 : Int) ≤ 140737488355328) <| .loop 0 (.tt <| .lt (List.replicate (Int.toNat (len m)) 0 : List Int) fun z => .vI (vQ (0 : Int) (0 : Int) (len m) m <| (vN 3 0 (Int.toNat (len m)) true) ∧ True ∧ vR o) <| .vI (vH (vM 189 z) True) <| .ok ((0, 0, z, ()))) (av6 m o)
def aIT : LTab := [(180, 58, 11265, ⟨0, (Int) × (List Int) × Unit, .dat (.s 19) vZ <| .row 6 ud <| .nil, [18, 17, 5, 4, 1], [6], 0⟩), (180, 59802, 21505, ⟨1, (Int) × (Int) × (List Int) × Unit, .dat (.s 26) vZ <| .dat (.s 8) uw <| .row 6 ud <| .nil, [25, 24, 7, 6, 23, 22, 21, 20, 19, 18, 17, 5, 4, 1], [6], 0⟩)]
def an7 (m : List Int) (o : List Int) (i : Int × List Int × Unit) (i1 : (Int) × (Int) × (List Int) × Unit) : TT (uy ⊕ uU) :=
 .ite (decide (i1.1 < len o))
 (.need (inb i1.1 (len o)) <| .need (inb (w64 (i.1 + i1.1)) (↑(Int.toNat (w64 (len m + len o))) : Int)) <| .triv (asT Int 1000000000 ≠ 0) zf <| .need (inb (w64 (i.1 + i1.1)) (↑(Int.toNat (w64 (len m + len o))) : Int)) <| .triv (asT Int 1000000000 ≠ 0) zf <| .tt <| .lt (w64 (i1.1 + 1) : Int) fun z2 => .lt (abN (Int.tdiv (abN (i1.2.1 + abN (abN (List.getD i1.2.2.1 (0 + Int.toNat (w64 (i.1 + i1.1))) 0) + abN (abN (gi m i.1 0) * abN (gi o i1.1 0))))) 1000000000) : Int) fun z3 => .lt (List.set i1.2.2.1 (0 + Int.toNat (w64 (i.1 + i1.1))) (adT (Int.tmod (abN (i1.2.1 + abN (abN (List.getD i1.2.2.1 (0 + Int.toNat (w64 (i.1 + i1.1))) 0) + abN (abN (gi m i.1 0) * abN (gi o i1.1 0))))) 1000000000)) : List Int) fun z4 => .vI (vS z3 z2 (len o) o (gi m i.1 0) i.1 (gi m i.1 0) (gi m i.1 0) <| vO i.1 (decide (i.1 < len m)) i.1 (len m) m <| (vN 6 0 (Int.toNat (w64 (len m + len o))) true) ∧ True ∧ vR o) <| .vI (vH (vM 189 z4) True) <| .ok (.inl ((z2, z3, z4, ()))))
 (.need (inb (w64 (i.1 + len o)) (↑(Int.toNat (w64 (len m + len o))) : Int)) <| .tt <| .lt (w64 (i.1 + 1) : Int) fun z5 => .lt (List.set i1.2.2.1 (0 + Int.toNat (w64 (i.1 + len o))) (adT i1.2.1) : List Int) fun z6 => .vI (vT z5 (len m) m <| (vN 6 0 (Int.toNat (w64 (len m + len o))) true) ∧ True ∧ vR o) <| .vI (vH (vM 189 z6) True) <| .ok (.inr (.inl ((z5, z6, ())))))
def av3 (m : List Int) (o : List Int) (i : (Int) × (List Int) × Unit) : TT uU :=
 .ite (decide (i.1 < len m))
 (.need (inb i.1 (len m)) <| .loop 1 (.tt <| .lt (i.2.1 : List Int) fun z1 => .vI (vS (0 : Int) (0 : Int) (len o) o (gi m i.1 0) i.1 (gi m i.1 0) (gi m i.1 0) <| vO i.1 (decide (i.1 < len m)) i.1 (len m) m <| (vN 6 0 (Int.toNat (w64 (len m + len o))) true) ∧ True ∧ vR o) <| .vI (vH (vM 189 z1) True) <| .ok ((0, 0, z1, ()))) (an7 m o i))
 (.call (acD (List.take (Int.toNat (w64 (len m + len o))) i.2.1, ())) Dd0 fun y =>
 .ok (.inr ((y.1, ()))))
def amL (m : List Int) (o : List Int) : TT uj :=
 .need (0 ≤ w64 (len m + len o) ∧ w64 (len m + len o) ≤ w64 (len m + len o) ∧ w64 (len m + len o) * (↑4 : Int) ≤ 140737488355328) <| .loop 0 (.tt <| .lt (List.replicate (Int.toNat (w64 (len m + len o))) 0 : List Int) fun z => .vI (vT (0 : Int) (len m) m <| (vN 6 0 (Int.toNat (w64 (len m + len o))) true) ∧ True ∧ vR o) <| .vI (vH (vM 189 z) True) <| .ok ((0, z, ()))) (av3 m o)
def aIV : LTab := [(208, 122, 11265, ⟨0, (Int) × (Int) × (List Int) × Unit, .dat (.s 8) vZ <| .dat (.s 7) uw <| .row 4 ud <| .nil, [6, 5, 4, 0, 1], [4], 0⟩)]
def an8 (m : List Int) (d : Int) (i : (Int) × (Int) × (List Int) × Unit) : TT (uy ⊕ tz) :=
 .ite (decide (i.1 ≥ 0))
 (.need (inb i.1 (len m)) <| .need (abN d ≠ 0) <| .need (inb i.1 (↑(Int.toNat (len m)) : Int)) <| .need (abN d ≠ 0) <| .tt <| .lt (w64 (i.1 - 1) : Int) fun z2 => .lt (Int.tmod (abN (abN (i.2.1 * 1000000000) + abN (gi m i.1 0))) (abN d) : Int) fun z3 => .lt (List.set i.2.2.1 (0 + Int.toNat i.1) (adT (abN (Int.tdiv (abN (abN (i.2.1 * 1000000000) + abN (gi m i.1 0))) (abN d)))) : List Int) fun z4 => .vI (vP z3 z2 <| (vN 4 0 (Int.toNat (len m)) true) ∧ (vJ (0 : Int) <| True ∧ vU m d)) <| .vI (vH (vM 189 z4) True) <| .ok (.inl ((z2, z3, z4, ()))))
 (.call (acD (List.take (Int.toNat (len m)) i.2.2.1, ())) Dd0 fun y =>
 .ok (.inr ((y.1, adT i.2.1, ()))))
def amM (m : List Int) (d : Int) : TT tz :=
 .need (0 ≤ len m ∧ len m ≤ len m ∧ len m * (↑4 : Int) ≤ 140737488355328) <| .loop 0 (.tt <| .lt (w64 (len m - 1) : Int) fun z => .lt (List.replicate (Int.toNat (len m)) 0 : List Int) fun z1 => .vI (vP (0 : Int) z <| (vN 4 0 (Int.toNat (len m)) true) ∧ (vJ (0 : Int) <| True ∧ vU m d)) <| .vI (vH (vM 189 z1) True) <| .ok ((z, 0, z1, ()))) (an8 m d)
def aBB : LTab := [(176, 28, 2050, ⟨0, Bool × (List Int) × (Int) × Unit, .appN (.s 3) 2 189 ud <| .dat (.s 0) uw <| .nil, [2], [], 1⟩)]
def ad7 (v : Int) (i : Bool × (List Int) × (Int) × Unit) : TT ((Bool × (List Int) × (Int) × Unit) ⊕ uj) :=
 .ite (i.1)
 (.ite (decide (i.2.2.1 > 0))
 (.triv (asT Int 1000000000 ≠ 0) zf <| .need (1 * 4 ≤ 140737488355328) <| .triv (asT Int 1000000000 ≠ 0) zf <| .tt <| .lt ([adT (Int.tmod i.2.2.1 1000000000)] : List Int) fun z => .lt (abN (Int.tdiv i.2.2.1 1000000000) : Int) fun z1 => .vI (vJ z1 <| (vN 2 0 1 true) ∧ True ∧ True) <| .vI (vH (vM 189 z) True) <| .ok (.inl ((false, z, z1, ()))))
 (.ok (.inr (([], ())))))
 (.ite (decide (i.2.2.1 > 0))
 (.triv (asT Int 1000000000 ≠ 0) zf <| .need ((List.length i.2.1 + 1) * 4 ≤ 140737488355328) <| .triv (asT Int 1000000000 ≠ 0) zf <| .tt <| .lt (List.take (List.length i.2.1) i.2.1 ++ [adT (Int.tmod i.2.2.1 1000000000)] : List Int) fun z2 => .lt (abN (Int.tdiv i.2.2.1 1000000000) : Int) fun z3 => .need (((z3 : Int) = z3) ∧ (((2) = (2)) ∧ (((0) = (0)) ∧ ((List.length i.2.1 + 1 = List.length z2) ∧ ((true) = (true))))) ∧ True ∧ True) <| .vI (vH (vM 189 z2) True) <| .ok (.inl ((false, z2, z3, ()))))
 (.ok (.inr ((List.take (List.length i.2.1) i.2.1, ())))))
def aj6 (v : Int) : TT uj :=
 .loop 0 (.tt <| .vI (vJ v <| True ∧ True ∧ True) <| .tr <| .ok ((true, [], v, ()))) (ad7 v)
def aI4 : LTab := [(174, 218, 5122, ⟨0, (Int) × Bool × (List Int) × Unit, .dat (.s 4) vZ <| .appN (.s 3) 5 189 ud <| .nil, [2, 0], [], 1⟩), (174, 55834, 13314, ⟨1, (Int) × (Int) × Unit, .dat (.s 7) vZ <| .dat (.s 6) ud <| .nil, [15, 5, 14, 13, 12, 3, 4, 2, 0], [], 0⟩), (174, 55834, 13313, ⟨2, (Int) × (Int) × Unit, .dat (.s 7) vZ <| .dat (.s 6) ud <| .nil, [15, 5, 14, 13, 12, 3, 4, 2, 0], [5], 0⟩)]
def aj5 (digits : List UInt8) (i : Int × Bool × List Int × Unit) (i1 : (Int) × (Int) × Unit) : TT (ur ⊕ (uW ⊕ uj)) :=
 .ite (decide (i1.1 < i.1))
 (.need (inb i1.1 (len digits)) <| .tt <| .lt (w64 (i1.1 + 1) : Int) fun z1 => .lt (adT (adT (i1.2.1 * 10) + adT (wu8 ((↑(UInt8.toNat (gi digits i1.1 0)) : Int) - 48))) : Int) fun z2 => .vI (vV z2 z1 (if 0 > w64 (i.1 - 9) then 0 else w64 (i.1 - 9) : Int) (if 0 > w64 (i.1 - 9) then 0 else w64 (i.1 - 9) : Int) (if 0 > w64 (i.1 - 9) then 0 else w64 (i.1 - 9) : Int) (w64 (i.1 - 9)) i.1 <| True ∧ (vJ i.1 <| True ∧ vR digits)) <| .tr <| .ok (.inl ((z1, z2, ()))))
 (.need (1 * 4 ≤ 140737488355328) <| .ite ((if 0 > w64 (i.1 - 9) then 0 else w64 (i.1 - 9)) == 0)
 (.call (acD ([i1.2.1], ())) Dd0 fun y =>
 .ok (.inr (.inr ((y.1, ())))))
 (.tt <| .lt (w64 (i.1 - 9) : Int) fun z3 => .lt ([i1.2.1] : List Int) fun z4 => .vI (tO ∧ (vJ z3 <| True ∧ vR digits)) <| .vI (vH (vM 189 z4) True) <| .ok (.inr (.inl ((z3, false, z4, ()))))))
def aj4 (digits : List UInt8) (i : Int × Bool × List Int × Unit) (i2 : (Int) × (Int) × Unit) : TT (ur ⊕ (uW ⊕ uj)) :=
 .ite (decide (i2.1 < i.1))
 (.need (inb i2.1 (len digits)) <| .tt <| .lt (w64 (i2.1 + 1) : Int) fun z6 => .lt (adT (adT (i2.2.1 * 10) + adT (wu8 ((↑(UInt8.toNat (gi digits i2.1 0)) : Int) - 48))) : Int) fun z7 => .vI (vV z7 z6 (if 0 > w64 (i.1 - 9) then 0 else w64 (i.1 - 9) : Int) (if 0 > w64 (i.1 - 9) then 0 else w64 (i.1 - 9) : Int) (if 0 > w64 (i.1 - 9) then 0 else w64 (i.1 - 9) : Int) (w64 (i.1 - 9)) i.1 <| (vN 5 0 (List.length i.2.2.1) true) ∧ (vJ i.1 <| True ∧ vR digits)) <| .vI (vH (vM 189 i.2.2.1) True) <| .ok (.inl ((z6, z7, ()))))
 (.need ((List.length i.2.2.1 + 1) * 4 ≤ 140737488355328) <| .ite ((if 0 > w64 (i.1 - 9) then 0 else w64 (i.1 - 9)) == 0)
 (.call (acD (List.take (List.length i.2.2.1 + 1) (List.take (List.length i.2.2.1) i.2.2.1 ++ [i2.2.1]), ())) Dd0 fun y1 =>
 .ok (.inr (.inr ((y1.1, ())))))
 (.tt <| .lt (w64 (i.1 - 9) : Int) fun z8 => .lt (List.take (List.length i.2.2.1) i.2.2.1 ++ [i2.2.1] : List Int) fun z9 => .need ((((5) = (5)) ∧ (((0) = (0)) ∧ ((List.length i.2.2.1 + 1 = List.length z9) ∧ ((true) = (true))))) ∧ ((z8 : Int) = z8) ∧ True ∧ ((digits) = (digits)) ∧ True) <| .vI (vH (vM 189 z9) True) <| .ok (.inr (.inl ((z8, false, z9, ()))))))
def aoC (digits : List UInt8) (i : (Int) × Bool × (List Int) × Unit) : TT (uW ⊕ uj) :=
 .ite (i.2.1)
 (.loop 1 (.tt <| .lt (if 0 > w64 (i.1 - 9) then 0 else w64 (i.1 - 9) : Int) fun z => .vI (vV (0 : Int) z z z z (w64 (i.1 - 9)) i.1 <| True ∧ (vJ i.1 <| True ∧ vR digits)) <| .tr <| .ok ((z, 0, ()))) (aj5 digits i))
 (.loop 2 (.tt <| .lt (if 0 > w64 (i.1 - 9) then 0 else w64 (i.1 - 9) : Int) fun z5 => .vI (vV (0 : Int) z5 z5 z5 z5 (w64 (i.1 - 9)) i.1 <| (vN 5 0 (List.length i.2.2.1) true) ∧ (vJ i.1 <| True ∧ vR digits)) <| .vI (vH (vM 189 i.2.2.1) True) <| .ok ((z5, 0, ()))) (aj4 digits i))
def arW (digits : List UInt8) : TT uj :=
 .loop 0 (.tt <| .vI (True ∧ (vJ (len digits) <| True ∧ vR digits)) <| .tr <| .ok ((len digits, true, [], ()))) (aoC digits)
def aFL : LTab := []
def aj1 (m : List Int) : TT uz :=
 .call (ac6 (m, ())) Dd1 fun y =>
 .ite (y.1)
 (.ok ((1, ())))
 (.need (inb (w64 (len m - 1)) (len m)) <| .call (aAw (w64 (gi m (w64 (len m - 1)) 0), ())) Dd2 fun y1 =>
 .ok ((w64 (w64 (w64 (len m - 1) * 9) + len y1.1), ())))
def aOz : LTab := [(140, 12, 1025, ⟨0, (List Int) × (List Int) × Unit, .dat (.s 0) uI <| .dat (.s 1) uI <| .nil, [], [], 0⟩), (140, 196, 4096, ⟨1, (Bool) × Unit, .dat (.s 19) tw <| .nil, [1, 0], [], 0⟩), (140, 6292, 10240, ⟨2, (Int) × (Int) × Unit, .dat (.s 6) uw <| .dat (.s 5) uw <| .nil, [23, 22, 21, 20, 19, 1, 0], [], 0⟩)]
def aDJ (m : List Int) (o : List Int) (i : List Int × List Int × Unit) (y : Bool × Unit) (j : Bool × Unit) (y1 : Int × Unit) (y2 : Int × Unit) (i1 : (Int) × (Int) × Unit) : TT (ur ⊕ (tf ⊕ uj)) :=
 .ite (decide (i1.1 > 0))
 (.need (i1.1 ≠ 0) <| .tt <| .lt (Int.tmod i1.2.1 i1.1 : Int) fun z1 => .vI (vS i1.1 z1 y2.1 i.2.1 y1.1 i.1 j.1 i.2.1 <| vR i.1) <| .tr <| .ok (.inl ((z1, i1.1, ()))))
 (.call (abM (i1.2.1, ())) Dd0 fun y3 =>
 .ok (.inr (.inr ((y3.1, ())))))
def av7 (m : List Int) (o : List Int) (i : List Int × List Int × Unit) (y : Bool × Unit) (j : (Bool) × Unit) : TT (tf ⊕ uj) :=
 .ite (j.1)
 (.call (am1 (i.1, ())) Dd3 fun y1 =>
 .call (am1 (i.2.1, ())) Dd3 fun y2 =>
 .loop 2 (.tt <| .vI (vS y1.1 y2.1 y2.1 i.2.1 y1.1 i.1 j.1 i.2.1 <| vR i.1) <| .tr <| .ok ((y2.1, y1.1, ()))) (aDJ m o i y j y1 y2))
 (.call (abC (i.1, i.2.1, ())) Dd4 fun y4 =>
 .tt <| .lt (i.2.1 : List Int) fun z2 => .lt (y4.2.1 : List Int) fun z3 => .vI (vU z3 z2) <| .tr <| .ok (.inl ((z2, z3, ()))))
def aDK (m : List Int) (o : List Int) (i : (List Int) × (List Int) × Unit) : TT (tf ⊕ uj) :=
 .call (ac6 (i.2.1, ())) Dd1 fun y =>
 .ite (!y.1)
 (.join 1 (ι := (Bool) × Unit) (.ite (decide (len i.1 ≤ 2))
 (.tt <| .lt (decide (len i.2.1 ≤ 2) : Bool) fun z => .vI (vL z i.2.1 i.1) <| .tr <| .ok (.inl ((z, ()))))
 (.tt <| .vI (vL false i.2.1 i.1) <| .tr <| .ok (.inl ((false, ()))))) (av7 m o i y))
 (.ok (.inr ((i.1, ()))))
def aBu (m : List Int) (o : List Int) : TT uj :=
 .loop 0 (.tt <| .vI (vU o m) <| .tr <| .ok ((m, o, ()))) (aDK m o)
end
open Go Go.Vg
theorem av0 (m : List Int) (y) (h : ac6 (m, ()) = some y) : (apE m).toO = some y := by
 simpa [ac6, apE, TT.toO] using h
theorem av2 (m : List Int) (y) (h : acD (m, ()) = some y) : (av1 m).toO = some y := by
 unfold acD at h
 split at h
 ·rename_i hp
  obtain ⟨hd, hl⟩ := hp
  simp only at hd hl
  injection h with h
  subst h
  refine uO (m, ()) rfl ?_
  refine aaL (fun i => Dg 1000000000 i.1 ∧ i.1.length ≤ 2000000000000 ∧ V 1000000000 i.1 = V 1000000000 m) (fun i => i.1.length) (fun _ => (mag (V 1000000000 m).toNat, ())) ?_ _ ⟨hd, hl, rfl⟩
  rintro ⟨l, u⟩ ⟨h1, h2, h3⟩
  simp only at h1 h2 h3
  have hfin : Cn l → l = mag (V 1000000000 m).toNat := fun hc => apC h1 hc (by rw [h3]; have := aaS zc hd; omega)
  unfold az8
  by_cases hz : l = []
  ·subst hz
   right
   repeat refine za ?_
   rw [← hfin atP]; rfl
  ·have hlen : 0 < l.length := yd.2 hz
   have hw : w64 (len l - 1) = ((l.length - 1 : Nat) : Int) := by rw [aaB]; simp (disch := omega) only [aaA]; omega
   have hg : gi l ((l.length - 1 : Nat) : Int) 0 = l[l.length - 1] := aRG rfl zc
   simp only [hw, hg]
   by_cases h0 : l[l.length - 1] = 0
   ·left
    refine ⟨(l.take (l.length - 1), ()), ?_, ⟨ab4 h1 _, ?_, ?_⟩, ?_, trivial⟩
    ·repeat refine za ?_
     rfl
    ·simp; omega
    ·have := akF 1000000000 (l := l) (i := l.length - 1) zc
     rw [h0, show l.length - 1 + 1 = l.length by omega, zt] at this
     rw [← h3, this]; simp
    ·simp; omega
   ·right
    repeat refine za ?_
    rw [← hfin (by unfold Cn; rw [yQ, zR zc]; simpa using h0)]; rfl
 ·cases h
theorem aDI (m : List Int) (y) (h : am1 (m, ()) = some y) : (az9 m).toO = some y := by
 obtain ⟨n, hn, hx, rfl⟩ := aaE h
 injection hx with hx
 subst hx
 have hl : (mag n).length ≤ 2 := mag_length_le_iff.2 zc
 have hd := agM n
 have hV := al0 n
 refine uO (((mag n).length : Int) - 1, 0, ()) ?_ ?_
 ·repeat refine za ?_
  show some (w64 ((mag n).length - 1), (0 : Int), ()) = _
  rw [aaA (x := ((mag n).length : Int) - 1) zc]
 refine aaL (fun i => ∃ k : Nat, k ≤ (mag n).length ∧ i.1 = (k : Int) - 1 ∧ i.2.1 = V 1000000000 ((mag n).drop k)) (fun i => (i.1 + 1).toNat) (fun _ => ((n : Int), ())) ?_ _ ⟨_, zq _, rfl, by simp [V]⟩
 rintro ⟨i, v, u⟩ ⟨k, h1, h2, h3⟩
 simp only at h2 h3
 subst h2 h3
 unfold av4
 rcases zF k with h0 | h0
 ·subst h0
  right
  repeat refine za ?_
  simp only [yM, hV]
  rfl
 ·left
  obtain ⟨j, rfl⟩ : ∃ j, k = j + 1 := ⟨k - 1, by omega⟩
  have e1 := aaU 1000000000 (mag n) j
  have e2 := aa2 zc hd j
  have e3 := aaS zc (acH hd j)
  have e4 := aaS zc (acH hd (j + 1))
  have e5 := aM0 zc hd j
  have e6 : ((j + 1 : Nat) : Int) - 1 = (j : Int) := zc
  rw [e6]
  refine ⟨((j : Int) - 1, V 1000000000 ((mag n).drop j), ()), ?_, ⟨j, by omega, rfl, rfl⟩, by simp only; omega, rfl⟩
  repeat refine za ?_
  simp only [aaM]
  rw [aaA (x := (j : Int) - 1) zc, aaO (x := V 1000000000 ((mag n).drop (j + 1)) * 1000000000) zc, aaO (x := (mag n).getD j 0) zc, aaO zc, e1, aaH]
  rw [Int.add_comm, yI]
theorem anE (m o : List Int) (y) (h : adN (m, o, ()) = some y) : (ahX m o).toO = some y := by
 obtain ⟨⟨a, b⟩, hn, hx, rfl⟩ := aaE h
 obtain ⟨rfl, hx2⟩ := Prod.mk.inj hx
 obtain ⟨rfl, -⟩ := Prod.mk.inj hx2
 dsimp only
 obtain ⟨l1, l2⟩ := hn
 simp only at l1 l2
 unfold ahX
 have hda := agM a
 have hdb := agM b
 have hVa := al0 a
 have hVb := al0 b
 rcases Nat.lt_trichotomy (mag a).length (mag b).length with hl | hl | hl
 ·have := anI hl
  repeat refine za ?_
  simp only [aaH, atG]
  rw [if_pos (show (a : Int) < b by omega)]
 ·refine uF sd ?_
  refine uO (((mag a).length : Int) - 1, ()) ?_ ?_
  ·repeat refine za ?_
   show some (w64 ((mag a).length - 1), ()) = _
   rw [aaA (x := ((mag a).length : Int) - 1) zc]
  refine aaL (fun i => ∃ k : Nat, k ≤ (mag a).length ∧ i.1 = (k : Int) - 1 ∧ V 1000000000 ((mag a).drop k) = V 1000000000 ((mag b).drop k)) (fun i => (i.1 + 1).toNat) (fun _ => (atG a b, ())) ?_ _ ⟨_, zq _, rfl, by rw [acT _ (zq _), acT _ zc]⟩
  rintro ⟨i, u⟩ ⟨k, h1, h2, h3⟩
  simp only at h2 h3
  subst h2
  unfold apI
  rcases zF k with h0 | h0
  ·subst h0
   right
   repeat refine za ?_
   simp only [yM, hVa, hVb] at h3
   simp only [aaH, atG]
   rw [if_neg zc, if_pos h3]
  ·obtain ⟨j, rfl⟩ : ∃ j, k = j + 1 := ⟨k - 1, by omega⟩
   have e6 : ((j + 1 : Nat) : Int) - 1 = (j : Int) := zc
   simp only [e6, aaM]
   have a1 := ab5 1000000000 (mag a) j
   have b1 := ab5 1000000000 (mag b) j
   have a2 := aaU 1000000000 (mag a) j
   have b2 := aaU 1000000000 (mag b) j
   have a3 := ac5 zc hda j
   have b3 := ac5 zc hdb j
   have a4 := aaS zc (ab4 hda j)
   have b4 := aaS zc (ab4 hdb j)
   have hp : (1 : Int) ≤ 1000000000 ^ j := aA7 zc j
   rcases xB ((mag a).getD j 0) ((mag b).getD j 0) with hc | hc | hc
   ·right
    repeat refine za ?_
    have h5 : (1000000000 : Int) ^ j * (V 1000000000 ((mag a).drop j) + 1) ≤ 1000000000 ^ j * V 1000000000 ((mag b).drop j) := zC zc zc
    rw [xZ] at h5
    simp only [aaH, atG]
    rw [if_pos (show (a : Int) < b by omega)]
   ·left
    refine ⟨((j : Int) - 1, ()), ?_, ⟨j, by omega, rfl, by omega⟩, by simp only; omega, trivial⟩
    repeat refine za ?_
    rw [aaA (x := (j : Int) - 1) zc]; rfl
   ·right
    repeat refine za ?_
    have h5 : (1000000000 : Int) ^ j * (V 1000000000 ((mag b).drop j) + 1) ≤ 1000000000 ^ j * V 1000000000 ((mag a).drop j) := zC zc zc
    rw [xZ] at h5
    simp only [aaH, atG]
    rw [if_neg (show ¬ (a : Int) < b by omega), if_neg (show ¬ (a : Int) = b by omega)]
 ·have := anI hl
  repeat refine za ?_
  simp only [aaH, atG]
  rw [if_neg (show ¬ (a : Int) < b by omega), if_neg (show ¬ (a : Int) = b by omega)]
theorem anC (m o : List Int) (a b : Nat) (la : (mag a).length ≤ 1000000000000) (hl : (mag b).length ≤ (mag a).length) : (arS m o (mag a, mag b, ())).toO = some (mag (a + b), ()) := by
 have hda := agM a
 have hdb := agM b
 have hVa := al0 a
 have hVb := al0 b
 unfold arS
 dsimp only
 refine uN ?_ ?_
 ·(try simp only [aaB, inb, inc, ge_iff_le, gt_iff_lt, zp, asT, ne_eq])
  simp (disch := omega) only [aaA, aaO, aaZ, abJ, aaM, zv, zp, aaB]
  omega
 refine uO (0, 0, [], ()) rfl ?_
 refine aaL (fun i => ∃ k : Nat, k ≤ (mag a).length ∧ i.1 = (k : Int) ∧ 0 ≤ i.2.1 ∧ i.2.1 ≤ 1 ∧ i.2.2.1.length = k ∧ Dg 1000000000 i.2.2.1 ∧ V 1000000000 i.2.2.1 + 1000000000 ^ k * i.2.1 = V 1000000000 ((mag a).take k) + V 1000000000 ((mag b).take k)) (fun i => (((mag a).length : Int) - i.1).toNat) (fun _ => (mag (a + b), ())) ?_ _ ⟨0, ye _, rfl, by simp, by simp, rfl, ax2 _, by simp [V]⟩
 rintro ⟨i, c, s, u⟩ ⟨k, h1, h2, h3, h4, h5, h6, h7⟩
 simp only at h2 h3 h4 h5 h6 h7
 subst h2
 simp only [aAa, aaM]
 have ea := aa5 1000000000 (mag a) k
 have eb := aa5 1000000000 (mag b) k
 have da := aa2 zc hda k
 have db := aa2 zc hdb k
 rcases zr k (mag a).length with hk | hk
 ·left
  have key : ∀ x c' : Int, 0 ≤ x ∧ x < 1000000000 → x + 1000000000 * c' = (mag a).getD k 0 + (mag b).getD k 0 + c → V 1000000000 (s ++ [x]) + 1000000000 ^ (k + 1) * c' = V 1000000000 ((mag a).take (k + 1)) + V 1000000000 ((mag b).take (k + 1)) := by
   intro x c' _ hx
   rw [aeB, aCa, h5, ea, eb, zZ]
   have : (1000000000 : Int) ^ k * (x + 1000000000 * c') = 1000000000 ^ k * ((mag a).getD k 0 + (mag b).getD k 0 + c) := by rw [hx]
   grind
  have fin : ∀ x c' : Int, 0 ≤ x ∧ x < 1000000000 → 0 ≤ c' ∧ c' ≤ 1 → x + 1000000000 * c' = (mag a).getD k 0 + (mag b).getD k 0 + c → (∃ k_1 : Nat, k_1 ≤ (mag a).length ∧ ((k + 1 : Nat) : Int) = (k_1 : Int) ∧ 0 ≤ c' ∧ c' ≤ 1 ∧ (s ++ [x]).length = k_1 ∧ Dg 1000000000 (s ++ [x]) ∧ V 1000000000 (s ++ [x]) + 1000000000 ^ k_1 * c' = V 1000000000 ((mag a).take k_1) + V 1000000000 ((mag b).take k_1)) ∧ (((mag a).length : Int) - ((k + 1 : Nat) : Int)).toNat < (((mag a).length : Int) - (k : Int)).toNat :=
   fun x c' hx hc he => ⟨⟨k + 1, by omega, rfl, hc.1, hc.2, by simp; omega, afE h6 (anK hx.1 hx.2), key x c' hx he⟩, by omega⟩
  rcases zr k (mag b).length with hkb | hkb
  ·rcases zS ((mag a).getD k 0 + c + (mag b).getD k 0) 1000000000 with hc | hc
   ·obtain ⟨g1, g2⟩ := fin ((mag a).getD k 0 + c + (mag b).getD k 0) 0 zc zc zc
    refine ⟨(((k + 1 : Nat) : Int), 0, s ++ [(mag a).getD k 0 + c + (mag b).getD k 0], ()), ?_, g1, g2, trivial⟩
    repeat refine za ?_
    simp (disch := omega) only [aaH, aaA, aaO, aaZ, abJ, aaM, zv, zp, aaB, zt]
    rfl
   ·obtain ⟨g1, g2⟩ := fin ((mag a).getD k 0 + c + (mag b).getD k 0 - 1000000000) 1 zc zc zc
    refine ⟨(((k + 1 : Nat) : Int), 1, s ++ [(mag a).getD k 0 + c + (mag b).getD k 0 - 1000000000], ()), ?_, g1, g2, trivial⟩
    repeat refine za ?_
    simp (disch := omega) only [aaH, aaA, aaO, aaZ, abJ, aaM, zv, zp, aaB, zt]
    rfl
  ·have hz : (mag b).getD k 0 = 0 := ahA hkb 0
   rcases zS ((mag a).getD k 0 + c) 1000000000 with hc | hc
   ·obtain ⟨g1, g2⟩ := fin ((mag a).getD k 0 + c) 0 zc zc zc
    refine ⟨(((k + 1 : Nat) : Int), 0, s ++ [(mag a).getD k 0 + c], ()), ?_, g1, g2, trivial⟩
    repeat refine za ?_
    simp (disch := omega) only [aaH, aaA, aaO, aaZ, abJ, aaM, zv, zp, aaB, zt]
    rfl
   ·obtain ⟨g1, g2⟩ := fin ((mag a).getD k 0 + c - 1000000000) 1 zc zc zc
    refine ⟨(((k + 1 : Nat) : Int), 1, s ++ [(mag a).getD k 0 + c - 1000000000], ()), ?_, g1, g2, trivial⟩
    repeat refine za ?_
    simp (disch := omega) only [aaH, aaA, aaO, aaZ, abJ, aaM, zv, zp, aaB, zt]
    rfl
 ·right
  have hkk : k = (mag a).length := zc
  rw [hkk, abE _ (zq _), abE _ hl, hVa, hVb] at h7
  rcases zS 0 c with hc | hc
  ·have hc1 : c = 1 := zc
   subst hc1
   repeat refine za ?_
   simp (disch := omega) only [aaH, aaA, aaO, aaZ, abJ, aaM, zv, zp, aaB, zt]
   rw [zu zi]
   rw [apC (l := s ++ [1]) (n := a + b) (afE h6 (anK zc zc)) (by simp [Cn]) (by rw [aeB, aCa, h5, hkk]; omega)]
  ·have hc1 : c = 0 := zc
   subst hc1
   repeat refine za ?_
   simp (disch := omega) only [aaH, aaA, aaO, aaZ, abJ, aaM, zv, zp, aaB, zt]
   rw [apC (l := s) (n := a + b) h6 (aHG zc h6 ?_) zc]
   rcases zF a with ha | ha
   ·left
    subst ha
    rw [mag_zero] at hkk
    exact zW.1 (by rw [h5, hkk]; rfl)
   ·right
    have := avE (B := 1000000000) zc (n := a) zc
    have h8 : (1000000000 : Int) ^ ((mag a).length - 1) ≤ a := by
     have : ((1000000000 ^ ((mag a).length - 1) : Nat) : Int) ≤ (a : Int) := wD.2 this
     simpa using this
    rw [h5, hkk]
    omega
theorem av5 (m o : List Int) (y) (h : al5 (m, o, ()) = some y) : (apF m o).toO = some y := by
 obtain ⟨⟨a, b⟩, hn, hx, rfl⟩ := aaE h
 obtain ⟨rfl, hx2⟩ := Prod.mk.inj hx; obtain ⟨rfl, -⟩ := Prod.mk.inj hx2; dsimp only
 obtain ⟨l1, l2⟩ := hn
 simp only at l1 l2
 unfold apF
 rcases zr (mag a).length (mag b).length with hl | hl
 ·refine uL (mag b, mag a, ()) ?_ ?_
  ·repeat refine za ?_
   rfl
  ·rw [xd]
   exact anC _ _ b a l2 zc
 ·refine uL (mag a, mag b, ()) ?_ ?_
  ·repeat refine za ?_
   rfl
  ·exact anC _ _ a b l1 hl
theorem auR {l : List Int} (h : Dg 1000000000 l) (hl : l.length ≤ 2000000000000) {n : Nat} (hv : V 1000000000 l = n) : acD (l, ()) = some (mag n, ()) := by
 unfold acD
 rw [if_pos ⟨h, hl⟩]
 simp only [hv, zp]
theorem as8 (m o : List Int) (y) (h : ajH (m, o, ()) = some y) : (amN m o).toO = some y := by
 obtain ⟨⟨a, b⟩, hn, hx, rfl⟩ := aaE h
 obtain ⟨rfl, hx2⟩ := Prod.mk.inj hx; obtain ⟨rfl, -⟩ := Prod.mk.inj hx2; dsimp only
 obtain ⟨la, hba⟩ := hn
 simp only at la hba
 have hda := agM a
 have hdb := agM b
 have hVa := al0 a
 have hVb := al0 b
 have hl := abP hba
 unfold amN
 refine uN sn ?_
 refine uO (0, 0, List.replicate (mag a).length 0, ()) ?_ ?_
 ·repeat refine za ?_
  simp (disch := omega) only [aaH, aaA, aaO, aaZ, abJ, aaM, zv, zp, aaB, zt]
 refine aaL (fun i => ∃ k : Nat, k ≤ (mag a).length ∧ i.1 = (k : Int) ∧ 0 ≤ i.2.1 ∧ i.2.1 ≤ 1 ∧ i.2.2.1.length = (mag a).length ∧ Dg 1000000000 i.2.2.1 ∧ V 1000000000 (i.2.2.1.take k) = V 1000000000 ((mag a).take k) - V 1000000000 ((mag b).take k) + 1000000000 ^ k * i.2.1) (fun i => (((mag a).length : Int) - i.1).toNat) (fun _ => (mag (a - b), ())) ?_ _ ⟨0, ye _, rfl, by simp, by simp, by simp, af5 zc _, by simp [V]⟩
 rintro ⟨i, c, s, u⟩ ⟨k, h1, h2, h3, h4, h5, h6, h7⟩
 simp only at h2 h3 h4 h5 h6 h7
 subst h2
 simp only [av6, aaM]
 have ea := aa5 1000000000 (mag a) k
 have eb := aa5 1000000000 (mag b) k
 have da := aa2 zc hda k
 have db := aa2 zc hdb k
 rcases zr k (mag a).length with hk | hk
 ·left
  have fin : ∀ x c' : Int, 0 ≤ x ∧ x < 1000000000 → 0 ≤ c' ∧ c' ≤ 1 → x = (mag a).getD k 0 - (mag b).getD k 0 - c + 1000000000 * c' → (∃ k_1 : Nat, k_1 ≤ (mag a).length ∧ ((k + 1 : Nat) : Int) = (k_1 : Int) ∧ 0 ≤ c' ∧ c' ≤ 1 ∧ (s.set k x).length = (mag a).length ∧ Dg 1000000000 (s.set k x) ∧ V 1000000000 ((s.set k x).take k_1) = V 1000000000 ((mag a).take k_1) - V 1000000000 ((mag b).take k_1) + 1000000000 ^ k_1 * c') ∧ (((mag a).length : Int) - ((k + 1 : Nat) : Int)).toNat < (((mag a).length : Int) - (k : Int)).toNat := by
   intro x c' hx hc he
   refine ⟨⟨k + 1, by omega, rfl, hc.1, hc.2, by simp; omega, aiB h6 hx _, ?_⟩, by omega⟩
   rw [aJE _ zc, h7, ea, eb, zZ, he]
   grind
  rcases zr k (mag b).length with hkb | hkb
  ·rcases zS ((mag a).getD k 0) (c + (mag b).getD k 0) with hc | hc
   ·obtain ⟨g1, g2⟩ := fin ((mag a).getD k 0 + 1000000000 - (c + (mag b).getD k 0)) 1 zc zc zc
    refine ⟨(((k + 1 : Nat) : Int), 1, s.set k ((mag a).getD k 0 + 1000000000 - (c + (mag b).getD k 0)), ()), ?_, g1, g2, trivial⟩
    repeat refine za ?_
    simp (disch := omega) only [aaH, aaA, aaO, aaZ, abJ, aaM, zv, zp, aaB, zt]
    rfl
   ·obtain ⟨g1, g2⟩ := fin ((mag a).getD k 0 - (c + (mag b).getD k 0)) 0 zc zc zc
    refine ⟨(((k + 1 : Nat) : Int), 0, s.set k ((mag a).getD k 0 - (c + (mag b).getD k 0)), ()), ?_, g1, g2, trivial⟩
    repeat refine za ?_
    simp (disch := omega) only [aaH, aaA, aaO, aaZ, abJ, aaM, zv, zp, aaB, zt]
    rfl
  ·have hz : (mag b).getD k 0 = 0 := ahA hkb 0
   rcases zS ((mag a).getD k 0) c with hc | hc
   ·obtain ⟨g1, g2⟩ := fin ((mag a).getD k 0 + 1000000000 - c) 1 zc zc zc
    refine ⟨(((k + 1 : Nat) : Int), 1, s.set k ((mag a).getD k 0 + 1000000000 - c), ()), ?_, g1, g2, trivial⟩
    repeat refine za ?_
    simp (disch := omega) only [aaH, aaA, aaO, aaZ, abJ, aaM, zv, zp, aaB, zt]
    rfl
   ·obtain ⟨g1, g2⟩ := fin ((mag a).getD k 0 - c) 0 zc zc zc
    refine ⟨(((k + 1 : Nat) : Int), 0, s.set k ((mag a).getD k 0 - c), ()), ?_, g1, g2, trivial⟩
    repeat refine za ?_
    simp (disch := omega) only [aaH, aaA, aaO, aaZ, abJ, aaM, zv, zp, aaB, zt]
    rfl
 ·right
  have hkk : k = (mag a).length := zc
  rw [hkk, abE _ zc, abE _ (zq _), abE _ hl, hVa, hVb] at h7
  have hlt := aJF zc h6
  rw [h5] at hlt
  have hc : c = 0 := by
   rcases zS 0 c with hc | hc
   ·have hc1 : c = 1 := zc
    subst hc1
    omega
   ·omega
  subst hc
  refine uF sd ?_
  refine uC (mag (a - b), ()) ?_ ?_
  ·rw [zu (by simp [len]; omega)]
   exact auR h6 zc zc
  ·rfl
theorem aLn {a b B : Int} (ha : 0 ≤ a ∧ a < B) (hb : 0 ≤ b ∧ b < B) : 0 ≤ a * b ∧ a * b ≤ (B - 1) * (B - 1) := by
 refine ⟨yg ha.1 hb.1, ?_⟩
 have h1 : a * b ≤ a * (B - 1) := zC zc ha.1
 have h2 : a * (B - 1) ≤ (B - 1) * (B - 1) := zD zc zc
 omega
theorem aMV (Vs P c A K x T X Y d e Q B : Int) (h : Vs + P * c = A + K * (x * T)) (h2 : X + B * Y = c + (d + x * e)) (hP : P = K * Q) : Vs + P * (X - d) + P * B * Y = A + K * (x * (T + Q * e)) := by
 subst hP
 have h3 : K * Q * (X + B * Y) = K * Q * (c + (d + x * e)) := by rw [h2]
 grind
theorem as6 (m o : List Int) (y) (h : ab9 (m, o, ()) = some y) : (amL m o).toO = some y := by
 obtain ⟨⟨a, b⟩, hn, hx, rfl⟩ := aaE h
 obtain ⟨rfl, hx2⟩ := Prod.mk.inj hx; obtain ⟨rfl, -⟩ := Prod.mk.inj hx2; dsimp only
 obtain ⟨la, lb⟩ := hn
 simp only at la lb
 have hda := agM a
 have hdb := agM b
 have hVa := al0 a
 have hVb := al0 b
 have hw : w64 (len (mag a) + len (mag b)) = (((mag a).length + (mag b).length : Nat) : Int) := by
  simp only [aaB]; rw [aaA (x := ((mag a).length : Int) + (mag b).length) zc]; omega
 unfold amL
 simp only [hw]
 refine uN zc ?_
 refine uO (0, List.replicate ((mag a).length + (mag b).length) 0, ()) ?_ ?_
 ·repeat refine za ?_
  simp (disch := omega) only [aaH, aaA, aaO, aaZ, abJ, aaM, zv, zp, aaB, zt]
 have hBb : V 1000000000 (mag b) < 1000000000 ^ (mag b).length := aJF zc hdb
 refine aaL (fun i => ∃ k : Nat, k ≤ (mag a).length ∧ i.1 = (k : Int) ∧ i.2.1.length = (mag a).length + (mag b).length ∧ Dg 1000000000 i.2.1 ∧ V 1000000000 i.2.1 = V 1000000000 ((mag a).take k) * b) (fun i => (((mag a).length : Int) - i.1).toNat) (fun _ => (mag (a * b), ())) ?_ _ ⟨0, ye _, rfl, by simp, af5 zc _, by simp [V, asB]⟩
 rintro ⟨i, s, u⟩ ⟨k, h1, h2, h3, h4, h5⟩
 simp only at h2 h3 h4 h5
 subst h2
 simp only [av3, aaM, hw]
 have ea := aa5 1000000000 (mag a) k
 have da := aa2 zc hda k
 rcases zr k (mag a).length with hk | hk
 ·left
  have hs : V 1000000000 s < 1000000000 ^ (k + (mag b).length) := by
   rw [h5, we]
   have e1 := ac5 zc hda k
   have e2 := aaS zc (ab4 hda k)
   rw [hVb] at hBb
   have e3 : V 1000000000 ((mag a).take k) * b ≤ V 1000000000 ((mag a).take k) * 1000000000 ^ (mag b).length := zC zc e2
   have e4 : V 1000000000 ((mag a).take k) * 1000000000 ^ (mag b).length < 1000000000 ^ k * 1000000000 ^ (mag b).length := Int.mul_lt_mul_of_pos_right e1 (yE zc)
   omega
  have hz := alM zc h4 hs
  -- the inner loop
  obtain ⟨r, hin, s', rfl, q1, q2, q3⟩ : ∃ r : ((Int × List Int × Unit) ⊕ (List Int × Unit)), acW (fun i1 => (an7 (mag a) (mag b) ((k : Int), s, ()) i1).toO) (0, 0, s, ()) = some r ∧ ∃ s', r = Sum.inl (((k + 1 : Nat) : Int), s', ()) ∧ s'.length = (mag a).length + (mag b).length ∧ Dg 1000000000 s' ∧ V 1000000000 s' = V 1000000000 ((mag a).take (k + 1)) * b := by
   refine acM (fun j => ∃ q : Nat, q ≤ (mag b).length ∧ j.1 = (q : Int) ∧ 0 ≤ j.2.1 ∧ j.2.1 < 1000000000 ∧ j.2.2.1.length = (mag a).length + (mag b).length ∧ Dg 1000000000 j.2.2.1 ∧ (∀ t, k + (mag b).length ≤ t → j.2.2.1.getD t 0 = 0) ∧ V 1000000000 j.2.2.1 + 1000000000 ^ (k + q) * j.2.1 = V 1000000000 ((mag a).take k) * b + 1000000000 ^ k * ((mag a).getD k 0 * V 1000000000 ((mag b).take q))) (fun j => (((mag b).length : Int) - j.1).toNat) _ ?_ _ ⟨0, ye _, rfl, by simp, by simp, h3, h4, hz, by simp [V, h5]⟩
   rintro ⟨j, c, s1, u1⟩ ⟨q, g1, g2, g3, g4, g5, g6, g7, g8⟩
   simp only at g2 g3 g4 g5 g6 g7 g8
   subst g2
   have hkq : w64 ((k : Int) + q) = ((k + q : Nat) : Int) := by rw [aaA (x := (k : Int) + q) zc]; omega
   have hkl : w64 ((k : Int) + len (mag b)) = ((k + (mag b).length : Nat) : Int) := by rw [aaB, aaA (x := (k : Int) + ((mag b).length : Int)) zc]; omega
   simp only [an7, aaM, hw, hkq, hkl, zp, zv]
   have eb := aa5 1000000000 (mag b) q
   have db := aa2 zc hdb q
   have ds := aa2 zc g6 (k + q)
   have hm := aLn da db
   rcases zr q (mag b).length with hq | hq
   ·left
    have hsum : 0 ≤ c + (s1.getD (k + q) 0 + (mag a).getD k 0 * (mag b).getD q 0) := zc
    have e1 := yi (c + (s1.getD (k + q) 0 + (mag a).getD k 0 * (mag b).getD q 0)) 1000000000
    have e2 : 0 ≤ (c + (s1.getD (k + q) 0 + (mag a).getD k 0 * (mag b).getD q 0)) % 1000000000 ∧ (c + (s1.getD (k + q) 0 + (mag a).getD k 0 * (mag b).getD q 0)) % 1000000000 < 1000000000 := zc
    have e3 : 0 ≤ (c + (s1.getD (k + q) 0 + (mag a).getD k 0 * (mag b).getD q 0)) / 1000000000 ∧ (c + (s1.getD (k + q) 0 + (mag a).getD k 0 * (mag b).getD q 0)) / 1000000000 < 1000000000 := zc
    refine ⟨(((q + 1 : Nat) : Int), (c + (s1.getD (k + q) 0 + (mag a).getD k 0 * (mag b).getD q 0)) / 1000000000, s1.set (k + q) ((c + (s1.getD (k + q) 0 + (mag a).getD k 0 * (mag b).getD q 0)) % 1000000000), ()), ?_, ⟨q + 1, by omega, rfl, e3.1, e3.2, by simp; omega, aiB g6 e2 _, ?_, ?_⟩, by simp only; omega⟩
    ·repeat refine za ?_
     simp (disch := omega) only [aaH, aaA, aaO, aaZ, abJ, aaM, zv, zp, aaB, zt]
     rw [zE hsum, zL hsum]
     simp (disch := omega) only [aaH, aaA, aaO, aaZ, abJ, aaM, zv, zp, aaB, zt]
     rfl
    ·intro t ht
     rw [an5 _ zc]; exact g7 t ht
    ·simp only
     rw [axG _ zc, eb, show k + (q + 1) = k + q + 1 by omega, zZ]
     exact aMV _ _ _ _ _ _ _ _ _ _ _ _ _ g8 e1 (we _ _ _)
   ·right
    have hqq : q = (mag b).length := zc
    subst hqq
    rw [abE _ (zq _), hVb] at g8
    refine ⟨.inl (((k + 1 : Nat) : Int), s1.set (k + (mag b).length) c, ()), ?_, _, rfl, by simp; omega, aiB g6 ⟨g3, g4⟩ _, ?_⟩
    ·repeat refine za ?_
     simp (disch := omega) only [aaH, aaA, aaO, aaZ, abJ, aaM, zv, zp, aaB, zt]
     rfl
    ·rw [axG _ zc, g7 _ zc, ea, wR]
     simp only [wE]
     rw [g8]
     grind
  refine ⟨(((k + 1 : Nat) : Int), s', ()), ?_, ⟨k + 1, by omega, rfl, q1, q2, q3⟩, by simp only; omega, trivial⟩
  refine uT sd ?_
  refine uN sd ?_
  refine uO (0, 0, s, ()) ?_ ?_
  ·repeat refine za ?_
   rfl
  ·exact hin
 ·right
  have hkk : k = (mag a).length := zc
  rw [hkk, abE _ (zq _), hVa] at h5
  refine uF sd ?_
  refine uC (mag (a * b), ()) ?_ ?_
  ·rw [zu zh]
   exact auR h4 zc (by rw [h5]; simp)
  ·rfl
theorem aMW (Vm Vq P d R m X Y B W : Int) (h : Vm = Vq * d + R) (h2 : Y + d * X = R * B + m) (hW : W = m + B * Vm) (hP : P = X + B * Vq) : W = P * d + Y := by
 subst hW hP h
 grind
theorem as7 (m : List Int) (d : Int) (y) (h : ajG (m, d, ()) = some y) : (amM m d).toO = some y := by
 obtain ⟨⟨a, e⟩, hn, hx, rfl⟩ := aaE h
 obtain ⟨rfl, hx2⟩ := Prod.mk.inj hx; obtain ⟨rfl, -⟩ := Prod.mk.inj hx2; dsimp only
 obtain ⟨la, he, he2⟩ := hn
 simp only at la he he2
 have hda := agM a
 have hVa := al0 a
 unfold amM
 refine uN sn ?_
 have hd : abN (e : Int) = e := aaO zc
 refine uO (((mag a).length : Int) - 1, 0, List.replicate (mag a).length 0, ()) ?_ ?_
 ·repeat refine za ?_
  simp only [aaB]
  rw [aaA (x := ((mag a).length : Int) - 1) zc]
  rfl
 refine aaL (fun i : Int × Int × List Int × Unit => ∃ k : Nat, k ≤ (mag a).length ∧ i.1 = (k : Int) - 1 ∧ 0 ≤ i.2.1 ∧ i.2.1 < e ∧ i.2.2.1.length = (mag a).length ∧ Dg 1000000000 i.2.2.1 ∧ V 1000000000 ((mag a).drop k) = V 1000000000 (i.2.2.1.drop k) * e + i.2.1) (fun i => (i.1 + 1).toNat) (fun _ => (mag (a / e), ((a % e : Nat) : Int), ())) ?_ _ ⟨_, zq _, rfl, by simp, by simp; omega, by simp, af5 zc _, by rw [acT _ (zq _), acT _ zi]; simp⟩
 rintro ⟨i, r, q, u⟩ ⟨k, h1, h2, h3, h4, h5, h6, h7⟩
 simp only at h2 h3 h4 h5 h6 h7
 subst h2
 rcases zF k with h0 | h0
 ·subst h0
  right
  simp only [yM, hVa] at h7
  obtain ⟨v, hv⟩ := zw (aaS zc h6)
  obtain ⟨r', rfl⟩ := zw h3
  rw [hv] at h7
  have h8 : a = v * e + r' := by
   have : (a : Int) = ((v * e + r' : Nat) : Int) := by simpa using h7
   exact Int.ofNat.inj this
  have h9 : a / e = v := by rw [h8, xd, wF _ _ he, xb zc, zv]
  have h10 : a % e = r' := by rw [h8, xd, xV, yB zc]
  simp only [an8]
  refine uF sd ?_
  refine uC (mag v, ()) ?_ ?_
  ·rw [zu (by simp [len]; omega)]
   exact auR h6 zc hv
  ·simp (disch := omega) only [aaH, aaA, aaO, aaZ, abJ, aaM, zv, zp, aaB, zt]
   rw [h9, h10]
 ·left
  obtain ⟨j, rfl⟩ : ∃ j, k = j + 1 := ⟨k - 1, by omega⟩
  have e6 : ((j + 1 : Nat) : Int) - 1 = (j : Int) := zc
  rw [e6]
  simp only [an8, aaM, hd]
  have e1 := aaU 1000000000 (mag a) j
  have e2 := aa2 zc hda j
  have g1 : 0 ≤ r * 1000000000 + (mag a).getD j 0 := zc
  have g0 : (0 : Int) < e := zc
  have g2 := yi (r * 1000000000 + (mag a).getD j 0) e
  have g3 := yN (r * 1000000000 + (mag a).getD j 0) (show (e : Int) ≠ 0 by omega)
  have g4 := yz (r * 1000000000 + (mag a).getD j 0) g0
  have g5 : 0 ≤ (r * 1000000000 + (mag a).getD j 0) / e := xz g1 zc
  have g6 : (r * 1000000000 + (mag a).getD j 0) / e < 1000000000 := by
   refine Int.ediv_lt_of_lt_mul g0 ?_
   have : (r + 1) * 1000000000 ≤ e * 1000000000 := zD zc zc
   omega
  have hw1 : abN (abN (r * 1000000000) + abN ((mag a).getD j 0)) = r * 1000000000 + (mag a).getD j 0 := by
   rw [aaO (x := r * 1000000000) zc, aaO (x := (mag a).getD j 0) zc, aaO zc]
  simp only [hw1]
  refine ⟨((j : Int) - 1, (r * 1000000000 + (mag a).getD j 0) % e, q.set j ((r * 1000000000 + (mag a).getD j 0) / e), ()), ?_, ⟨j, by omega, rfl, g3, g4, by simp; omega, aiB h6 ⟨g5, g6⟩ _, ?_⟩, by simp only; omega, trivial⟩
  ·repeat refine za ?_
   rw [zE g1, zL g1]
   rw [aaO (x := (r * 1000000000 + (mag a).getD j 0) / e) zc, aaZ (x := (r * 1000000000 + (mag a).getD j 0) / e) zc]
   simp (disch := omega) only [aaH, aaA, aaO, aaZ, abJ, aaM, zv, zp, aaB, zt]
  ·simp only
   refine aMW _ _ _ _ _ _ _ _ 1000000000 _ h7 g2 e1 ?_
   rw [aaU 1000000000 (q.set j _) j, an6 zc, ahD _ zc]
theorem alO (v : Int) (y) (h : abM (v, ()) = some y) : (aj6 v).toO = some y := by
 unfold abM at h
 split at h
 ·rename_i hp
  obtain ⟨h0, h1⟩ := hp
  simp only at h0 h1
  injection h with h
  subst h
  obtain ⟨n, rfl⟩ := zw h0
  simp only [zp]
  refine uO (true, [], (n : Int), ()) rfl ?_
  refine aaL (fun i => ∃ w : Nat, i.2.2.1 = (w : Int) ∧ w ≤ n ∧ Dg 1000000000 i.2.1 ∧ V 1000000000 i.2.1 + 1000000000 ^ i.2.1.length * w = n ∧ (i.1 = true → i.2.1 = []) ∧ (w = 0 → Cn i.2.1) ∧ (i.2.1.length ≤ 3) ∧ (w ≠ 0 → w < 1000000000 ^ (3 - i.2.1.length))) (fun i => i.2.2.1.toNat) (fun _ => (mag n, ())) ?_ _ ⟨n, rfl, zq _, ax2 _, by simp [V], fun _ => rfl, fun _ => atP, by simp, fun _ => by simp; omega⟩
  rintro ⟨f, l, w', u⟩ ⟨w, g1, g2, g3, g4, g5, g6, g7, g8⟩
  simp only at g1 g3 g4 g5 g6 g7 g8
  subst g1
  rcases zF w with hw | hw
  ·subst hw
   right
   have : l = mag n := apC g3 (g6 rfl) zc
   cases f
   ·unfold ad7
    repeat refine za ?_
    simp (disch := omega) only [aaH, aaA, aaO, aaZ, abJ, aaM, zv, zp, aaB, zt]
    rw [this]
   ·unfold ad7
    repeat refine za ?_
    simp (disch := omega) only [aaH, aaA, aaO, aaZ, abJ, aaM, zv, zp, aaB, zt]
    rw [← this, g5 rfl]
  ·left
   have hl : l.length ≤ 2 := by
    rcases zr 2 l.length with h | h
    ·have h3 : l.length = 3 := zc
     have := g8 zc
     rw [h3] at this
     simp at this
     omega
    ·exact h
   have e1 : ((w % 1000000000 : Nat) : Int) + 1000000000 * ((w / 1000000000 : Nat) : Int) = w := zc
   refine ⟨(false, l ++ [((w % 1000000000 : Nat) : Int)], ((w / 1000000000 : Nat) : Int), ()), ?_, ⟨w / 1000000000, rfl, by omega, afE g3 (anK zc zc), ?_, by simp, ?_, by simp; omega, ?_⟩, by simp only; omega, ze⟩
   ·have t1 : Int.tmod (w : Int) 1000000000 = ((w % 1000000000 : Nat) : Int) := by rw [zE zc]; omega
    have t2 : Int.tdiv (w : Int) 1000000000 = ((w / 1000000000 : Nat) : Int) := by rw [zL zc]; omega
    cases f
    ·simp only [ad7, t1, t2]
     repeat refine za ?_
     simp (disch := omega) only [aaH, aaA, aaO, aaZ, abJ, aaM, zv, zp, aaB, zt]
    ·simp only [ad7, t1, t2]
     repeat refine za ?_
     rw [g5 rfl]
     simp (disch := omega) only [aaH, aaA, aaO, aaZ, abJ, aaM, zv, zp, aaB, zt]
     rfl
   ·simp only
    rw [aeB, aCa, zJ, yu, zZ, ← g4]
    have : (1000000000 : Int) ^ l.length * (((w % 1000000000 : Nat) : Int) + 1000000000 * ((w / 1000000000 : Nat) : Int)) = 1000000000 ^ l.length * w := by rw [e1]
    grind
   ·intro hz
    unfold Cn
    simp
    omega
   ·intro hz
    simp only [zJ, yu]
    have := g8 zc
    rw [yK zc]
    have h9 : 1000000000 ^ (3 - l.length) = 1000000000 ^ (3 - (l.length + 1)) * 1000000000 := by
     rw [← yA]; congr 1; omega
    omega
 ·cases h
theorem aFw {n : Nat} (h : n ≠ 0) : ∃ t : Nat, (mag n).getD ((mag n).length - 1) 0 = (t : Int) ∧ 1 ≤ t ∧ t < 1000000000 ∧ 1000000000 ^ ((mag n).length - 1) * t ≤ n ∧ n < 1000000000 ^ ((mag n).length - 1) * (t + 1) := by
 have hd := agM n
 have hV := al0 n
 have hl : 1 ≤ (mag n).length := by
  rcases zF (mag n).length with h0 | h0
  ·exact absurd (mag_nil_iff.1 (zW.1 h0)) h
  ·exact h0
 have e1 := ab5 1000000000 (mag n) ((mag n).length - 1)
 have e2 := aaU 1000000000 (mag n) ((mag n).length - 1)
 rw [acT (k := (mag n).length - 1 + 1) _ zc] at e2
 have e3 := ac5 zc hd ((mag n).length - 1)
 have e4 := aaS zc (ab4 hd ((mag n).length - 1))
 have e5 := aa2 zc hd ((mag n).length - 1)
 obtain ⟨t, ht⟩ := zw e5.1
 have h1 : 1 ≤ t := by
  rcases zF t with h0 | h0
  ·have hc := aQY n
   unfold Cn at hc
   rw [yQ, zR zc] at hc
   rw [aiH zc, h0] at ht
   rw [ht] at hc
   exact absurd rfl hc
  ·exact h0
 have hp : (1000000000 : Int) ^ ((mag n).length - 1) = ((1000000000 ^ ((mag n).length - 1) : Nat) : Int) := zi
 rw [hV, e2, ht, hp] at e1
 rw [hp] at e3
 refine ⟨t, ht, h1, by omega, ?_, ?_⟩
 ·have : ((1000000000 ^ ((mag n).length - 1) * t : Nat) : Int) ≤ n := by
   rw [yx]
   simp only [wi, vB] at e1
   omega
  exact wD.1 this
 ·have : (n : Int) < ((1000000000 ^ ((mag n).length - 1) * (t + 1) : Nat) : Int) := by
   rw [yx]
   simp only [wi, vB] at e1
   rw [wY, xZ]
   omega
  exact Int.ofNat_lt.1 this
theorem awJ {n t L : Nat} (h1 : 1 ≤ t) (h3 : 1000000000 ^ L * t ≤ n) (h4 : n < 1000000000 ^ L * (t + 1)) : (aa3 n).length = L * 9 + (aa3 t).length := by
 have a1 := afJ t
 have a2 := aFc (n := t) zc
 have a3 := alR t
 have e : (1000000000 : Nat) ^ L = 10 ^ (L * 9) := by rw [show 1000000000 = 10 ^ 9 by decide, ← xI, yJ]
 rw [e] at h3 h4
 obtain ⟨q, hq⟩ : ∃ q, (aa3 t).length = q + 1 := ⟨(aa3 t).length - 1, by omega⟩
 rw [hq] at a1 a2 ⊢
 have h5 : 10 ^ (L * 9 + q) ≤ n := by
  rw [xw]
  have := yw (10 ^ (L * 9)) a2
  simp at this
  omega
 have h6 : n < 10 ^ (L * 9 + q + 1) := by
  rw [show L * 9 + q + 1 = L * 9 + (q + 1) by omega, xw]
  have : 10 ^ (L * 9) * (t + 1) ≤ 10 ^ (L * 9) * 10 ^ (q + 1) := yw _ zc
  omega
 rw [anG h5 h6]
 omega
theorem apG (m : List Int) (y) (h : ahJ (m, ()) = some y) : (aj1 m).toO = some y := by
 obtain ⟨n, hn, hx, rfl⟩ := aaE h
 obtain ⟨rfl, -⟩ := Prod.mk.inj hx
 unfold aj1
 refine uC (len (mag n) == 0, ()) rfl ?_
 by_cases h0 : n = 0
 ·subst h0
  refine uT (by simp [mag_zero, len]) ?_
  simp [aaH, abK]
 ·obtain ⟨t, ht, h1, h2, h3, h4⟩ := aFw h0
  have hl : 1 ≤ (mag n).length := by
   rcases zF (mag n).length with h5 | h5
   ·exact absurd (mag_nil_iff.1 (zW.1 h5)) h0
   ·exact h5
  have hw : w64 (len (mag n) - 1) = (((mag n).length - 1 : Nat) : Int) := by rw [aaB, aaA (x := ((mag n).length : Int) - 1) zc]; omega
  refine uF sd ?_
  simp only [hw, aaM, ht]
  refine uN sd ?_
  have hdl : (aa3 t).length ≤ 9 := (acQ zc).2 zc
  refine uC (aa3 t, ()) ?_ ?_
  ·rw [aaA (x := (t : Int)) zc]
   unfold aAw
   rw [if_pos zm]
   simp only [ae0]
  ·rw [awJ h1 h3 h4]
   simp only [aaH, aaB]
   rw [aaA (x := ((((mag n).length - 1 : Nat)) : Int) * 9) zc, aaA zc]
   simp
theorem aIX (m o : List Int) (y) (h : agT (m, o, ()) = some y) : (aBu m o).toO = some y := by
 obtain ⟨⟨a, b⟩, hn, hx, rfl⟩ := aaE h
 obtain ⟨rfl, hx2⟩ := Prod.mk.inj hx; obtain ⟨rfl, -⟩ := Prod.mk.inj hx2; dsimp only
 obtain ⟨la, lb⟩ := hn
 simp only at la lb
 unfold aBu
 refine uO (mag a, mag b, ()) rfl ?_
 refine aaL (fun i : List Int × List Int × Unit => ∃ p q : Nat, i = (mag p, mag q, ()) ∧ (mag p).length ≤ 100000000000 ∧ (mag q).length ≤ 100000000000 ∧ Nat.gcd p q = Nat.gcd a b) (fun i => (V 1000000000 i.2.1).toNat) (fun _ => (mag (Nat.gcd a b), ())) ?_ _ ⟨a, b, rfl, la, lb, rfl⟩
 rintro i ⟨p, q, rfl, lp, lq, hg⟩
 simp only [aDK]
 by_cases hq : q = 0
 ·right
  subst hq
  refine uC (len (mag 0) == 0, ()) rfl ?_
  refine uF (by simp [mag_zero, len]) ?_
  rw [← hg]
  simp [aaH]
 ·have hql : 1 ≤ (mag q).length := by
   rcases zF (mag q).length with h5 | h5
   ·exact absurd (mag_nil_iff.1 (zW.1 h5)) hq
   ·exact h5
  by_cases hs : (mag p).length ≤ 2 ∧ (mag q).length ≤ 2
  ·right
   have bp : p < 1000000000000000000 := by have := mag_length_le_iff.1 hs.1; omega
   have bq : q < 1000000000000000000 := by have := mag_length_le_iff.1 hs.2; omega
   refine uC (len (mag q) == 0, ()) rfl ?_
   refine uT (by simp [len]; intro h; simp [h] at hql) ?_
   refine uL (true, ()) ?_ ?_
   ·refine uT sd ?_
    repeat refine za ?_
    show some (Sum.inl (decide (len (mag q) ≤ 2), ())) = _
    rw [zo (show len (mag q) ≤ 2 by exact sn)]
   ·simp only [av7]
    refine uT rfl ?_
    refine uC ((p : Int), ()) (aaK (enc := fun n : Nat => (mag n, ())) p bp (fun b hb => adK (Prod.mk.inj hb).1)) ?_
    refine uC ((q : Int), ()) (aaK (enc := fun n : Nat => (mag n, ())) q bq (fun b hb => adK (Prod.mk.inj hb).1)) ?_
    refine uO ((q : Int), (p : Int), ()) rfl ?_
    refine aaL (fun i : Int × Int × Unit => ∃ r s : Nat, i = ((r : Int), (s : Int), ()) ∧ s < 1000000000000000000 ∧ r < 1000000000000000000 ∧ Nat.gcd s r = Nat.gcd a b) (fun i => i.1.toNat) (fun _ => (Sum.inr (mag (Nat.gcd a b), ()) : (List Int × List Int × Unit) ⊕ (List Int × Unit))) ?_ _ ⟨q, p, rfl, bp, bq, hg⟩
    rintro i ⟨r, s, rfl, h1, h2, h3⟩
    simp only [aDJ]
    rcases zF r with hr | hr
    ·subst hr
     right
     refine uF sd ?_
     refine uC (mag s, ()) ?_ ?_
     ·unfold abM
      rw [if_pos zm]
      simp
     ·rw [← h3]
      simp [aaH]
    ·left
     have hm := yU s hr
     refine ⟨(((s % r : Nat) : Int), (r : Int), ()), ?_, ⟨s % r, r, rfl, by omega, by omega, ?_⟩, by simp only; omega, ze⟩
     ·repeat refine za ?_
      rw [zE zc]
      rfl
     ·rw [← h3, xy s r, Nat.gcd_rec r s, xy]
  ·left
   refine ⟨(mag q, mag (p % q), ()), ?_, ⟨q, p % q, rfl, lq, ?_, ?_⟩, ?_, ze⟩
   ·refine uC (len (mag q) == 0, ()) rfl ?_
    refine uT (by simp [len]; intro h; simp [h] at hql) ?_
    refine uL (false, ()) ?_ ?_
    ·rcases zr 2 (mag p).length with h5 | h5
     ·repeat refine za ?_
      rfl
     ·repeat refine za ?_
      show some (Sum.inl (decide (len (mag q) ≤ 2), ())) = _
      rw [zn (show ¬ len (mag q) ≤ 2 by exact sn)]
    ·simp only [av7]
     refine uF rfl ?_
     refine uC (mag (p / q), mag (p % q), ()) (aaK (enc := fun p : Nat × Nat => (mag p.1, mag p.2, ())) (p, q) ⟨lp, lq, hq⟩ (fun b hb => adC hb)) ?_
     repeat refine za ?_
     rfl
   ·have := abP (vC (yU p (show 0 < q by omega))); omega
   ·rw [← hg, xy p q, Nat.gcd_rec q p, xy]
   ·simp only [al0, zp]
    exact yU p zc
theorem aHf {s : List UInt8} (h : isD s) (i : Nat) : isD (s.take i) := fun c hc => h c (xa hc)
theorem aBk {s : List UInt8} (h : isD s) (i : Nat) : isD (s.drop i) := fun c hc => h c (yZ hc)
theorem aNF {s : List UInt8} {a i : Nat} (h1 : a ≤ i) (h2 : i < s.length) : (s.take (i + 1)).drop a = (s.take i).drop a ++ [s[i]] := by
 rw [zO h2, List.drop_append_of_le_length zh]
theorem aEX {s : List UInt8} {a i : Nat} (h1 : a ≤ i) (h2 : i ≤ s.length) : ((s.take i).drop a).length = i - a := zh
theorem aPV {s : List UInt8} {a e : Nat} (h1 : a ≤ e) (h2 : e ≤ s.length) : num (s.take e) = num (s.take a) * 10 ^ (e - a) + num ((s.take e).drop a) := by
 conv => lhs; rw [← xq a (s.take e)]
 rw [amH, aEX h1 h2, xc, yH h1]
theorem aPX : num [] = 0 := rfl
theorem az6 {s : List UInt8} (hd : isD s) {a i e : Nat} (h1 : a ≤ i) (h2 : i < e) (h3 : e ≤ s.length) (h4 : e - a ≤ 9) : adT (adT ((num ((s.take i).drop a) : Int) * 10) + adT (wu8 (((s.getD i 0).toNat : Int) - 48))) = (num ((s.take (i + 1)).drop a) : Int) := by
 have hi : i < s.length := zc
 have e1 : s.getD i 0 = s[i] := by simp [hi]
 have e2 := hd s[i] (ym hi)
 have e3 := aLe (aBk (aHf hd i) a)
 rw [aEX h1 zc] at e3
 have e4 : (10 : Nat) ^ (i - a) ≤ 10 ^ 8 := yb zc zc
 have e5 : dv s[i] = s[i].toNat - 48 := rfl
 rw [aNF h1 hi, ao8, e1, e5]
 rw [abJ (x := (s[i].toNat : Int) - 48) zc, aaZ (x := (s[i].toNat : Int) - 48) zc, aaZ (x := (num ((s.take i).drop a) : Int) * 10) zc, aaZ zc]
 omega
theorem atC (digits : List UInt8) (y) (h : agX (digits, ()) = some y) : (arW digits).toO = some y := by
 unfold agX at h
 split at h
 case isFalse => cases h
 case isTrue hp =>
  obtain ⟨hd, hne, hl⟩ := hp
  simp only at hd hne hl
  injection h with h
  subst h
  generalize digits = s at *
  have hlen : 1 ≤ s.length := yd.2 hne
  refine uO ((s.length : Int), true, [], ()) rfl ?_
  refine aaL (fun i : Int × Bool × List Int × Unit => ∃ e : Nat, i.1 = (e : Int) ∧ 1 ≤ e ∧ e ≤ s.length ∧ Dg 1000000000 i.2.2.1 ∧ V 1000000000 i.2.2.1 + 1000000000 ^ i.2.2.1.length * num (s.take e) = num s ∧ i.2.2.1.length + e ≤ s.length ∧ (i.2.1 = true → i.2.2.1 = [])) (fun i => i.1.toNat) (fun _ => (mag (num s), ())) ?_ _ ⟨s.length, rfl, hlen, zq _, ax2 _, by simp [V], by simp, fun _ => rfl⟩
  rintro ⟨e', f, l, u⟩ ⟨e, g1, g2, g3, g4, g5, g6, g7⟩
  simp only at g1 g4 g5 g6 g7
  subst g1
  obtain ⟨a, ha, ha1, ha2, ha3⟩ : ∃ a : Nat, (if 0 > w64 ((e : Int) - 9) then 0 else w64 ((e : Int) - 9)) = (a : Int) ∧ a ≤ e ∧ e - a ≤ 9 ∧ (a = 0 ∨ a + 9 = e) := by
   rw [aaA (x := (e : Int) - 9) zc]
   rcases zr e 9 with h9 | h9
   ·exact ⟨0, by rw [if_pos zc]; rfl, by omega, by omega, Or.inl rfl⟩
   ·exact ⟨e - 9, by rw [if_neg zc]; omega, by omega, by omega, Or.inr zc⟩
  have hseg := aPV (s := s) ha1 g3
  have hv := aLe (aBk (aHf hd e) a)
  rw [aEX ha1 g3] at hv
  have hv9 : (10 : Nat) ^ (e - a) ≤ 10 ^ 9 := yb zc ha2
  generalize hX : num ((s.take e).drop a) = X at hseg hv
  have hD : Dg 1000000000 (l ++ [(X : Int)]) := afE g4 (anK zc zc)
  have hw9 : w64 ((e : Int) - 9) = (e : Int) - 9 := aaA zc
  have hV0 : a = 0 → V 1000000000 (l ++ [(X : Int)]) = num s := by
   intro h0
   subst h0
   rw [aeB, aCa, ← g5]
   rw [hseg]
   simp [aPX]
  have hV1 : a + 9 = e → V 1000000000 (l ++ [(X : Int)]) + 1000000000 ^ (l ++ [(X : Int)]).length * (num (s.take a) : Int) = num s := by
   intro h0
   rw [aeB, aCa, ← g5, hseg, show e - a = 9 by omega, zJ, yu, zZ]
   have : (((num (s.take a) * 10 ^ 9 + X : Nat)) : Int) = (num (s.take a) : Int) * 1000000000 + X := zi
   rw [this]
   grind
  cases f
  ·-- not the first group
   simp only [aoC, ha]
   have hin : acW (fun i1 => (aj4 s ((e : Int), false, l, ()) i1).toO) ((a : Int), 0, ()) = some (if a = 0 then Sum.inr (mag (num s), ()) else Sum.inl ((a : Int), false, l ++ [(X : Int)], ())) := by
    refine aaL (fun j : Int × Int × Unit => ∃ i : Nat, a ≤ i ∧ i ≤ e ∧ j = ((i : Int), (num ((s.take i).drop a) : Int), ())) (fun j => ((e : Int) - j.1).toNat) (fun _ => (if a = 0 then Sum.inr (mag (num s), ()) else Sum.inl ((a : Int), false, l ++ [(X : Int)], ()))) ?_ _ ⟨a, zq _, ha1, by rw [yD zh]; rfl⟩
    rintro j ⟨i, h1, h2, rfl⟩
    rcases zr i e with hi | hi
    ·left
     refine ⟨(((i + 1 : Nat) : Int), (num ((s.take (i + 1)).drop a) : Int), ()), ?_, ⟨i + 1, by omega, by omega, rfl⟩, by simp only; omega, ze⟩
     simp only [aj4, aaM, az6 hd h1 hi g3 ha2]
     repeat refine za ?_
     simp (disch := omega) only [aaH, aaA, aaO, aaZ, abJ, aaM, zv, zp, aaB, zt]
     rfl
    ·right
     have hie : i = e := zc
     subst hie
     simp only [aj4, ha, hX, zt]
     refine uF sd ?_
     refine uN zc ?_
     by_cases h0 : a = 0
     ·rw [if_pos h0]
      refine uT (by simp [h0]) ?_
      refine uC (mag (num s), ()) ?_ rfl
      rw [zu zi]
      exact auR hD zh (hV0 h0)
     ·rw [if_neg h0]
      refine uF zh ?_
      repeat refine za ?_
      have : w64 ((i : Int) - 9) = (a : Int) := by rw [hw9]; omega
      rw [this]
      rfl
   by_cases h0 : a = 0
   ·right
    rw [if_pos h0] at hin
    refine uF rfl ?_
    refine uO ((a : Int), 0, ()) ?_ hin
    repeat refine za ?_
    rfl
   ·left
    rw [if_neg h0] at hin
    refine ⟨((a : Int), false, l ++ [(X : Int)], ()), ?_, ⟨a, rfl, by omega, by omega, hD, hV1 zc, by simp; omega, by simp⟩, by simp only; omega, ze⟩
    refine uF rfl ?_
    refine uO ((a : Int), 0, ()) ?_ hin
    repeat refine za ?_
    rfl
  ·-- the first group
   obtain rfl := g7 rfl
   simp only [yW] at hD hV0 hV1
   simp only [aoC, ha]
   have hin : acW (fun i1 => (aj5 s ((e : Int), true, [], ()) i1).toO) ((a : Int), 0, ()) = some (if a = 0 then Sum.inr (mag (num s), ()) else Sum.inl ((a : Int), false, [(X : Int)], ())) := by
    refine aaL (fun j : Int × Int × Unit => ∃ i : Nat, a ≤ i ∧ i ≤ e ∧ j = ((i : Int), (num ((s.take i).drop a) : Int), ())) (fun j => ((e : Int) - j.1).toNat) (fun _ => (if a = 0 then Sum.inr (mag (num s), ()) else Sum.inl ((a : Int), false, [(X : Int)], ()))) ?_ _ ⟨a, zq _, ha1, by rw [yD zh]; rfl⟩
    rintro j ⟨i, h1, h2, rfl⟩
    rcases zr i e with hi | hi
    ·left
     refine ⟨(((i + 1 : Nat) : Int), (num ((s.take (i + 1)).drop a) : Int), ()), ?_, ⟨i + 1, by omega, by omega, rfl⟩, by simp only; omega, ze⟩
     simp only [aj5, aaM, az6 hd h1 hi g3 ha2]
     repeat refine za ?_
     simp (disch := omega) only [aaH, aaA, aaO, aaZ, abJ, aaM, zv, zp, aaB, zt]
     rfl
    ·right
     have hie : i = e := zc
     subst hie
     simp only [aj5, ha, hX]
     refine uF sd ?_
     refine uN zi ?_
     by_cases h0 : a = 0
     ·rw [if_pos h0]
      refine uT (by simp [h0]) ?_
      refine uC (mag (num s), ()) ?_ rfl
      exact auR hD zi (hV0 h0)
     ·rw [if_neg h0]
      refine uF zh ?_
      repeat refine za ?_
      have : w64 ((i : Int) - 9) = (a : Int) := by rw [hw9]; omega
      rw [this]
      rfl
   by_cases h0 : a = 0
   ·right
    rw [if_pos h0] at hin
    refine uT rfl ?_
    refine uO ((a : Int), 0, ()) ?_ hin
    repeat refine za ?_
    rfl
   ·left
    rw [if_neg h0] at hin
    refine ⟨((a : Int), false, [(X : Int)], ()), ?_, ⟨a, rfl, by omega, by omega, hD, hV1 zc, by simp; omega, by simp⟩, by simp only; omega, ze⟩
    refine uT rfl ?_
    refine uO ((a : Int), 0, ()) ?_ hin
    repeat refine za ?_
    rfl
set_option maxRecDepth 100000
open Go Go.Vg Go.Proofs
noncomputable section
def aI1 : LTab := []
def aAc (m : List Int) (negative : Bool) : TT th :=
 .ite (negative)
 (.call (ac6 (m, ())) Dd1 fun y =>
 .ok (((m, !y.1, ()), ())))
 (.ok (((m, false, ()), ())))
def aQD : LTab := []
def aO4 (m : List Int) (negative : Bool) : TT th :=
 .ite (negative)
 (.call (ahF (m, ())) Dd1 fun y =>
 .ok (((m, !y.1, ()), ())))
 (.ok (((m, false, ()), ())))
def aBy : LTab := []
def apK (n : List Int × Bool × Unit) : TT th :=
 .call (aa8 (n.1, !n.2.1, ())) Dd5 fun y =>
 .ok (((y.1.1, y.1.2.1, ()), ()))
def aLT : LTab := []
def awB (n : List Int × Bool × Unit) : TT uz :=
 .call (ac6 (n.1, ())) Dd1 fun y =>
 .ite (y.1)
 (.ok ((0, ())))
 (.ite (n.2.1)
 (.ok ((-1, ())))
 (.ok ((1, ()))))
def aLS : LTab := []
def awA (n : List Int × Bool × Unit) : TT uM :=
 .ite (n.2.1)
 (.call (ahK (n.1, ())) Dd2 fun y =>
 .need (List.length #[45].toList + List.length y.1 ≤ lim) <| .ok ((#[45].toList ++ y.1, ())))
 (.call (ahK (n.1, ())) Dd2 fun y1 =>
 .ok ((y1.1, ())))
def aOA : LTab := []
def aBw (n : List Int × Bool × Unit) (o : List Int × Bool × Unit) : TT th :=
 .ite (n.2.1 == o.2.1)
 (.call (al5 (n.1, o.1, ())) Dd0 fun y =>
 .call (aa8 (y.1, n.2.1, ())) Dd5 fun y1 =>
 .ok (((y1.1.1, y1.1.2.1, ()), ())))
 (.call (adN (n.1, o.1, ())) Dd6 fun y2 =>
 .ite (decide (y2.1 < 0))
 (.call (ajH (o.1, n.1, ())) Dd0 fun y3 =>
 .call (aa8 (y3.1, o.2.1, ())) Dd5 fun y4 =>
 .ok (((y4.1.1, y4.1.2.1, ()), ())))
 (.call (ajH (n.1, o.1, ())) Dd0 fun y5 =>
 .call (aa8 (y5.1, n.2.1, ())) Dd5 fun y6 =>
 .ok (((y6.1.1, y6.1.2.1, ()), ()))))
def akY (s : List Int × Bool × Unit) (o : List Int × Bool × Unit) : TT th :=
 .call (ap0 ((o.1, o.2.1, ()), ())) Dd5 fun y =>
 .call (aHu ((s.1, s.2.1, ()), y.1, ())) Dd5 fun y1 =>
 .ok (((y1.1.1, y1.1.2.1, ()), ()))
def aCp : LTab := []
def akX (s : List Int × Bool × Unit) (o : List Int × Bool × Unit) : TT th :=
 .call (ai6 (s.1, o.1, ())) Dd0 fun y =>
 .call (ah3 (y.1, !s.2.1 == o.2.1, ())) Dd5 fun y1 =>
 .ok (((y1.1.1, y1.1.2.1, ()), ()))
def aFS : LTab := []
def an9 (n : List Int × Bool × Unit) (m : List Int) : TT th :=
 .call (ab9 (n.1, m, ())) Dd0 fun y =>
 .call (aa8 (y.1, n.2.1, ())) Dd5 fun y1 =>
 .ok (((y1.1.1, y1.1.2.1, ()), ()))
def aI0 : LTab := []
def arV (n : List Int × Bool × Unit) (d : List Int) : TT th :=
 .call (abC (n.1, d, ())) Dd4 fun y =>
 .ite (n.2.1)
 (.call (ac6 (y.2.1, ())) Dd1 fun y1 =>
 .ite (!y1.1)
 (.call (al5 (y.1, [1], ())) Dd0 fun y2 =>
 .call (aa8 (y2.1, n.2.1, ())) Dd5 fun y3 =>
 .ok (((y3.1.1, y3.1.2.1, ()), ())))
 (.call (aa8 (y.1, n.2.1, ())) Dd5 fun y4 =>
 .ok (((y4.1.1, y4.1.2.1, ()), ()))))
 (.call (aa8 (y.1, n.2.1, ())) Dd5 fun y5 =>
 .ok (((y5.1.1, y5.1.2.1, ()), ())))
def aI3 : LTab := []
def aAd (a : List UInt8) : TT th :=
 .call (acX (a, #[45].toList, ())) Dd7 fun y =>
 .call (agX (y.1, ())) Dd0 fun y1 =>
 .ok (((y1.1, y.2.1, ()), ()))
def aF8 : LTab := []
def aoE (s : List UInt8) (prefix0 : List UInt8) : TT (List UInt8 × Bool × Unit) :=
 .tt <| .tt <| .tt <| .tt <| .ite (decide (len s ≥ len prefix0))
 (.need (inc (len prefix0) (len s)) <| .ite (!List.take (Int.toNat (len prefix0)) s == prefix0)
 (.ok ((s, false, ())))
 (.need (inc (len prefix0) (len s)) <| .ok ((List.take (List.length s - Int.toNat (len prefix0)) (List.drop (Int.toNat (len prefix0)) s), true, ()))))
 (.ok ((s, false, ())))
def aIN : LTab := []
def arQ (x : ug × List Int × Unit) : TT ut :=
 .call (ahJ (x.1.1, ())) Dd6 fun y =>
 .ite (decide (y.1 > 600))
 (.ok (((#[].toList, #[].toList, ()), 6, ())))
 (.call (ahJ (x.2.1, ())) Dd6 fun y1 =>
 .ite (decide (y1.1 > 600))
 (.ok (((#[].toList, #[].toList, ()), 6, ())))
 (.call (ajI ((x.1.1, x.1.2.1, ()), ())) Dd2 fun y2 =>
 .call (ahK (x.2.1, ())) Dd2 fun y3 =>
 .ok (((y2.1, y3.1, ()), 0, ()))))
def aFT : LTab := []
def aoB (n : List Int × Bool × Unit) (d : List Int) : TT uP :=
 .call (agT (n.1, d, ())) Dd0 fun y =>
 .call (abC (n.1, y.1, ())) Dd4 fun y1 =>
 .call (abC (d, y.1, ())) Dd4 fun y2 =>
 .call (aa8 (y1.1, n.2.1, ())) Dd5 fun y3 =>
 .ok ((((y3.1.1, y3.1.2.1, ()), y2.1, ()), ()))
def aDF : LTab := []
def as3 (x : ug × List Int × Unit) : TT uP :=
 .call (afB ((x.1.1, x.1.2.1, ()), ())) Dd5 fun y =>
 .ok ((((y.1.1, y.1.2.1, ()), x.2.1, ()), ()))
def aOy : LTab := []
def aBt (x : ug × List Int × Unit) (y : ug × List Int × Unit) : TT uP :=
 .call (agT (x.2.1, y.2.1, ())) Dd0 fun y1 =>
 .call (abC (y.2.1, y1.1, ())) Dd4 fun y2 =>
 .call (abC (x.2.1, y1.1, ())) Dd4 fun y3 =>
 .call (adO ((x.1.1, x.1.2.1, ()), y2.1, ())) Dd5 fun y4 =>
 .call (adO ((y.1.1, y.1.2.1, ()), y3.1, ())) Dd5 fun y5 =>
 .call (am2 (y4.1, y5.1, ())) Dd5 fun y6 =>
 .call (agT (y6.1.1, y1.1, ())) Dd0 fun y7 =>
 .call (abC (y6.1.1, y7.1, ())) Dd4 fun y8 =>
 .call (abC (y.2.1, y7.1, ())) Dd4 fun y9 =>
 .call (aa8 (y8.1, y6.1.2.1, ())) Dd5 fun y10 =>
 .call (ab9 (y3.1, y9.1, ())) Dd0 fun y11 =>
 .ok ((((y10.1.1, y10.1.2.1, ()), y11.1, ()), ()))
def aOw : LTab := []
def aHg (x : ug × List Int × Unit) (y : ug × List Int × Unit) : TT uP :=
 .call (ah5 (((y.1.1, y.1.2.1, ()), y.2.1, ()), ())) Dd8 fun y1 =>
 .call (aqD (((x.1.1, x.1.2.1, ()), x.2.1, ()), y1.1, ())) Dd8 fun y2 =>
 .ok ((((y2.1.1.1, y2.1.1.2.1, ()), y2.1.2.1, ()), ()))
def aOx : LTab := []
def aBr (x : ug × List Int × Unit) (y : ug × List Int × Unit) : TT uP :=
 .call (agT (x.1.1, y.2.1, ())) Dd0 fun y1 =>
 .call (agT (y.1.1, x.2.1, ())) Dd0 fun y2 =>
 .call (abC (x.1.1, y1.1, ())) Dd4 fun y3 =>
 .call (abC (x.2.1, y2.1, ())) Dd4 fun y4 =>
 .call (abC (y.1.1, y2.1, ())) Dd4 fun y5 =>
 .call (abC (y.2.1, y1.1, ())) Dd4 fun y6 =>
 .call (ab9 (y3.1, y5.1, ())) Dd0 fun y7 =>
 .call (aa8 (y7.1, !x.1.2.1 == y.1.2.1, ())) Dd5 fun y8 =>
 .call (ab9 (y4.1, y6.1, ())) Dd0 fun y9 =>
 .ok ((((y8.1.1, y8.1.2.1, ()), y9.1, ()), ()))
def aDG : LTab := []
def as4 (x : ug × List Int × Unit) : TT uP :=
 .call (aa8 (x.2.1, x.1.2.1, ())) Dd5 fun y =>
 .ok ((((y.1.1, y.1.2.1, ()), x.1.1, ()), ()))
def aIP : LTab := []
def arR (x : ug × List Int × Unit) (y : ug × List Int × Unit) : TT uz :=
 .call (adO ((x.1.1, x.1.2.1, ()), y.2.1, ())) Dd5 fun y1 =>
 .call (adO ((y.1.1, y.1.2.1, ()), x.2.1, ())) Dd5 fun y2 =>
 .call (afB (y2.1, ())) Dd5 fun y3 =>
 .call (am2 (y1.1, y3.1, ())) Dd5 fun y4 =>
 .call (ajJ (y4.1, ())) Dd6 fun y5 =>
 .ok ((y5.1, ()))
def aLH : LTab := []
def avZ (x : ug × List Int × Unit) (scale : List Int) : TT th :=
 .call (ab9 (scale, [2], ())) Dd0 fun y =>
 .call (adO ((x.1.1, x.1.2.1, ()), y.1, ())) Dd5 fun y1 =>
 .call (aa8 (x.2.1, false, ())) Dd5 fun y2 =>
 .call (am2 (y1.1, y2.1, ())) Dd5 fun y3 =>
 .call (ab9 (x.2.1, [2], ())) Dd0 fun y4 =>
 .call (ajK ((y3.1.1, y3.1.2.1, ()), y4.1, ())) Dd5 fun y5 =>
 .ok (((y5.1.1, y5.1.2.1, ()), ()))
def aJZ : LTab := []
def auL (s : List Int × Bool × Unit) : TT uX :=
 .call (akG (s.1, ())) Dd6 fun y =>
 .ite (decide (y.1 > 600))
 (.ok ((#[].toList, 6, ())))
 (.ite (s.2.1)
 (.call (akI (s.1, ())) Dd2 fun y1 =>
 .need (List.length #[45].toList + List.length y1.1 ≤ lim) <| .ok ((#[45].toList ++ y1.1, 0, ())))
 (.call (akI (s.1, ())) Dd2 fun y2 =>
 .ok ((y2.1, 0, ()))))
end
theorem aAV {p q : Int × Int} (h : (sg p.1, sg p.2, ()) = (sg q.1, sg q.2, ())) : p = q := by
 obtain ⟨h1, h2⟩ := Prod.mk.inj h
 obtain ⟨h2, -⟩ := Prod.mk.inj h2
 exact Prod.ext (aoT h1) (aoT h2)
theorem aEU {p q : Int × Nat} (h : (sg p.1, mag p.2, ()) = (sg q.1, mag q.2, ())) : p = q := by
 obtain ⟨h1, h2⟩ := Prod.mk.inj h
 obtain ⟨h2, -⟩ := Prod.mk.inj h2
 exact Prod.ext (aoT h1) (adK h2)
theorem at4 {p q : Rat × Rat} (h : (rt p.1, rt p.2, ()) = (rt q.1, rt q.2, ())) : p = q := by
 obtain ⟨h1, h2⟩ := Prod.mk.inj h
 obtain ⟨h2, -⟩ := Prod.mk.inj h2
 exact Prod.ext (azB h1) (azB h2)
theorem aPA {p q : Rat × Nat} (h : (rt p.1, mag p.2, ()) = (rt q.1, mag q.2, ())) : p = q := by
 obtain ⟨h1, h2⟩ := Prod.mk.inj h
 obtain ⟨h2, -⟩ := Prod.mk.inj h2
 exact Prod.ext (azB h1) (adK h2)
theorem aDO (m : List Int) (negative : Bool) (y) (h : aa8 (m, negative, ()) = some y) : (aAc m negative).toO = some y := by
 injection h with h
 subst h
 cases negative
 ·rfl
 ·exact uT rfl (uC (len m == 0, ()) rfl rfl)
theorem abR {n : Nat} {b : Bool} {w : Int} (hn : n = w.natAbs) (hb : w = 0 ∨ b = decide (w < 0)) : aa8 (mag n, b, ()) = some (sg w, ()) := by
 subst hn
 unfold aa8 sg
 rcases hb with rfl | rfl
 ·simp [mag_zero, len]
 ·by_cases h0 : w = 0
  ·subst h0; simp
  ·have : (len (mag w.natAbs) == 0) = false := by
    have h1 : mag w.natAbs ≠ [] := fun h2 => by have := mag_nil_iff.1 h2; omega
    have h3 : (mag w.natAbs).length ≠ 0 := fun h2 => h1 (zW.1 h2)
    rw [aaB, beq_eq_false_iff_ne]; omega
   simp only [this, wC, Bool.and_true]
theorem aNi (m : List Int) (negative : Bool) (y) (h : ah3 (m, negative, ()) = some y) : (aO4 m negative).toO = some y := by
 injection h with h
 subst h
 cases negative
 ·rfl
 ·exact uT rfl (uC (len m == 0, ()) rfl rfl)
theorem aAy {n : Nat} {b : Bool} {w : Int} (hn : n = w.natAbs) (hb : w = 0 ∨ b = decide (w < 0)) : ah3 (mag n, b, ()) = some (sg w, ()) := by
 subst hn
 unfold ah3 sg
 rcases hb with rfl | rfl
 ·simp [mag_zero, len]
 ·by_cases h0 : w = 0
  ·subst h0; simp
  ·have : (len (mag w.natAbs) == 0) = false := by
    have h1 : mag w.natAbs ≠ [] := fun h2 => by have := mag_nil_iff.1 h2; omega
    have h3 : (mag w.natAbs).length ≠ 0 := fun h2 => h1 (zW.1 h2)
    rw [aaB, beq_eq_false_iff_ne]; omega
   simp only [this, wC, Bool.and_true]
theorem aqM {a : Int} (h1 : Bd 8 a.natAbs) : afB (sg a, ()) = some (sg (-a), ()) := aaK (enc := fun x : Int => (sg x, ())) a h1 (fun b hb => aoT (Prod.mk.inj hb).1)
theorem aCd {a b : Int} (h1 : Bd 7 a.natAbs) (h2 : Bd 7 b.natAbs) : am2 (sg a, sg b, ()) = some (sg (a + b), ()) := aaK (enc := fun x : Int × Int => (sg x.1, sg x.2, ())) (a, b) ⟨h1, h2⟩ (fun b hb => aAV hb)
theorem awC (n : SgT) (y) (h : afB (n, ()) = some y) : (apK n).toO = some y := by
 obtain ⟨a, hp, hx, rfl⟩ := aaE h
 obtain ⟨rfl, -⟩ := Prod.mk.inj hx
 refine uC (sg (-a), ()) (abR zc ?_) rfl
 by_cases h0 : a = 0
 ·left; omega
 ·right
  show (!decide (a < 0)) = decide (-a < 0)
  by_cases h1 : a < 0
  ·rw [zo h1, zn zc]; rfl
  ·rw [zn h1, zo zc]; rfl
theorem aIZ (n o : SgT) (y) (h : am2 (n, o, ()) = some y) : (aBw n o).toO = some y := by
 obtain ⟨⟨a, b⟩, hp, hx, rfl⟩ := aaE h
 obtain ⟨rfl, hx2⟩ := Prod.mk.inj hx; obtain ⟨rfl, -⟩ := Prod.mk.inj hx2; dsimp only
 obtain ⟨l1, l2⟩ := hp
 simp only at l1 l2
 unfold aBw
 dsimp only
 by_cases hs : (decide (a < 0) == decide (b < 0)) = true
 ·refine uT hs ?_
  have hs' : (a < 0 ↔ b < 0) := by simpa using hs
  refine uC _ (aEs (aaI l1 zc) (aaI l2 zc)) ?_
  refine uC (sg (a + b), ()) (abR zc (Or.inr ?_)) rfl
  exact decide_eq_decide.2 zc
 ·have hs' : ¬ (a < 0 ↔ b < 0) := by simpa using hs
  refine uF (by simpa using hs) ?_
  refine uC _ (atO (aaI l1 zc) (aaI l2 zc)) ?_
  by_cases hc : a.natAbs < b.natAbs
  ·refine uT ?_ ?_
   ·unfold atG; rw [if_pos zc]; rfl
   ·refine uC _ (aAB (aaI l2 zc) zc) ?_
    refine uC (sg (a + b), ()) (abR zc (Or.inr ?_)) rfl
    exact decide_eq_decide.2 zc
  ·refine uF ?_ ?_
   ·unfold atG
    rw [if_neg zc]
    split <;> rfl
   ·refine uC _ (aAB (aaI l1 zc) zc) ?_
    refine uC (sg (a + b), ()) (abR zc ?_) rfl
    by_cases h0 : a + b = 0
    ·exact Or.inl h0
    ·exact Or.inr (decide_eq_decide.2 zc)
theorem aCb {a : Int} (h1 : Bd 8 a.natAbs) : ap0 (sg a, ()) = some (sg (-a), ()) := aaK (enc := fun x : Int => (sg x, ())) a h1 (fun b hb => aoT (Prod.mk.inj hb).1)
theorem aOY {a b : Int} (h1 : Bd 7 a.natAbs) (h2 : Bd 7 b.natAbs) : aHu (sg a, sg b, ()) = some (sg (a + b), ()) := aaK (enc := fun x : Int × Int => (sg x.1, sg x.2, ())) (a, b) ⟨h1, h2⟩ (fun b hb => aAV hb)
theorem axZ {a : Int} (h1 : Bd 8 a.natAbs) : ajJ (sg a, ()) = some (a.sign, ()) := aaK (enc := fun x : Int => (sg x, ())) a h1 (fun b hb => aoT (Prod.mk.inj hb).1)
theorem aFR (n : SgT) (y) (h : ajJ (n, ()) = some y) : (awB n).toO = some y := by
 obtain ⟨a, hp, hx, rfl⟩ := aaE h
 obtain ⟨rfl, -⟩ := Prod.mk.inj hx
 unfold awB
 dsimp only
 refine uC _ (aqL _) ?_
 rcases xB a 0 with h0 | h0 | h0
 ·refine uF zh (uT zh ?_)
  rw [xo h0]; rfl
 ·subst h0; exact uT zi rfl
 ·refine uF zh (uF zh ?_)
  rw [xJ h0]; rfl
theorem axY {a : Int} (h1 : Bd 0 a.natAbs) : ajI (sg a, ()) = some (dec a, ()) := aaK (enc := fun x : Int => (sg x, ())) a h1 (fun b hb => aoT (Prod.mk.inj hb).1)
theorem aHn {n : Nat} (h : Bd 0 n) : (aa3 n).length ≤ 9000001 := by
 have := aiK (k := 1000000 * 4 ^ 0) h
 omega
theorem aFQ (n : SgT) (y) (h : ajI (n, ()) = some y) : (awA n).toO = some y := by
 obtain ⟨a, hp, hx, rfl⟩ := aaE h
 obtain ⟨rfl, -⟩ := Prod.mk.inj hx
 unfold awA
 dsimp only
 have hl := aHn hp
 by_cases h0 : a < 0
 ·refine uT zh (uC _ (aoL hp) (uN ?_ ?_))
  ·show 1 + (aa3 a.natAbs).length ≤ lim
   unfold lim; omega
  ·rw [aiJ h0]; rfl
 ·refine uF zh (uC _ (aoL hp) ?_)
  rw [acP zc]; rfl
theorem ahM {a : Int} {b : Nat} (h1 : Bd 7 a.natAbs) (h2 : Bd 7 b) : adO (sg a, mag b, ()) = some (sg (a * b), ()) := aaK (enc := fun x : Int × Nat => (sg x.1, mag x.2, ())) (a, b) ⟨h1, h2⟩ (fun b hb => aEU hb)
theorem aBx (n : SgT) (m : List Int) (y) (h : adO (n, m, ()) = some y) : (an9 n m).toO = some y := by
 obtain ⟨⟨a, b⟩, hp, hx, rfl⟩ := aaE h
 obtain ⟨rfl, hx2⟩ := Prod.mk.inj hx; obtain ⟨rfl, -⟩ := Prod.mk.inj hx2; dsimp only
 obtain ⟨l1, l2⟩ := hp
 simp only at l1 l2
 unfold an9
 dsimp only
 refine uC _ (agZ (aaI l1 zc) (aaI l2 zc)) ?_
 refine uC (sg (a * b), ()) (abR (by rw [yF]; rfl) ?_) rfl
 rcases zF b with h0 | h0
 ·left; subst h0; simp
 ·right
  refine decide_eq_decide.2 ⟨fun h => xW h zc, fun h => ?_⟩
  rcases zS a 0 with h2 | h2
  ·exact h2
  ·have := yg h2 (show (0 : Int) ≤ b by omega); omega
theorem arT {a : Int} {d : Nat} (ha : a < 0) (hd : d ≠ 0) : a / (d : Int) = -((if a.natAbs % d = 0 then a.natAbs / d else a.natAbs / d + 1 : Nat) : Int) := by
 obtain ⟨n, hn⟩ : ∃ n : Nat, a = -(n : Int) := ⟨a.natAbs, by omega⟩
 subst hn
 rw [xE, zQ]
 have e := xS n d
 have hlt := yU n (show 0 < d by omega)
 generalize hq : n / d = q at e
 generalize hr : n % d = r at e hlt
 by_cases h0 : r = 0
 ·rw [if_pos h0]
  have : -(n : Int) = -(q : Int) * d := by
   rw [← e, h0]; simp; grind
  rw [this, Int.mul_ediv_cancel _ zc]
 ·rw [if_neg h0]
  have h1 : -(n : Int) = ((d : Int) - r) + (-((q + 1 : Nat) : Int)) * d := by
   rw [← e]; simp; grind
  rw [h1, Int.add_mul_ediv_right _ _ zc, xm zc zc, wZ]
theorem aAC {a : Int} {b : Nat} (h1 : Bd 7 a.natAbs) (h2 : Bd 7 b) (h3 : b ≠ 0) : ajK (sg a, mag b, ()) = some (sg (a / b), ()) := aaK (enc := fun x : Int × Nat => (sg x.1, mag x.2, ())) (a, b) ⟨h1, h2, h3⟩ (fun b hb => aEU hb)
theorem arJ : mag 1 = [1] := apD zc zc
theorem aP3 : mag 2 = [2] := apD zc zc
theorem aDN (n : SgT) (d : List Int) (y) (h : ajK (n, d, ()) = some y) : (arV n d).toO = some y := by
 obtain ⟨⟨a, b⟩, hp, hx, rfl⟩ := aaE h
 obtain ⟨rfl, hx2⟩ := Prod.mk.inj hx; obtain ⟨rfl, -⟩ := Prod.mk.inj hx2; dsimp only
 obtain ⟨l1, l2, l3⟩ := hp
 simp only at l1 l2 l3
 unfold arV
 dsimp only
 refine uC _ (ab2 (aaI l1 zc) (aaI l2 zc) l3) ?_
 by_cases ha : a < 0
 ·refine uT zh ?_
  refine uC _ (aqL _) ?_
  have hf := arT ha l3
  have hbd := aaR b l1
  generalize a.natAbs / b = q at hf hbd
  generalize hrr : a.natAbs % b = r at hf
  by_cases hr : r = 0
  ·rw [if_pos hr] at hf
   refine uF zh ?_
   refine uC (sg (a / b), ()) (abR (n := q) zc ?_) rfl
   by_cases h0 : a / (b : Int) = 0
   ·exact Or.inl h0
   ·exact Or.inr (decide_eq_decide.2 zc)
  ·rw [if_neg hr] at hf
   refine uT zh ?_
   have := aEs (a := q) (b := 1) (aaI hbd zc) (aaI (aaG zc) zc)
   rw [arJ] at this
   refine uC _ this ?_
   refine uC (sg (a / b), ()) (abR (n := q + 1) zc (Or.inr (decide_eq_decide.2 zc))) rfl
 ·refine uF zh ?_
  obtain ⟨n, rfl⟩ := zw (show 0 ≤ a by omega)
  have hdv : ((n : Int) / (b : Int)) = ((n / b : Nat) : Int) := zi
  rw [hdv]
  refine uC (sg ((n / b : Nat) : Int), ()) (abR (n := n / b) rfl (Or.inr (decide_eq_decide.2 ?_))) rfl
  generalize n / b = q
  omega
theorem aBP (s p : List UInt8) (hs : s.length ≤ 4611686018427387904) (y) (h : acX (s, p, ()) = some y) : (aoE s p).toO = some y := by
 injection h with h
 subst h
 unfold aoE
 dsimp only
 rcases zr s.length p.length with hl | hl
 ·repeat refine za ?_
  have : p.isPrefixOf s = false := by
   cases hp : p.isPrefixOf s with
   | false => rfl
   | true => have := (wQ.1 hp).length_le; omega
  simp [this, aaH]
 ·refine uV (uV (uV (uV (uT sd (uN sd ?_)))))
  simp only [aaB, zp]
  by_cases hp : p.isPrefixOf s = true
  ·have h2 := List.prefix_iff_eq_take.1 (wQ.1 hp)
   refine uF (by rw [← h2]; simp) (uN sd ?_)
   rw [if_pos hp, zu zi]; rfl
  ·refine uT ?_ ?_
   ·simp only [zU, beq_eq_false_iff_ne]
    intro h2
    exact hp (wQ.2 (List.prefix_iff_eq_take.2 h2.symm))
   ·rw [if_neg hp]; rfl
theorem aEt (z : Int) : acX (dec z, #[45].toList, ()) = some (aa3 z.natAbs, decide (z < 0), ()) := by
 unfold acX
 show some (if [45].isPrefixOf (dec z) = true then _ else _) = _
 by_cases h : z < 0
 ·rw [aiJ h, zo h]
  simp [List.isPrefixOf]
 ·rw [acP zc, zn h]
  have : [45].isPrefixOf (aa3 z.natAbs) = false := by
   have := ae2 z.natAbs
   cases hd : aa3 z.natAbs with
   | nil => rfl
   | cons a l =>
    rw [hd] at this
    simp only [wX, ne_eq, Option.some.injEq] at this
    simp [List.isPrefixOf, Ne.symm this]
  rw [this]; simp
theorem am5 {z : Int} (h : Bd 7 z.natAbs) : afS (dec z, ()) = some (sg z, ()) := aaK (enc := fun x : Int => (dec x, ())) z h (fun b hb => alQ (Prod.mk.inj hb).1)
theorem aDP (a : List UInt8) (y) (h : afS (a, ()) = some y) : (aAd a).toO = some y := by
 obtain ⟨z, hp, hx, rfl⟩ := aaE h
 obtain ⟨rfl, -⟩ := Prod.mk.inj hx
 exact uC _ (aEt z) (uC _ (aJL (aaI hp zc)) rfl)
end Go.Vs
