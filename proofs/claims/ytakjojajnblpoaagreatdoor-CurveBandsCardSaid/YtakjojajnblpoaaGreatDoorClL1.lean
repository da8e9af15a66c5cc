/-
  Trees of what the functions compute, and their laws. Own work; no condition.
-/
import Derived.Test.YtakjojajnblpoaaGreatDoorClX1
import Derived.Test.YtakjojajnblpoaaGreatDoorProg
set_option linter.unusedVariables false
set_option linter.unusedSimpArgs false
set_option maxRecDepth 100000
namespace Go.Vs
open Go Go.Vg Go.Proofs
noncomputable section
def aQw : LTab := []
def asI (m : List Int) : TT uP :=
 .ok ((len m == 0, ()))
def aQx : LTab := [(207, 12, 1025, ⟨0, (List Int) × Unit, .dat (.s 0) tj <| .nil, [2], [], 0⟩)]
def aCQ (m : List Int) (i : (List Int) × Unit) : TT (tW ⊕ uG) :=
 .ite (decide (len i.1 > 0))
 (.need (inb (w64 (len i.1 - 1)) (len i.1)) <| .ite (gi i.1 (w64 (len i.1 - 1)) 0 == 0)
 (.need (inc (w64 (len i.1 - 1)) (len i.1)) <| .tt <| .lt (List.take (Int.toNat (w64 (len i.1 - 1))) i.1 : List Int) fun z => .vW (vX z <| True ∧ True) <| .tr <| .ok (.inl ((z, ()))))
 (.ok (.inr ((i.1, ())))))
 (.ok (.inr ((i.1, ()))))
def az8 (m : List Int) : TT uG :=
 .loop 0 (.tt <| .vW (vX m <| True ∧ True) <| .tr <| .ok ((m, ()))) (aCQ m)
def aNg : LTab := [(175, 58, 6144, ⟨0, (Int) × (Int) × Unit, .dat (.s 4) uq <| .dat (.s 3) uX <| .nil, [2, 0], [], 0⟩)]
def aAb (m : List Int) (i : (Int) × (Int) × Unit) : TT (uQ ⊕ uS) :=
 .ite (decide (i.1 ≥ 0))
 (.need (inb i.1 (len m)) <| .tt <| .lt (w64 (i.1 - 1) : Int) fun z1 => .lt (abZ (abZ (i.2.1 * 1000000000) + abZ (gi m i.1 0)) : Int) fun z2 => .vW (vY z2 z1 (0 : Int) m) <| .tr <| .ok (.inl ((z1, z2, ()))))
 (.ok (.inr ((i.2.1, ()))))
def aCR (m : List Int) : TT uS :=
 .loop 0 (.tt <| .lt (w64 (len m - 1) : Int) fun z => .vW (vY (0 : Int) z (0 : Int) m) <| .tr <| .ok ((z, 0, ()))) (aAb m)
def aG7 : LTab := [(141, 58, 10240, ⟨0, (Int) × Unit, .dat (.s 5) uq <| .nil, [0, 1], [], 0⟩)]
def asM (m : List Int) (o : List Int) (i : (Int) × Unit) : TT (uY ⊕ uS) :=
 .ite (decide (i.1 ≥ 0))
 (.need (inb i.1 (len m)) <| .need (inb i.1 (len o)) <| .ite (gi m i.1 0 != gi o i.1 0)
 (.need (inb i.1 (len m)) <| .need (inb i.1 (len o)) <| .tt <| .tt <| .tt <| .tt <| .tt <| .tt <| .ite (gi m i.1 0 != gi m i.1 0)
 (.ite (gi o i.1 0 != gi o i.1 0)
 (.ok (.inr ((0, ()))))
 (.ok (.inr ((-1, ())))))
 (.ite (gi o i.1 0 != gi o i.1 0)
 (.ok (.inr ((1, ()))))
 (.ite (decide (gi m i.1 0 < gi o i.1 0))
 (.ok (.inr ((-1, ()))))
 (.ite (decide (gi m i.1 0 > gi o i.1 0))
 (.ok (.inr ((1, ()))))
 (.ok (.inr ((0, ()))))))))
 (.tt <| .lt (w64 (i.1 - 1) : Int) fun z1 => .vW (vZ z1 m o) <| .tr <| .ok (.inl ((z1, ())))))
 (.ok (.inr ((0, ()))))
def ajM (m : List Int) (o : List Int) : TT uS :=
 .ite (len m != len o)
 (.tt <| .tt <| .tt <| .tt <| .tt <| .tt <| .ite (len m != len m)
 (.ite (len o != len o)
 (.ok ((0, ())))
 (.ok ((-1, ()))))
 (.ite (len o != len o)
 (.ok ((1, ())))
 (.ite (decide (len m < len o))
 (.ok ((-1, ())))
 (.ite (decide (len m > len o))
 (.ok ((1, ())))
 (.ok ((0, ())))))))
 (.loop 0 (.tt <| .lt (w64 (len m - 1) : Int) fun z => .vW (vZ z m o) <| .tr <| .ok ((z, ()))) (asM m o))
def aQy : LTab := [(181, 3, 1025, ⟨0, (List Int) × (List Int) × Unit, .dat (.s 0) tj <| .dat (.s 1) tj <| .nil, [4], [], 0⟩), (181, 250, 10241, ⟨1, (Int) × (Int) × (List Int) × Unit, .dat (.s 22) uq <| .dat (.s 6) uy <| .app (.s 5) 10 189 uy <| .nil, [21, 20, 1, 4], [], 1⟩)]
def aCS (m : List Int) (o : List Int) (j : List Int × List Int × Unit) (i : (Int) × (Int) × (List Int) × Unit) : TT (uZ ⊕ uG) :=
 .ite (decide (i.1 < len j.1))
 (.need (inb i.1 (len j.1)) <| .ite (decide (i.1 < len j.2.1))
 (.need (inb i.1 (len j.2.1)) <| .ite (decide (aeU (aeU (gi j.1 i.1 0 + i.2.1) + gi j.2.1 i.1 0) ≥ 1000000000))
 (.need ((List.length i.2.2.1 + 1) * 4 ≤ 140737488355328) <| .tt <| .lt (w64 (i.1 + 1) : Int) fun z1 => .lt (List.take (List.length i.2.2.1) i.2.2.1 ++ [aeU (aeU (aeU (gi j.1 i.1 0 + i.2.1) + gi j.2.1 i.1 0) - 1000000000)] : List Int) fun z2 => .need ((((10) = (10)) ∧ (((0) = (0)) ∧ ((List.length i.2.2.1 + 1 = List.length z2) ∧ ((true) = (true))))) ∧ ((1 : Int) = 1) ∧ ((z1 : Int) = z1) ∧ ((len j.1 : Int) = len j.1) ∧ ((j.1 : List Int) = j.1) ∧ ((j.2.1 : List Int) = j.2.1) ∧ True ∧ True) <| .vW (vV (ua 189 z2) True) <| .ok (.inl ((z1, 1, z2, ()))))
 (.need ((List.length i.2.2.1 + 1) * 4 ≤ 140737488355328) <| .tt <| .lt (w64 (i.1 + 1) : Int) fun z3 => .lt (List.take (List.length i.2.2.1) i.2.2.1 ++ [aeU (aeU (gi j.1 i.1 0 + i.2.1) + gi j.2.1 i.1 0)] : List Int) fun z4 => .need ((((10) = (10)) ∧ (((0) = (0)) ∧ ((List.length i.2.2.1 + 1 = List.length z4) ∧ ((true) = (true))))) ∧ ((0 : Int) = 0) ∧ ((z3 : Int) = z3) ∧ ((len j.1 : Int) = len j.1) ∧ ((j.1 : List Int) = j.1) ∧ ((j.2.1 : List Int) = j.2.1) ∧ True ∧ True) <| .vW (vV (ua 189 z4) True) <| .ok (.inl ((z3, 0, z4, ())))))
 (.ite (decide (aeU (gi j.1 i.1 0 + i.2.1) ≥ 1000000000))
 (.need ((List.length i.2.2.1 + 1) * 4 ≤ 140737488355328) <| .tt <| .lt (w64 (i.1 + 1) : Int) fun z5 => .lt (List.take (List.length i.2.2.1) i.2.2.1 ++ [aeU (aeU (gi j.1 i.1 0 + i.2.1) - 1000000000)] : List Int) fun z6 => .need ((((10) = (10)) ∧ (((0) = (0)) ∧ ((List.length i.2.2.1 + 1 = List.length z6) ∧ ((true) = (true))))) ∧ ((1 : Int) = 1) ∧ ((z5 : Int) = z5) ∧ ((len j.1 : Int) = len j.1) ∧ ((j.1 : List Int) = j.1) ∧ ((j.2.1 : List Int) = j.2.1) ∧ True ∧ True) <| .vW (vV (ua 189 z6) True) <| .ok (.inl ((z5, 1, z6, ()))))
 (.need ((List.length i.2.2.1 + 1) * 4 ≤ 140737488355328) <| .tt <| .lt (w64 (i.1 + 1) : Int) fun z7 => .lt (List.take (List.length i.2.2.1) i.2.2.1 ++ [aeU (gi j.1 i.1 0 + i.2.1)] : List Int) fun z8 => .need ((((10) = (10)) ∧ (((0) = (0)) ∧ ((List.length i.2.2.1 + 1 = List.length z8) ∧ ((true) = (true))))) ∧ ((0 : Int) = 0) ∧ ((z7 : Int) = z7) ∧ ((len j.1 : Int) = len j.1) ∧ ((j.1 : List Int) = j.1) ∧ ((j.2.1 : List Int) = j.2.1) ∧ True ∧ True) <| .vW (vV (ua 189 z8) True) <| .ok (.inl ((z7, 0, z8, ()))))))
 (.ite (decide (i.2.1 > 0))
 (.need ((List.length i.2.2.1 + 1) * 4 ≤ 140737488355328) <| .ok (.inr ((List.take (List.length i.2.2.1 + 1) (List.take (List.length i.2.2.1) i.2.2.1 ++ [i.2.1]), ()))))
 (.ok (.inr ((List.take (List.length i.2.2.1) i.2.2.1, ())))))
def avE (m : List Int) (o : List Int) (j : (List Int) × (List Int) × Unit) : TT uG :=
 .need (asT Int 0 ≤ 0 ∧ 0 ≤ w64 (len j.1 + 1) ∧ w64 (len j.1 + 1) * (↑4 : Int) ≤ 140737488355328) <| .loop 1 (.tt <| .lt (List.replicate (Int.toNat 0) 0 : List Int) fun z => .vW ((ub 10 0 0 true) ∧ (uc (0 : Int) (0 : Int) (len j.1) j.1 j.2.1 <| True ∧ True)) <| .vW (vV (ua 189 z) True) <| .ok ((0, 0, z, ()))) (aCS m o j)
def asJ (m : List Int) (o : List Int) : TT uG :=
 .join 0 (ι := (List Int) × (List Int) × Unit) (.ite (decide (len m < len o))
 (.tt <| .vW (ud m o <| True ∧ True) <| .tr <| .ok (.inl ((o, m, ()))))
 (.tt <| .vW (ud o m <| True ∧ True) <| .tr <| .ok (.inl ((m, o, ()))))) (avE m o)
def aNi : LTab := [(219, 122, 9217, ⟨0, (Int) × (Int) × (List Int) × Unit, .dat (.s 15) uq <| .dat (.s 6) uy <| .row 3 uy <| .nil, [14, 13, 5, 4, 1], [3], 0⟩)]
def aAd (m : List Int) (o : List Int) (i : (Int) × (Int) × (List Int) × Unit) : TT (uZ ⊕ uG) :=
 .ite (decide (i.1 < len m))
 (.need (inb i.1 (len m)) <| .ite (decide (i.1 < len o))
 (.need (inb i.1 (len o)) <| .ite (decide (gi m i.1 0 < aeU (i.2.1 + gi o i.1 0)))
 (.need (inb i.1 (↑(Int.toNat (len m)) : Int)) <| .tt <| .lt (w64 (i.1 + 1) : Int) fun z1 => .lt (List.set i.2.2.1 (0 + Int.toNat i.1) (aeU (aeU (gi m i.1 0 + 1000000000) - aeU (i.2.1 + gi o i.1 0))) : List Int) fun z2 => .vW (ue (1 : Int) z1 (len m) m <| (ub 3 0 (Int.toNat (len m)) true) ∧ True ∧ uf o) <| .vW (vV (ua 189 z2) True) <| .ok (.inl ((z1, 1, z2, ()))))
 (.need (inb i.1 (↑(Int.toNat (len m)) : Int)) <| .tt <| .lt (w64 (i.1 + 1) : Int) fun z3 => .lt (List.set i.2.2.1 (0 + Int.toNat i.1) (aeU (gi m i.1 0 - aeU (i.2.1 + gi o i.1 0))) : List Int) fun z4 => .vW (ue (0 : Int) z3 (len m) m <| (ub 3 0 (Int.toNat (len m)) true) ∧ True ∧ uf o) <| .vW (vV (ua 189 z4) True) <| .ok (.inl ((z3, 0, z4, ())))))
 (.ite (decide (gi m i.1 0 < i.2.1))
 (.need (inb i.1 (↑(Int.toNat (len m)) : Int)) <| .tt <| .lt (w64 (i.1 + 1) : Int) fun z5 => .lt (List.set i.2.2.1 (0 + Int.toNat i.1) (aeU (aeU (gi m i.1 0 + 1000000000) - i.2.1)) : List Int) fun z6 => .vW (ue (1 : Int) z5 (len m) m <| (ub 3 0 (Int.toNat (len m)) true) ∧ True ∧ uf o) <| .vW (vV (ua 189 z6) True) <| .ok (.inl ((z5, 1, z6, ()))))
 (.need (inb i.1 (↑(Int.toNat (len m)) : Int)) <| .tt <| .lt (w64 (i.1 + 1) : Int) fun z7 => .lt (List.set i.2.2.1 (0 + Int.toNat i.1) (aeU (gi m i.1 0 - i.2.1)) : List Int) fun z8 => .vW (ue (0 : Int) z7 (len m) m <| (ub 3 0 (Int.toNat (len m)) true) ∧ True ∧ uf o) <| .vW (vV (ua 189 z8) True) <| .ok (.inl ((z7, 0, z8, ()))))))
 (.call (acZ (List.take (Int.toNat (len m)) i.2.2.1, ())) Dd0 fun y =>
 .ok (.inr ((y.1, ()))))
def apK (m : List Int) (o : List Int) : TT uG :=
 .need (0 ≤ len m ∧ len m ≤ len m ∧ len m * (↑4 : Int) ≤ 140737488355328) <| .loop 0 (.tt <| .lt (List.replicate (Int.toNat (len m)) 0 : List Int) fun z => .vW (ue (0 : Int) (0 : Int) (len m) m <| (ub 3 0 (Int.toNat (len m)) true) ∧ True ∧ uf o) <| .vW (vV (ua 189 z) True) <| .ok ((0, 0, z, ()))) (aAd m o)
def aNf : LTab := [(180, 58, 11265, ⟨0, (Int) × (List Int) × Unit, .dat (.s 19) uq <| .row 6 uy <| .nil, [18, 17, 5, 4, 1], [6], 0⟩), (180, 59802, 21505, ⟨1, (Int) × (Int) × (List Int) × Unit, .dat (.s 26) uq <| .dat (.s 8) uX <| .row 6 uy <| .nil, [25, 24, 7, 6, 23, 22, 21, 20, 19, 18, 17, 5, 4, 1], [6], 0⟩)]
def aq5 (m : List Int) (o : List Int) (i : Int × List Int × Unit) (i1 : (Int) × (Int) × (List Int) × Unit) : TT (uZ ⊕ tx) :=
 .ite (decide (i1.1 < len o))
 (.need (inb i1.1 (len o)) <| .need (inb (w64 (i.1 + i1.1)) (↑(Int.toNat (w64 (len m + len o))) : Int)) <| .triv (asT Int 1000000000 ≠ 0) zf <| .need (inb (w64 (i.1 + i1.1)) (↑(Int.toNat (w64 (len m + len o))) : Int)) <| .triv (asT Int 1000000000 ≠ 0) zf <| .tt <| .lt (w64 (i1.1 + 1) : Int) fun z2 => .lt (abZ (Int.tdiv (abZ (i1.2.1 + abZ (abZ (List.getD i1.2.2.1 (0 + Int.toNat (w64 (i.1 + i1.1))) 0) + abZ (abZ (gi m i.1 0) * abZ (gi o i1.1 0))))) 1000000000) : Int) fun z3 => .lt (List.set i1.2.2.1 (0 + Int.toNat (w64 (i.1 + i1.1))) (aeU (Int.tmod (abZ (i1.2.1 + abZ (abZ (List.getD i1.2.2.1 (0 + Int.toNat (w64 (i.1 + i1.1))) 0) + abZ (abZ (gi m i.1 0) * abZ (gi o i1.1 0))))) 1000000000)) : List Int) fun z4 => .vW (ug z3 z2 (len o) o (gi m i.1 0) i.1 (gi m i.1 0) (gi m i.1 0) <| uc i.1 (decide (i.1 < len m)) i.1 (len m) m <| (ub 6 0 (Int.toNat (w64 (len m + len o))) true) ∧ True ∧ uf o) <| .vW (vV (ua 189 z4) True) <| .ok (.inl ((z2, z3, z4, ()))))
 (.need (inb (w64 (i.1 + len o)) (↑(Int.toNat (w64 (len m + len o))) : Int)) <| .tt <| .lt (w64 (i.1 + 1) : Int) fun z5 => .lt (List.set i1.2.2.1 (0 + Int.toNat (w64 (i.1 + len o))) (aeU i1.2.1) : List Int) fun z6 => .vW (uh z5 (len m) m <| (ub 6 0 (Int.toNat (w64 (len m + len o))) true) ∧ True ∧ uf o) <| .vW (vV (ua 189 z6) True) <| .ok (.inr (.inl ((z5, z6, ())))))
def aAa (m : List Int) (o : List Int) (i : (Int) × (List Int) × Unit) : TT tx :=
 .ite (decide (i.1 < len m))
 (.need (inb i.1 (len m)) <| .loop 1 (.tt <| .lt (i.2.1 : List Int) fun z1 => .vW (ug (0 : Int) (0 : Int) (len o) o (gi m i.1 0) i.1 (gi m i.1 0) (gi m i.1 0) <| uc i.1 (decide (i.1 < len m)) i.1 (len m) m <| (ub 6 0 (Int.toNat (w64 (len m + len o))) true) ∧ True ∧ uf o) <| .vW (vV (ua 189 z1) True) <| .ok ((0, 0, z1, ()))) (aq5 m o i))
 (.call (acZ (List.take (Int.toNat (w64 (len m + len o))) i.2.1, ())) Dd0 fun y =>
 .ok (.inr ((y.1, ()))))
def apI (m : List Int) (o : List Int) : TT uG :=
 .need (0 ≤ w64 (len m + len o) ∧ w64 (len m + len o) ≤ w64 (len m + len o) ∧ w64 (len m + len o) * (↑4 : Int) ≤ 140737488355328) <| .loop 0 (.tt <| .lt (List.replicate (Int.toNat (w64 (len m + len o))) 0 : List Int) fun z => .vW (uh (0 : Int) (len m) m <| (ub 6 0 (Int.toNat (w64 (len m + len o))) true) ∧ True ∧ uf o) <| .vW (vV (ua 189 z) True) <| .ok ((0, z, ()))) (aAa m o)
def aNh : LTab := [(208, 122, 11265, ⟨0, (Int) × (Int) × (List Int) × Unit, .dat (.s 8) uq <| .dat (.s 7) uX <| .row 4 uy <| .nil, [6, 5, 4, 0, 1], [4], 0⟩)]
def aq6 (m : List Int) (d : Int) (i : (Int) × (Int) × (List Int) × Unit) : TT (uZ ⊕ tZ) :=
 .ite (decide (i.1 ≥ 0))
 (.need (inb i.1 (len m)) <| .need (abZ d ≠ 0) <| .need (inb i.1 (↑(Int.toNat (len m)) : Int)) <| .need (abZ d ≠ 0) <| .tt <| .lt (w64 (i.1 - 1) : Int) fun z2 => .lt (Int.tmod (abZ (abZ (i.2.1 * 1000000000) + abZ (gi m i.1 0))) (abZ d) : Int) fun z3 => .lt (List.set i.2.2.1 (0 + Int.toNat i.1) (aeU (abZ (Int.tdiv (abZ (abZ (i.2.1 * 1000000000) + abZ (gi m i.1 0))) (abZ d)))) : List Int) fun z4 => .vW (ud z3 z2 <| (ub 4 0 (Int.toNat (len m)) true) ∧ (vX (0 : Int) <| True ∧ ui m d)) <| .vW (vV (ua 189 z4) True) <| .ok (.inl ((z2, z3, z4, ()))))
 (.call (acZ (List.take (Int.toNat (len m)) i.2.2.1, ())) Dd0 fun y =>
 .ok (.inr ((y.1, aeU i.2.1, ()))))
def apJ (m : List Int) (d : Int) : TT tZ :=
 .need (0 ≤ len m ∧ len m ≤ len m ∧ len m * (↑4 : Int) ≤ 140737488355328) <| .loop 0 (.tt <| .lt (w64 (len m - 1) : Int) fun z => .lt (List.replicate (Int.toNat (len m)) 0 : List Int) fun z1 => .vW (ud (0 : Int) z <| (ub 4 0 (Int.toNat (len m)) true) ∧ (vX (0 : Int) <| True ∧ ui m d)) <| .vW (vV (ua 189 z1) True) <| .ok ((z, 0, z1, ()))) (aq6 m d)
def aEz : LTab := [(176, 28, 2050, ⟨0, Bool × (List Int) × (Int) × Unit, .appN (.s 3) 2 189 uy <| .dat (.s 0) uX <| .nil, [2], [], 1⟩)]
def afD (v : Int) (i : Bool × (List Int) × (Int) × Unit) : TT ((Bool × (List Int) × (Int) × Unit) ⊕ uG) :=
 .ite (i.1)
 (.ite (decide (i.2.2.1 > 0))
 (.triv (asT Int 1000000000 ≠ 0) zf <| .need (1 * 4 ≤ 140737488355328) <| .triv (asT Int 1000000000 ≠ 0) zf <| .tt <| .lt ([aeU (Int.tmod i.2.2.1 1000000000)] : List Int) fun z => .lt (abZ (Int.tdiv i.2.2.1 1000000000) : Int) fun z1 => .vW (vX z1 <| (ub 2 0 1 true) ∧ True ∧ True) <| .vW (vV (ua 189 z) True) <| .ok (.inl ((false, z, z1, ()))))
 (.ok (.inr (([], ())))))
 (.ite (decide (i.2.2.1 > 0))
 (.triv (asT Int 1000000000 ≠ 0) zf <| .need ((List.length i.2.1 + 1) * 4 ≤ 140737488355328) <| .triv (asT Int 1000000000 ≠ 0) zf <| .tt <| .lt (List.take (List.length i.2.1) i.2.1 ++ [aeU (Int.tmod i.2.2.1 1000000000)] : List Int) fun z2 => .lt (abZ (Int.tdiv i.2.2.1 1000000000) : Int) fun z3 => .need (((z3 : Int) = z3) ∧ (((2) = (2)) ∧ (((0) = (0)) ∧ ((List.length i.2.1 + 1 = List.length z2) ∧ ((true) = (true))))) ∧ True ∧ True) <| .vW (vV (ua 189 z2) True) <| .ok (.inl ((false, z2, z3, ()))))
 (.ok (.inr ((List.take (List.length i.2.1) i.2.1, ())))))
def amG (v : Int) : TT uG :=
 .loop 0 (.tt <| .vW (vX v <| True ∧ True ∧ True) <| .tr <| .ok ((true, [], v, ()))) (afD v)
def aNq : LTab := [(174, 218, 5122, ⟨0, (Int) × Bool × (List Int) × Unit, .dat (.s 4) uq <| .appN (.s 3) 5 189 uy <| .nil, [2, 0], [], 1⟩), (174, 55834, 13314, ⟨1, (Int) × (Int) × Unit, .dat (.s 7) uq <| .dat (.s 6) uy <| .nil, [15, 5, 14, 13, 12, 3, 4, 2, 0], [], 0⟩), (174, 55834, 13313, ⟨2, (Int) × (Int) × Unit, .dat (.s 7) uq <| .dat (.s 6) uy <| .nil, [15, 5, 14, 13, 12, 3, 4, 2, 0], [5], 0⟩)]
def amF (digits : List UInt8) (i : Int × Bool × List Int × Unit) (i1 : (Int) × (Int) × Unit) : TT (uQ ⊕ (tb ⊕ uG)) :=
 .ite (decide (i1.1 < i.1))
 (.need (inb i1.1 (len digits)) <| .tt <| .lt (w64 (i1.1 + 1) : Int) fun z1 => .lt (aeU (aeU (i1.2.1 * 10) + aeU (wu8 ((↑(UInt8.toNat (gi digits i1.1 0)) : Int) - 48))) : Int) fun z2 => .vW (uj z2 z1 (if 0 > w64 (i.1 - 9) then 0 else w64 (i.1 - 9) : Int) (if 0 > w64 (i.1 - 9) then 0 else w64 (i.1 - 9) : Int) (if 0 > w64 (i.1 - 9) then 0 else w64 (i.1 - 9) : Int) (w64 (i.1 - 9)) i.1 <| True ∧ (vX i.1 <| True ∧ uf digits)) <| .tr <| .ok (.inl ((z1, z2, ()))))
 (.need (1 * 4 ≤ 140737488355328) <| .ite ((if 0 > w64 (i.1 - 9) then 0 else w64 (i.1 - 9)) == 0)
 (.call (acZ ([i1.2.1], ())) Dd0 fun y =>
 .ok (.inr (.inr ((y.1, ())))))
 (.tt <| .lt (w64 (i.1 - 9) : Int) fun z3 => .lt ([i1.2.1] : List Int) fun z4 => .vW (sy ∧ (vX z3 <| True ∧ uf digits)) <| .vW (vV (ua 189 z4) True) <| .ok (.inr (.inl ((z3, false, z4, ()))))))
def amE (digits : List UInt8) (i : Int × Bool × List Int × Unit) (i2 : (Int) × (Int) × Unit) : TT (uQ ⊕ (tb ⊕ uG)) :=
 .ite (decide (i2.1 < i.1))
 (.need (inb i2.1 (len digits)) <| .tt <| .lt (w64 (i2.1 + 1) : Int) fun z6 => .lt (aeU (aeU (i2.2.1 * 10) + aeU (wu8 ((↑(UInt8.toNat (gi digits i2.1 0)) : Int) - 48))) : Int) fun z7 => .vW (uj z7 z6 (if 0 > w64 (i.1 - 9) then 0 else w64 (i.1 - 9) : Int) (if 0 > w64 (i.1 - 9) then 0 else w64 (i.1 - 9) : Int) (if 0 > w64 (i.1 - 9) then 0 else w64 (i.1 - 9) : Int) (w64 (i.1 - 9)) i.1 <| (ub 5 0 (List.length i.2.2.1) true) ∧ (vX i.1 <| True ∧ uf digits)) <| .vW (vV (ua 189 i.2.2.1) True) <| .ok (.inl ((z6, z7, ()))))
 (.need ((List.length i.2.2.1 + 1) * 4 ≤ 140737488355328) <| .ite ((if 0 > w64 (i.1 - 9) then 0 else w64 (i.1 - 9)) == 0)
 (.call (acZ (List.take (List.length i.2.2.1 + 1) (List.take (List.length i.2.2.1) i.2.2.1 ++ [i2.2.1]), ())) Dd0 fun y1 =>
 .ok (.inr (.inr ((y1.1, ())))))
 (.tt <| .lt (w64 (i.1 - 9) : Int) fun z8 => .lt (List.take (List.length i.2.2.1) i.2.2.1 ++ [i2.2.1] : List Int) fun z9 => .need ((((5) = (5)) ∧ (((0) = (0)) ∧ ((List.length i.2.2.1 + 1 = List.length z9) ∧ ((true) = (true))))) ∧ ((z8 : Int) = z8) ∧ True ∧ ((digits) = (digits)) ∧ True) <| .vW (vV (ua 189 z9) True) <| .ok (.inr (.inl ((z8, false, z9, ()))))))
def aq9 (digits : List UInt8) (i : (Int) × Bool × (List Int) × Unit) : TT (tb ⊕ uG) :=
 .ite (i.2.1)
 (.loop 1 (.tt <| .lt (if 0 > w64 (i.1 - 9) then 0 else w64 (i.1 - 9) : Int) fun z => .vW (uj (0 : Int) z z z z (w64 (i.1 - 9)) i.1 <| True ∧ (vX i.1 <| True ∧ uf digits)) <| .tr <| .ok ((z, 0, ()))) (amF digits i))
 (.loop 2 (.tt <| .lt (if 0 > w64 (i.1 - 9) then 0 else w64 (i.1 - 9) : Int) fun z5 => .vW (uj (0 : Int) z5 z5 z5 z5 (w64 (i.1 - 9)) i.1 <| (ub 5 0 (List.length i.2.2.1) true) ∧ (vX i.1 <| True ∧ uf digits)) <| .vW (vV (ua 189 i.2.2.1) True) <| .ok ((z5, 0, ()))) (amE digits i))
def avH (digits : List UInt8) : TT uG :=
 .loop 0 (.tt <| .vW (True ∧ (vX (len digits) <| True ∧ uf digits)) <| .tr <| .ok ((len digits, true, [], ()))) (aq9 digits)
def aJy : LTab := []
def amB (m : List Int) : TT uS :=
 .call (adW (m, ())) Dd1 fun y =>
 .ite (y.1)
 (.ok ((1, ())))
 (.need (inb (w64 (len m - 1)) (len m)) <| .call (aDf (w64 (gi m (w64 (len m - 1)) 0), ())) Dd2 fun y1 =>
 .ok ((w64 (w64 (w64 (len m - 1) * 9) + len y1.1), ())))
def aTg : LTab := [(140, 12, 1025, ⟨0, (List Int) × (List Int) × Unit, .dat (.s 0) tj <| .dat (.s 1) tj <| .nil, [], [], 0⟩), (140, 196, 4096, ⟨1, (Bool) × Unit, .dat (.s 19) se <| .nil, [1, 0], [], 0⟩), (140, 6292, 10240, ⟨2, (Int) × (Int) × Unit, .dat (.s 6) uX <| .dat (.s 5) uX <| .nil, [23, 22, 21, 20, 19, 1, 0], [], 0⟩)]
def aG5 (m : List Int) (o : List Int) (i : List Int × List Int × Unit) (y : Bool × Unit) (j : Bool × Unit) (y1 : Int × Unit) (y2 : Int × Unit) (i1 : (Int) × (Int) × Unit) : TT (uQ ⊕ (tH ⊕ uG)) :=
 .ite (decide (i1.1 > 0))
 (.need (i1.1 ≠ 0) <| .tt <| .lt (Int.tmod i1.2.1 i1.1 : Int) fun z1 => .vW (ug i1.1 z1 y2.1 i.2.1 y1.1 i.1 j.1 i.2.1 <| uf i.1) <| .tr <| .ok (.inl ((z1, i1.1, ()))))
 (.call (abY (i1.2.1, ())) Dd0 fun y3 =>
 .ok (.inr (.inr ((y3.1, ())))))
def aAe (m : List Int) (o : List Int) (i : List Int × List Int × Unit) (y : Bool × Unit) (j : (Bool) × Unit) : TT (tH ⊕ uG) :=
 .ite (j.1)
 (.call (apZ (i.1, ())) Dd3 fun y1 =>
 .call (apZ (i.2.1, ())) Dd3 fun y2 =>
 .loop 2 (.tt <| .vW (ug y1.1 y2.1 y2.1 i.2.1 y1.1 i.1 j.1 i.2.1 <| uf i.1) <| .tr <| .ok ((y2.1, y1.1, ()))) (aG5 m o i y j y1 y2))
 (.call (abI (i.1, i.2.1, ())) Dd4 fun y4 =>
 .tt <| .lt (i.2.1 : List Int) fun z2 => .lt (y4.2.1 : List Int) fun z3 => .vW (ui z3 z2) <| .tr <| .ok (.inl ((z2, z3, ()))))
def aG6 (m : List Int) (o : List Int) (i : (List Int) × (List Int) × Unit) : TT (tH ⊕ uG) :=
 .call (adW (i.2.1, ())) Dd1 fun y =>
 .ite (!y.1)
 (.join 1 (ι := (Bool) × Unit) (.ite (decide (len i.1 ≤ 2))
 (.tt <| .lt (decide (len i.2.1 ≤ 2) : Bool) fun z => .vW (vZ z i.2.1 i.1) <| .tr <| .ok (.inl ((z, ()))))
 (.tt <| .vW (vZ false i.2.1 i.1) <| .tr <| .ok (.inl ((false, ()))))) (aAe m o i y))
 (.ok (.inr ((i.1, ()))))
def aEs (m : List Int) (o : List Int) : TT uG :=
 .loop 0 (.tt <| .vW (ui o m) <| .tr <| .ok ((m, o, ()))) (aG6 m o)
end
open Go Go.Vg
theorem az7 (m : List Int) (y) (h : adW (m, ()) = some y) : (asI m).toO = some y := by
 simpa [adW, asI, TT.toO] using h
theorem az9 (m : List Int) (y) (h : acZ (m, ()) = some y) : (az8 m).toO = some y := by
 unfold acZ at h
 split at h
 ·rename_i hp
  obtain ⟨hd, hl⟩ := hp
  simp only at hd hl
  injection h with h
  subst h
  refine uO (m, ()) rfl ?_
  refine aaK (fun i => Dg 1000000000 i.1 ∧ i.1.length ≤ 2000000000000 ∧ V 1000000000 i.1 = V 1000000000 m) (fun i => i.1.length) (fun _ => (mag (V 1000000000 m).toNat, ())) ?_ _ ⟨hd, hl, rfl⟩
  rintro ⟨l, u⟩ ⟨h1, h2, h3⟩
  simp only at h1 h2 h3
  have hfin : Cn l → l = mag (V 1000000000 m).toNat := fun hc => asE h1 hc (by rw [h3]; have := aaT zc hd; omega)
  unfold aCQ
  by_cases hz : l = []
  ·subst hz
   right
   repeat refine za ?_
   rw [← hfin axA]; rfl
  ·have hlen : 0 < l.length := yb.2 hz
   have hw : w64 (len l - 1) = ((l.length - 1 : Nat) : Int) := by rw [aaB]; simp (disch := omega) only [aaA]; omega
   have hg : gi l ((l.length - 1 : Nat) : Int) 0 = l[l.length - 1] := aWe rfl zc
   simp only [hw, hg]
   by_cases h0 : l[l.length - 1] = 0
   ·left
    refine ⟨(l.take (l.length - 1), ()), ?_, ⟨acO h1 _, ?_, ?_⟩, ?_, trivial⟩
    ·repeat refine za ?_
     rfl
    ·simp; omega
    ·have := amR 1000000000 (l := l) (i := l.length - 1) zc
     rw [h0, show l.length - 1 + 1 = l.length by omega, zt] at this
     rw [← h3, this]; simp
    ·simp; omega
   ·right
    repeat refine za ?_
    rw [← hfin (by unfold Cn; rw [yT, zS zc]; simpa using h0)]; rfl
 ·cases h
theorem aG4 (m : List Int) (y) (h : apZ (m, ()) = some y) : (aCR m).toO = some y := by
 obtain ⟨n, hn, hx, rfl⟩ := aaC h
 injection hx with hx
 subst hx
 have hl : (mag n).length ≤ 2 := mag_length_le_iff.2 zc
 have hd := ahY n
 have hV := aoK n
 refine uO (((mag n).length : Int) - 1, 0, ()) ?_ ?_
 ·repeat refine za ?_
  show some (w64 ((mag n).length - 1), (0 : Int), ()) = _
  rw [aaA (x := ((mag n).length : Int) - 1) zc]
 refine aaK (fun i => ∃ k : Nat, k ≤ (mag n).length ∧ i.1 = (k : Int) - 1 ∧ i.2.1 = V 1000000000 ((mag n).drop k)) (fun i => (i.1 + 1).toNat) (fun _ => ((n : Int), ())) ?_ _ ⟨_, zq _, rfl, by simp [V]⟩
 rintro ⟨i, v, u⟩ ⟨k, h1, h2, h3⟩
 simp only at h2 h3
 subst h2 h3
 unfold aAb
 rcases zC k with h0 | h0
 ·subst h0
  right
  repeat refine za ?_
  simp only [yK, hV]
  rfl
 ·left
  obtain ⟨j, rfl⟩ : ∃ j, k = j + 1 := ⟨k - 1, by omega⟩
  have e1 := aaU 1000000000 (mag n) j
  have e2 := aa5 zc hd j
  have e3 := aaT zc (acP hd j)
  have e4 := aaT zc (acP hd (j + 1))
  have e5 := aHI zc hd j
  have e6 : ((j + 1 : Nat) : Int) - 1 = (j : Int) := zc
  rw [e6]
  refine ⟨((j : Int) - 1, V 1000000000 ((mag n).drop j), ()), ?_, ⟨j, by omega, rfl, rfl⟩, by simp only; omega, rfl⟩
  repeat refine za ?_
  simp only [aaL]
  rw [aaA (x := (j : Int) - 1) zc, aaP (x := V 1000000000 ((mag n).drop (j + 1)) * 1000000000) zc, aaP (x := (mag n).getD j 0) zc, aaP zc, e1, aaI]
  rw [Int.add_comm, yM]
theorem aqC (m o : List Int) (y) (h : aeM (m, o, ()) = some y) : (ajM m o).toO = some y := by
 obtain ⟨⟨a, b⟩, hn, hx, rfl⟩ := aaC h
 obtain ⟨rfl, hx2⟩ := Prod.mk.inj hx
 obtain ⟨rfl, -⟩ := Prod.mk.inj hx2
 dsimp only
 obtain ⟨l1, l2⟩ := hn
 simp only at l1 l2
 unfold ajM
 have hda := ahY a
 have hdb := ahY b
 have hVa := aoK a
 have hVb := aoK b
 rcases Nat.lt_trichotomy (mag a).length (mag b).length with hl | hl | hl
 ·have := aqF hl
  repeat refine za ?_
  simp only [aaI, aw3]
  rw [if_pos (show (a : Int) < b by omega)]
 ·refine uF sd ?_
  refine uO (((mag a).length : Int) - 1, ()) ?_ ?_
  ·repeat refine za ?_
   show some (w64 ((mag a).length - 1), ()) = _
   rw [aaA (x := ((mag a).length : Int) - 1) zc]
  refine aaK (fun i => ∃ k : Nat, k ≤ (mag a).length ∧ i.1 = (k : Int) - 1 ∧ V 1000000000 ((mag a).drop k) = V 1000000000 ((mag b).drop k)) (fun i => (i.1 + 1).toNat) (fun _ => (aw3 a b, ())) ?_ _ ⟨_, zq _, rfl, by rw [acY _ (zq _), acY _ zc]⟩
  rintro ⟨i, u⟩ ⟨k, h1, h2, h3⟩
  simp only at h2 h3
  subst h2
  unfold asM
  rcases zC k with h0 | h0
  ·subst h0
   right
   repeat refine za ?_
   simp only [yK, hVa, hVb] at h3
   simp only [aaI, aw3]
   rw [if_neg zc, if_pos h3]
  ·obtain ⟨j, rfl⟩ : ∃ j, k = j + 1 := ⟨k - 1, by omega⟩
   have e6 : ((j + 1 : Nat) : Int) - 1 = (j : Int) := zc
   simp only [e6, aaL]
   have a1 := acQ 1000000000 (mag a) j
   have b1 := acQ 1000000000 (mag b) j
   have a2 := aaU 1000000000 (mag a) j
   have b2 := aaU 1000000000 (mag b) j
   have a3 := adV zc hda j
   have b3 := adV zc hdb j
   have a4 := aaT zc (acO hda j)
   have b4 := aaT zc (acO hdb j)
   have hp : (1 : Int) ≤ 1000000000 ^ j := aD3 zc j
   rcases xn ((mag a).getD j 0) ((mag b).getD j 0) with hc | hc | hc
   ·right
    repeat refine za ?_
    have h5 : (1000000000 : Int) ^ j * (V 1000000000 ((mag a).drop j) + 1) ≤ 1000000000 ^ j * V 1000000000 ((mag b).drop j) := zD zc zc
    rw [wz] at h5
    simp only [aaI, aw3]
    rw [if_pos (show (a : Int) < b by omega)]
   ·left
    refine ⟨((j : Int) - 1, ()), ?_, ⟨j, by omega, rfl, by omega⟩, by simp only; omega, trivial⟩
    repeat refine za ?_
    rw [aaA (x := (j : Int) - 1) zc]; rfl
   ·right
    repeat refine za ?_
    have h5 : (1000000000 : Int) ^ j * (V 1000000000 ((mag b).drop j) + 1) ≤ 1000000000 ^ j * V 1000000000 ((mag a).drop j) := zD zc zc
    rw [wz] at h5
    simp only [aaI, aw3]
    rw [if_neg (show ¬ (a : Int) < b by omega), if_neg (show ¬ (a : Int) = b by omega)]
 ·have := aqF hl
  repeat refine za ?_
  simp only [aaI, aw3]
  rw [if_neg (show ¬ (a : Int) < b by omega), if_neg (show ¬ (a : Int) = b by omega)]
theorem aqB (m o : List Int) (a b : Nat) (la : (mag a).length ≤ 1000000000000) (hl : (mag b).length ≤ (mag a).length) : (avE m o (mag a, mag b, ())).toO = some (mag (a + b), ()) := by
 have hda := ahY a
 have hdb := ahY b
 have hVa := aoK a
 have hVb := aoK b
 unfold avE
 dsimp only
 refine uN ?_ ?_
 ·(try simp only [aaB, inb, inc, ge_iff_le, gt_iff_lt, zp, asT, ne_eq])
  simp (disch := omega) only [aaA, aaP, aa1, abU, aaL, zv, zp, aaB]
  omega
 refine uO (0, 0, [], ()) rfl ?_
 refine aaK (fun i => ∃ k : Nat, k ≤ (mag a).length ∧ i.1 = (k : Int) ∧ 0 ≤ i.2.1 ∧ i.2.1 ≤ 1 ∧ i.2.2.1.length = k ∧ Dg 1000000000 i.2.2.1 ∧ V 1000000000 i.2.2.1 + 1000000000 ^ k * i.2.1 = V 1000000000 ((mag a).take k) + V 1000000000 ((mag b).take k)) (fun i => (((mag a).length : Int) - i.1).toNat) (fun _ => (mag (a + b), ())) ?_ _ ⟨0, ye _, rfl, by simp, by simp, rfl, aw9 _, by simp [V]⟩
 rintro ⟨i, c, s, u⟩ ⟨k, h1, h2, h3, h4, h5, h6, h7⟩
 simp only at h2 h3 h4 h5 h6 h7
 subst h2
 simp only [aCS, aaL]
 have ea := aa7 1000000000 (mag a) k
 have eb := aa7 1000000000 (mag b) k
 have da := aa5 zc hda k
 have db := aa5 zc hdb k
 rcases zr k (mag a).length with hk | hk
 ·left
  have key : ∀ x c' : Int, 0 ≤ x ∧ x < 1000000000 → x + 1000000000 * c' = (mag a).getD k 0 + (mag b).getD k 0 + c → V 1000000000 (s ++ [x]) + 1000000000 ^ (k + 1) * c' = V 1000000000 ((mag a).take (k + 1)) + V 1000000000 ((mag b).take (k + 1)) := by
   intro x c' _ hx
   rw [aeY, aBO, h5, ea, eb, zX]
   have : (1000000000 : Int) ^ k * (x + 1000000000 * c') = 1000000000 ^ k * ((mag a).getD k 0 + (mag b).getD k 0 + c) := by rw [hx]
   grind
  have fin : ∀ x c' : Int, 0 ≤ x ∧ x < 1000000000 → 0 ≤ c' ∧ c' ≤ 1 → x + 1000000000 * c' = (mag a).getD k 0 + (mag b).getD k 0 + c → (∃ k_1 : Nat, k_1 ≤ (mag a).length ∧ ((k + 1 : Nat) : Int) = (k_1 : Int) ∧ 0 ≤ c' ∧ c' ≤ 1 ∧ (s ++ [x]).length = k_1 ∧ Dg 1000000000 (s ++ [x]) ∧ V 1000000000 (s ++ [x]) + 1000000000 ^ k_1 * c' = V 1000000000 ((mag a).take k_1) + V 1000000000 ((mag b).take k_1)) ∧ (((mag a).length : Int) - ((k + 1 : Nat) : Int)).toNat < (((mag a).length : Int) - (k : Int)).toNat :=
   fun x c' hx hc he => ⟨⟨k + 1, by omega, rfl, hc.1, hc.2, by simp; omega, afH h6 (ao0 hx.1 hx.2), key x c' hx he⟩, by omega⟩
  rcases zr k (mag b).length with hkb | hkb
  ·rcases zQ ((mag a).getD k 0 + c + (mag b).getD k 0) 1000000000 with hc | hc
   ·obtain ⟨g1, g2⟩ := fin ((mag a).getD k 0 + c + (mag b).getD k 0) 0 zc zc zc
    refine ⟨(((k + 1 : Nat) : Int), 0, s ++ [(mag a).getD k 0 + c + (mag b).getD k 0], ()), ?_, g1, g2, trivial⟩
    repeat refine za ?_
    simp (disch := omega) only [aaI, aaA, aaP, aa1, abU, aaL, zv, zp, aaB, zt]
    rfl
   ·obtain ⟨g1, g2⟩ := fin ((mag a).getD k 0 + c + (mag b).getD k 0 - 1000000000) 1 zc zc zc
    refine ⟨(((k + 1 : Nat) : Int), 1, s ++ [(mag a).getD k 0 + c + (mag b).getD k 0 - 1000000000], ()), ?_, g1, g2, trivial⟩
    repeat refine za ?_
    simp (disch := omega) only [aaI, aaA, aaP, aa1, abU, aaL, zv, zp, aaB, zt]
    rfl
  ·have hz : (mag b).getD k 0 = 0 := aiS hkb 0
   rcases zQ ((mag a).getD k 0 + c) 1000000000 with hc | hc
   ·obtain ⟨g1, g2⟩ := fin ((mag a).getD k 0 + c) 0 zc zc zc
    refine ⟨(((k + 1 : Nat) : Int), 0, s ++ [(mag a).getD k 0 + c], ()), ?_, g1, g2, trivial⟩
    repeat refine za ?_
    simp (disch := omega) only [aaI, aaA, aaP, aa1, abU, aaL, zv, zp, aaB, zt]
    rfl
   ·obtain ⟨g1, g2⟩ := fin ((mag a).getD k 0 + c - 1000000000) 1 zc zc zc
    refine ⟨(((k + 1 : Nat) : Int), 1, s ++ [(mag a).getD k 0 + c - 1000000000], ()), ?_, g1, g2, trivial⟩
    repeat refine za ?_
    simp (disch := omega) only [aaI, aaA, aaP, aa1, abU, aaL, zv, zp, aaB, zt]
    rfl
 ·right
  have hkk : k = (mag a).length := zc
  rw [hkk, abO _ (zq _), abO _ hl, hVa, hVb] at h7
  rcases zQ 0 c with hc | hc
  ·have hc1 : c = 1 := zc
   subst hc1
   repeat refine za ?_
   simp (disch := omega) only [aaI, aaA, aaP, aa1, abU, aaL, zv, zp, aaB, zt]
   rw [zy zi]
   rw [asE (l := s ++ [1]) (n := a + b) (afH h6 (ao0 zc zc)) (by simp [Cn]) (by rw [aeY, aBO, h5, hkk]; omega)]
  ·have hc1 : c = 0 := zc
   subst hc1
   repeat refine za ?_
   simp (disch := omega) only [aaI, aaA, aaP, aa1, abU, aaL, zv, zp, aaB, zt]
   rw [asE (l := s) (n := a + b) h6 (aLC zc h6 ?_) zc]
   rcases zC a with ha | ha
   ·left
    subst ha
    rw [mag_zero] at hkk
    exact zV.1 (by rw [h5, hkk]; rfl)
   ·right
    have := azG (B := 1000000000) zc (n := a) zc
    have h8 : (1000000000 : Int) ^ ((mag a).length - 1) ≤ a := by
     have : ((1000000000 ^ ((mag a).length - 1) : Nat) : Int) ≤ (a : Int) := wO.2 this
     simpa using this
    rw [h5, hkk]
    omega
theorem aAc (m o : List Int) (y) (h : aoS (m, o, ()) = some y) : (asJ m o).toO = some y := by
 obtain ⟨⟨a, b⟩, hn, hx, rfl⟩ := aaC h
 obtain ⟨rfl, hx2⟩ := Prod.mk.inj hx; obtain ⟨rfl, -⟩ := Prod.mk.inj hx2; dsimp only
 obtain ⟨l1, l2⟩ := hn
 simp only at l1 l2
 unfold asJ
 rcases zr (mag a).length (mag b).length with hl | hl
 ·refine uL (mag b, mag a, ()) ?_ ?_
  ·repeat refine za ?_
   rfl
  ·rw [xe]
   exact aqB _ _ b a l2 zc
 ·refine uL (mag a, mag b, ()) ?_ ?_
  ·repeat refine za ?_
   rfl
  ·exact aqB _ _ a b l1 hl
theorem ayD {l : List Int} (h : Dg 1000000000 l) (hl : l.length ≤ 2000000000000) {n : Nat} (hv : V 1000000000 l = n) : acZ (l, ()) = some (mag n, ()) := by
 unfold acZ
 rw [if_pos ⟨h, hl⟩]
 simp only [hv, zp]
theorem awW (m o : List Int) (y) (h : alH (m, o, ()) = some y) : (apK m o).toO = some y := by
 obtain ⟨⟨a, b⟩, hn, hx, rfl⟩ := aaC h
 obtain ⟨rfl, hx2⟩ := Prod.mk.inj hx; obtain ⟨rfl, -⟩ := Prod.mk.inj hx2; dsimp only
 obtain ⟨la, hba⟩ := hn
 simp only at la hba
 have hda := ahY a
 have hdb := ahY b
 have hVa := aoK a
 have hVb := aoK b
 have hl := ab1 hba
 unfold apK
 refine uN sn ?_
 refine uO (0, 0, List.replicate (mag a).length 0, ()) ?_ ?_
 ·repeat refine za ?_
  simp (disch := omega) only [aaI, aaA, aaP, aa1, abU, aaL, zv, zp, aaB, zt]
 refine aaK (fun i => ∃ k : Nat, k ≤ (mag a).length ∧ i.1 = (k : Int) ∧ 0 ≤ i.2.1 ∧ i.2.1 ≤ 1 ∧ i.2.2.1.length = (mag a).length ∧ Dg 1000000000 i.2.2.1 ∧ V 1000000000 (i.2.2.1.take k) = V 1000000000 ((mag a).take k) - V 1000000000 ((mag b).take k) + 1000000000 ^ k * i.2.1) (fun i => (((mag a).length : Int) - i.1).toNat) (fun _ => (mag (a - b), ())) ?_ _ ⟨0, ye _, rfl, by simp, by simp, by simp, ahF zc _, by simp [V]⟩
 rintro ⟨i, c, s, u⟩ ⟨k, h1, h2, h3, h4, h5, h6, h7⟩
 simp only at h2 h3 h4 h5 h6 h7
 subst h2
 simp only [aAd, aaL]
 have ea := aa7 1000000000 (mag a) k
 have eb := aa7 1000000000 (mag b) k
 have da := aa5 zc hda k
 have db := aa5 zc hdb k
 rcases zr k (mag a).length with hk | hk
 ·left
  have fin : ∀ x c' : Int, 0 ≤ x ∧ x < 1000000000 → 0 ≤ c' ∧ c' ≤ 1 → x = (mag a).getD k 0 - (mag b).getD k 0 - c + 1000000000 * c' → (∃ k_1 : Nat, k_1 ≤ (mag a).length ∧ ((k + 1 : Nat) : Int) = (k_1 : Int) ∧ 0 ≤ c' ∧ c' ≤ 1 ∧ (s.set k x).length = (mag a).length ∧ Dg 1000000000 (s.set k x) ∧ V 1000000000 ((s.set k x).take k_1) = V 1000000000 ((mag a).take k_1) - V 1000000000 ((mag b).take k_1) + 1000000000 ^ k_1 * c') ∧ (((mag a).length : Int) - ((k + 1 : Nat) : Int)).toNat < (((mag a).length : Int) - (k : Int)).toNat := by
   intro x c' hx hc he
   refine ⟨⟨k + 1, by omega, rfl, hc.1, hc.2, by simp; omega, aj4 h6 hx _, ?_⟩, by omega⟩
   rw [aN0 _ zc, h7, ea, eb, zX, he]
   grind
  rcases zr k (mag b).length with hkb | hkb
  ·rcases zQ ((mag a).getD k 0) (c + (mag b).getD k 0) with hc | hc
   ·obtain ⟨g1, g2⟩ := fin ((mag a).getD k 0 + 1000000000 - (c + (mag b).getD k 0)) 1 zc zc zc
    refine ⟨(((k + 1 : Nat) : Int), 1, s.set k ((mag a).getD k 0 + 1000000000 - (c + (mag b).getD k 0)), ()), ?_, g1, g2, trivial⟩
    repeat refine za ?_
    simp (disch := omega) only [aaI, aaA, aaP, aa1, abU, aaL, zv, zp, aaB, zt]
    rfl
   ·obtain ⟨g1, g2⟩ := fin ((mag a).getD k 0 - (c + (mag b).getD k 0)) 0 zc zc zc
    refine ⟨(((k + 1 : Nat) : Int), 0, s.set k ((mag a).getD k 0 - (c + (mag b).getD k 0)), ()), ?_, g1, g2, trivial⟩
    repeat refine za ?_
    simp (disch := omega) only [aaI, aaA, aaP, aa1, abU, aaL, zv, zp, aaB, zt]
    rfl
  ·have hz : (mag b).getD k 0 = 0 := aiS hkb 0
   rcases zQ ((mag a).getD k 0) c with hc | hc
   ·obtain ⟨g1, g2⟩ := fin ((mag a).getD k 0 + 1000000000 - c) 1 zc zc zc
    refine ⟨(((k + 1 : Nat) : Int), 1, s.set k ((mag a).getD k 0 + 1000000000 - c), ()), ?_, g1, g2, trivial⟩
    repeat refine za ?_
    simp (disch := omega) only [aaI, aaA, aaP, aa1, abU, aaL, zv, zp, aaB, zt]
    rfl
   ·obtain ⟨g1, g2⟩ := fin ((mag a).getD k 0 - c) 0 zc zc zc
    refine ⟨(((k + 1 : Nat) : Int), 0, s.set k ((mag a).getD k 0 - c), ()), ?_, g1, g2, trivial⟩
    repeat refine za ?_
    simp (disch := omega) only [aaI, aaA, aaP, aa1, abU, aaL, zv, zp, aaB, zt]
    rfl
 ·right
  have hkk : k = (mag a).length := zc
  rw [hkk, abO _ zc, abO _ (zq _), abO _ hl, hVa, hVb] at h7
  have hlt := aN1 zc h6
  rw [h5] at hlt
  have hc : c = 0 := by
   rcases zQ 0 c with hc | hc
   ·have hc1 : c = 1 := zc
    subst hc1
    omega
   ·omega
  subst hc
  refine uF sd ?_
  refine uC (mag (a - b), ()) ?_ ?_
  ·rw [zy (by simp [len]; omega)]
   exact ayD h6 zc zc
  ·rfl
theorem aP8 {a b B : Int} (ha : 0 ≤ a ∧ a < B) (hb : 0 ≤ b ∧ b < B) : 0 ≤ a * b ∧ a * b ≤ (B - 1) * (B - 1) := by
 refine ⟨yh ha.1 hb.1, ?_⟩
 have h1 : a * b ≤ a * (B - 1) := zD zc ha.1
 have h2 : a * (B - 1) ≤ (B - 1) * (B - 1) := zE zc zc
 omega
theorem aRB (Vs P c A K x T X Y d e Q B : Int) (h : Vs + P * c = A + K * (x * T)) (h2 : X + B * Y = c + (d + x * e)) (hP : P = K * Q) : Vs + P * (X - d) + P * B * Y = A + K * (x * (T + Q * e)) := by
 subst hP
 have h3 : K * Q * (X + B * Y) = K * Q * (c + (d + x * e)) := by rw [h2]
 grind
theorem awU (m o : List Int) (y) (h : acU (m, o, ()) = some y) : (apI m o).toO = some y := by
 obtain ⟨⟨a, b⟩, hn, hx, rfl⟩ := aaC h
 obtain ⟨rfl, hx2⟩ := Prod.mk.inj hx; obtain ⟨rfl, -⟩ := Prod.mk.inj hx2; dsimp only
 obtain ⟨la, lb⟩ := hn
 simp only at la lb
 have hda := ahY a
 have hdb := ahY b
 have hVa := aoK a
 have hVb := aoK b
 have hw : w64 (len (mag a) + len (mag b)) = (((mag a).length + (mag b).length : Nat) : Int) := by
  simp only [aaB]; rw [aaA (x := ((mag a).length : Int) + (mag b).length) zc]; omega
 unfold apI
 simp only [hw]
 refine uN zc ?_
 refine uO (0, List.replicate ((mag a).length + (mag b).length) 0, ()) ?_ ?_
 ·repeat refine za ?_
  simp (disch := omega) only [aaI, aaA, aaP, aa1, abU, aaL, zv, zp, aaB, zt]
 have hBb : V 1000000000 (mag b) < 1000000000 ^ (mag b).length := aN1 zc hdb
 refine aaK (fun i => ∃ k : Nat, k ≤ (mag a).length ∧ i.1 = (k : Int) ∧ i.2.1.length = (mag a).length + (mag b).length ∧ Dg 1000000000 i.2.1 ∧ V 1000000000 i.2.1 = V 1000000000 ((mag a).take k) * b) (fun i => (((mag a).length : Int) - i.1).toNat) (fun _ => (mag (a * b), ())) ?_ _ ⟨0, ye _, rfl, by simp, ahF zc _, by simp [V, avV]⟩
 rintro ⟨i, s, u⟩ ⟨k, h1, h2, h3, h4, h5⟩
 simp only at h2 h3 h4 h5
 subst h2
 simp only [aAa, aaL, hw]
 have ea := aa7 1000000000 (mag a) k
 have da := aa5 zc hda k
 rcases zr k (mag a).length with hk | hk
 ·left
  have hs : V 1000000000 s < 1000000000 ^ (k + (mag b).length) := by
   rw [h5, wA]
   have e1 := adV zc hda k
   have e2 := aaT zc (acO hda k)
   rw [hVb] at hBb
   have e3 : V 1000000000 ((mag a).take k) * b ≤ V 1000000000 ((mag a).take k) * 1000000000 ^ (mag b).length := zD zc e2
   have e4 : V 1000000000 ((mag a).take k) * 1000000000 ^ (mag b).length < 1000000000 ^ k * 1000000000 ^ (mag b).length := Int.mul_lt_mul_of_pos_right e1 (yJ zc)
   omega
  have hz := an5 zc h4 hs
  -- the inner loop
  obtain ⟨r, hin, s', rfl, q1, q2, q3⟩ : ∃ r : ((Int × List Int × Unit) ⊕ (List Int × Unit)), adK (fun i1 => (aq5 (mag a) (mag b) ((k : Int), s, ()) i1).toO) (0, 0, s, ()) = some r ∧ ∃ s', r = Sum.inl (((k + 1 : Nat) : Int), s', ()) ∧ s'.length = (mag a).length + (mag b).length ∧ Dg 1000000000 s' ∧ V 1000000000 s' = V 1000000000 ((mag a).take (k + 1)) * b := by
   refine ac8 (fun j => ∃ q : Nat, q ≤ (mag b).length ∧ j.1 = (q : Int) ∧ 0 ≤ j.2.1 ∧ j.2.1 < 1000000000 ∧ j.2.2.1.length = (mag a).length + (mag b).length ∧ Dg 1000000000 j.2.2.1 ∧ (∀ t, k + (mag b).length ≤ t → j.2.2.1.getD t 0 = 0) ∧ V 1000000000 j.2.2.1 + 1000000000 ^ (k + q) * j.2.1 = V 1000000000 ((mag a).take k) * b + 1000000000 ^ k * ((mag a).getD k 0 * V 1000000000 ((mag b).take q))) (fun j => (((mag b).length : Int) - j.1).toNat) _ ?_ _ ⟨0, ye _, rfl, by simp, by simp, h3, h4, hz, by simp [V, h5]⟩
   rintro ⟨j, c, s1, u1⟩ ⟨q, g1, g2, g3, g4, g5, g6, g7, g8⟩
   simp only at g2 g3 g4 g5 g6 g7 g8
   subst g2
   have hkq : w64 ((k : Int) + q) = ((k + q : Nat) : Int) := by rw [aaA (x := (k : Int) + q) zc]; omega
   have hkl : w64 ((k : Int) + len (mag b)) = ((k + (mag b).length : Nat) : Int) := by rw [aaB, aaA (x := (k : Int) + ((mag b).length : Int)) zc]; omega
   simp only [aq5, aaL, hw, hkq, hkl, zp, zv]
   have eb := aa7 1000000000 (mag b) q
   have db := aa5 zc hdb q
   have ds := aa5 zc g6 (k + q)
   have hm := aP8 da db
   rcases zr q (mag b).length with hq | hq
   ·left
    have hsum : 0 ≤ c + (s1.getD (k + q) 0 + (mag a).getD k 0 * (mag b).getD q 0) := zc
    have e1 := yk (c + (s1.getD (k + q) 0 + (mag a).getD k 0 * (mag b).getD q 0)) 1000000000
    have e2 : 0 ≤ (c + (s1.getD (k + q) 0 + (mag a).getD k 0 * (mag b).getD q 0)) % 1000000000 ∧ (c + (s1.getD (k + q) 0 + (mag a).getD k 0 * (mag b).getD q 0)) % 1000000000 < 1000000000 := zc
    have e3 : 0 ≤ (c + (s1.getD (k + q) 0 + (mag a).getD k 0 * (mag b).getD q 0)) / 1000000000 ∧ (c + (s1.getD (k + q) 0 + (mag a).getD k 0 * (mag b).getD q 0)) / 1000000000 < 1000000000 := zc
    refine ⟨(((q + 1 : Nat) : Int), (c + (s1.getD (k + q) 0 + (mag a).getD k 0 * (mag b).getD q 0)) / 1000000000, s1.set (k + q) ((c + (s1.getD (k + q) 0 + (mag a).getD k 0 * (mag b).getD q 0)) % 1000000000), ()), ?_, ⟨q + 1, by omega, rfl, e3.1, e3.2, by simp; omega, aj4 g6 e2 _, ?_, ?_⟩, by simp only; omega⟩
    ·repeat refine za ?_
     simp (disch := omega) only [aaI, aaA, aaP, aa1, abU, aaL, zv, zp, aaB, zt]
     rw [zF hsum, zL hsum]
     simp (disch := omega) only [aaI, aaA, aaP, aa1, abU, aaL, zv, zp, aaB, zt]
     rfl
    ·intro t ht
     rw [aq3 _ zc]; exact g7 t ht
    ·simp only
     rw [aA0 _ zc, eb, show k + (q + 1) = k + q + 1 by omega, zX]
     exact aRB _ _ _ _ _ _ _ _ _ _ _ _ _ g8 e1 (wA _ _ _)
   ·right
    have hqq : q = (mag b).length := zc
    subst hqq
    rw [abO _ (zq _), hVb] at g8
    refine ⟨.inl (((k + 1 : Nat) : Int), s1.set (k + (mag b).length) c, ()), ?_, _, rfl, by simp; omega, aj4 g6 ⟨g3, g4⟩ _, ?_⟩
    ·repeat refine za ?_
     simp (disch := omega) only [aaI, aaA, aaP, aa1, abU, aaL, zv, zp, aaB, zt]
     rfl
    ·rw [aA0 _ zc, g7 _ zc, ea, wY]
     simp only [wP]
     rw [g8]
     grind
  refine ⟨(((k + 1 : Nat) : Int), s', ()), ?_, ⟨k + 1, by omega, rfl, q1, q2, q3⟩, by simp only; omega, trivial⟩
  refine uT sd ?_
  refine uN sd ?_
  refine uO (0, 0, s, ()) ?_ ?_
  ·repeat refine za ?_
   rfl
  ·exact hin
 ·right
  have hkk : k = (mag a).length := zc
  rw [hkk, abO _ (zq _), hVa] at h5
  refine uF sd ?_
  refine uC (mag (a * b), ()) ?_ ?_
  ·rw [zy zh]
   exact ayD h4 zc (by rw [h5]; simp)
  ·rfl
theorem aRC (Vm Vq P d R m X Y B W : Int) (h : Vm = Vq * d + R) (h2 : Y + d * X = R * B + m) (hW : W = m + B * Vm) (hP : P = X + B * Vq) : W = P * d + Y := by
 subst hW hP h
 grind
theorem awV (m : List Int) (d : Int) (y) (h : alG (m, d, ()) = some y) : (apJ m d).toO = some y := by
 obtain ⟨⟨a, e⟩, hn, hx, rfl⟩ := aaC h
 obtain ⟨rfl, hx2⟩ := Prod.mk.inj hx; obtain ⟨rfl, -⟩ := Prod.mk.inj hx2; dsimp only
 obtain ⟨la, he, he2⟩ := hn
 simp only at la he he2
 have hda := ahY a
 have hVa := aoK a
 unfold apJ
 refine uN sn ?_
 have hd : abZ (e : Int) = e := aaP zc
 refine uO (((mag a).length : Int) - 1, 0, List.replicate (mag a).length 0, ()) ?_ ?_
 ·repeat refine za ?_
  simp only [aaB]
  rw [aaA (x := ((mag a).length : Int) - 1) zc]
  rfl
 refine aaK (fun i : Int × Int × List Int × Unit => ∃ k : Nat, k ≤ (mag a).length ∧ i.1 = (k : Int) - 1 ∧ 0 ≤ i.2.1 ∧ i.2.1 < e ∧ i.2.2.1.length = (mag a).length ∧ Dg 1000000000 i.2.2.1 ∧ V 1000000000 ((mag a).drop k) = V 1000000000 (i.2.2.1.drop k) * e + i.2.1) (fun i => (i.1 + 1).toNat) (fun _ => (mag (a / e), ((a % e : Nat) : Int), ())) ?_ _ ⟨_, zq _, rfl, by simp, by simp; omega, by simp, ahF zc _, by rw [acY _ (zq _), acY _ zi]; simp⟩
 rintro ⟨i, r, q, u⟩ ⟨k, h1, h2, h3, h4, h5, h6, h7⟩
 simp only at h2 h3 h4 h5 h6 h7
 subst h2
 rcases zC k with h0 | h0
 ·subst h0
  right
  simp only [yK, hVa] at h7
  obtain ⟨v, hv⟩ := zu (aaT zc h6)
  obtain ⟨r', rfl⟩ := zu h3
  rw [hv] at h7
  have h8 : a = v * e + r' := by
   have : (a : Int) = ((v * e + r' : Nat) : Int) := by simpa using h7
   exact Int.ofNat.inj this
  have h9 : a / e = v := by rw [h8, xe, wQ _ _ he, xd zc, zv]
  have h10 : a % e = r' := by rw [h8, xe, wi, yG zc]
  simp only [aq6]
  refine uF sd ?_
  refine uC (mag v, ()) ?_ ?_
  ·rw [zy (by simp [len]; omega)]
   exact ayD h6 zc hv
  ·simp (disch := omega) only [aaI, aaA, aaP, aa1, abU, aaL, zv, zp, aaB, zt]
   rw [h9, h10]
 ·left
  obtain ⟨j, rfl⟩ : ∃ j, k = j + 1 := ⟨k - 1, by omega⟩
  have e6 : ((j + 1 : Nat) : Int) - 1 = (j : Int) := zc
  rw [e6]
  simp only [aq6, aaL, hd]
  have e1 := aaU 1000000000 (mag a) j
  have e2 := aa5 zc hda j
  have g1 : 0 ≤ r * 1000000000 + (mag a).getD j 0 := zc
  have g0 : (0 : Int) < e := zc
  have g2 := yk (r * 1000000000 + (mag a).getD j 0) e
  have g3 := yQ (r * 1000000000 + (mag a).getD j 0) (show (e : Int) ≠ 0 by omega)
  have g4 := yB (r * 1000000000 + (mag a).getD j 0) g0
  have g5 : 0 ≤ (r * 1000000000 + (mag a).getD j 0) / e := xJ g1 zc
  have g6 : (r * 1000000000 + (mag a).getD j 0) / e < 1000000000 := by
   refine Int.ediv_lt_of_lt_mul g0 ?_
   have : (r + 1) * 1000000000 ≤ e * 1000000000 := zE zc zc
   omega
  have hw1 : abZ (abZ (r * 1000000000) + abZ ((mag a).getD j 0)) = r * 1000000000 + (mag a).getD j 0 := by
   rw [aaP (x := r * 1000000000) zc, aaP (x := (mag a).getD j 0) zc, aaP zc]
  simp only [hw1]
  refine ⟨((j : Int) - 1, (r * 1000000000 + (mag a).getD j 0) % e, q.set j ((r * 1000000000 + (mag a).getD j 0) / e), ()), ?_, ⟨j, by omega, rfl, g3, g4, by simp; omega, aj4 h6 ⟨g5, g6⟩ _, ?_⟩, by simp only; omega, trivial⟩
  ·repeat refine za ?_
   rw [zF g1, zL g1]
   rw [aaP (x := (r * 1000000000 + (mag a).getD j 0) / e) zc, aa1 (x := (r * 1000000000 + (mag a).getD j 0) / e) zc]
   simp (disch := omega) only [aaI, aaA, aaP, aa1, abU, aaL, zv, zp, aaB, zt]
  ·simp only
   refine aRC _ _ _ _ _ _ _ _ 1000000000 _ h7 g2 e1 ?_
   rw [aaU 1000000000 (q.set j _) j, aq4 zc, aiV _ zc]
theorem an6 (v : Int) (y) (h : abY (v, ()) = some y) : (amG v).toO = some y := by
 unfold abY at h
 split at h
 ·rename_i hp
  obtain ⟨h0, h1⟩ := hp
  simp only at h0 h1
  injection h with h
  subst h
  obtain ⟨n, rfl⟩ := zu h0
  simp only [zp]
  refine uO (true, [], (n : Int), ()) rfl ?_
  refine aaK (fun i => ∃ w : Nat, i.2.2.1 = (w : Int) ∧ w ≤ n ∧ Dg 1000000000 i.2.1 ∧ V 1000000000 i.2.1 + 1000000000 ^ i.2.1.length * w = n ∧ (i.1 = true → i.2.1 = []) ∧ (w = 0 → Cn i.2.1) ∧ (i.2.1.length ≤ 3) ∧ (w ≠ 0 → w < 1000000000 ^ (3 - i.2.1.length))) (fun i => i.2.2.1.toNat) (fun _ => (mag n, ())) ?_ _ ⟨n, rfl, zq _, aw9 _, by simp [V], fun _ => rfl, fun _ => axA, by simp, fun _ => by simp; omega⟩
  rintro ⟨f, l, w', u⟩ ⟨w, g1, g2, g3, g4, g5, g6, g7, g8⟩
  simp only at g1 g3 g4 g5 g6 g7 g8
  subst g1
  rcases zC w with hw | hw
  ·subst hw
   right
   have : l = mag n := asE g3 (g6 rfl) zc
   cases f
   ·unfold afD
    repeat refine za ?_
    simp (disch := omega) only [aaI, aaA, aaP, aa1, abU, aaL, zv, zp, aaB, zt]
    rw [this]
   ·unfold afD
    repeat refine za ?_
    simp (disch := omega) only [aaI, aaA, aaP, aa1, abU, aaL, zv, zp, aaB, zt]
    rw [← this, g5 rfl]
  ·left
   have hl : l.length ≤ 2 := by
    rcases zr 2 l.length with h | h
    ·have h3 : l.length = 3 := zc
     have := g8 zc
     rw [h3] at this
     simp at this
     omega
    ·exact h
   have e1 : ((w % 1000000000 : Nat) : Int) + 1000000000 * ((w / 1000000000 : Nat) : Int) = w := zc
   refine ⟨(false, l ++ [((w % 1000000000 : Nat) : Int)], ((w / 1000000000 : Nat) : Int), ()), ?_, ⟨w / 1000000000, rfl, by omega, afH g3 (ao0 zc zc), ?_, by simp, ?_, by simp; omega, ?_⟩, by simp only; omega, ze⟩
   ·have t1 : Int.tmod (w : Int) 1000000000 = ((w % 1000000000 : Nat) : Int) := by rw [zF zc]; omega
    have t2 : Int.tdiv (w : Int) 1000000000 = ((w / 1000000000 : Nat) : Int) := by rw [zL zc]; omega
    cases f
    ·simp only [afD, t1, t2]
     repeat refine za ?_
     simp (disch := omega) only [aaI, aaA, aaP, aa1, abU, aaL, zv, zp, aaB, zt]
    ·simp only [afD, t1, t2]
     repeat refine za ?_
     rw [g5 rfl]
     simp (disch := omega) only [aaI, aaA, aaP, aa1, abU, aaL, zv, zp, aaB, zt]
     rfl
   ·simp only
    rw [aeY, aBO, zH, yr, zX, ← g4]
    have : (1000000000 : Int) ^ l.length * (((w % 1000000000 : Nat) : Int) + 1000000000 * ((w / 1000000000 : Nat) : Int)) = 1000000000 ^ l.length * w := by rw [e1]
    grind
   ·intro hz
    unfold Cn
    simp
    omega
   ·intro hz
    simp only [zH, yr]
    have := g8 zc
    rw [yE zc]
    have h9 : 1000000000 ^ (3 - l.length) = 1000000000 ^ (3 - (l.length + 1)) * 1000000000 := by
     rw [← yC]; congr 1; omega
    omega
 ·cases h
theorem aJk {n : Nat} (h : n ≠ 0) : ∃ t : Nat, (mag n).getD ((mag n).length - 1) 0 = (t : Int) ∧ 1 ≤ t ∧ t < 1000000000 ∧ 1000000000 ^ ((mag n).length - 1) * t ≤ n ∧ n < 1000000000 ^ ((mag n).length - 1) * (t + 1) := by
 have hd := ahY n
 have hV := aoK n
 have hl : 1 ≤ (mag n).length := by
  rcases zC (mag n).length with h0 | h0
  ·exact absurd (mag_nil_iff.1 (zV.1 h0)) h
  ·exact h0
 have e1 := acQ 1000000000 (mag n) ((mag n).length - 1)
 have e2 := aaU 1000000000 (mag n) ((mag n).length - 1)
 rw [acY (k := (mag n).length - 1 + 1) _ zc] at e2
 have e3 := adV zc hd ((mag n).length - 1)
 have e4 := aaT zc (acO hd ((mag n).length - 1))
 have e5 := aa5 zc hd ((mag n).length - 1)
 obtain ⟨t, ht⟩ := zu e5.1
 have h1 : 1 ≤ t := by
  rcases zC t with h0 | h0
  ·have hc := aVt n
   unfold Cn at hc
   rw [yT, zS zc] at hc
   rw [akB zc, h0] at ht
   rw [ht] at hc
   exact absurd rfl hc
  ·exact h0
 have hp : (1000000000 : Int) ^ ((mag n).length - 1) = ((1000000000 ^ ((mag n).length - 1) : Nat) : Int) := zi
 rw [hV, e2, ht, hp] at e1
 rw [hp] at e3
 refine ⟨t, ht, h1, by omega, ?_, ?_⟩
 ·have : ((1000000000 ^ ((mag n).length - 1) * t : Nat) : Int) ≤ n := by
   rw [yg]
   simp only [wD, vt] at e1
   omega
  exact wO.1 this
 ·have : (n : Int) < ((1000000000 ^ ((mag n).length - 1) * (t + 1) : Nat) : Int) := by
   rw [yg]
   simp only [wD, vt] at e1
   rw [vq, wz]
   omega
  exact Int.ofNat_lt.1 this
theorem aAs {n t L : Nat} (h1 : 1 ≤ t) (h3 : 1000000000 ^ L * t ≤ n) (h4 : n < 1000000000 ^ L * (t + 1)) : (aa4 n).length = L * 9 + (aa4 t).length := by
 have a1 := agS t
 have a2 := aIY (n := t) zc
 have a3 := aiX t
 have e : (1000000000 : Nat) ^ L = 10 ^ (L * 9) := by rw [show 1000000000 = 10 ^ 9 by decide, ← xG, yN]
 rw [e] at h3 h4
 obtain ⟨q, hq⟩ : ∃ q, (aa4 t).length = q + 1 := ⟨(aa4 t).length - 1, by omega⟩
 rw [hq] at a1 a2 ⊢
 have h5 : 10 ^ (L * 9 + q) ≤ n := by
  rw [xF]
  have := yx (10 ^ (L * 9)) a2
  simp at this
  omega
 have h6 : n < 10 ^ (L * 9 + q + 1) := by
  rw [show L * 9 + q + 1 = L * 9 + (q + 1) by omega, xF]
  have : 10 ^ (L * 9) * (t + 1) ≤ 10 ^ (L * 9) * 10 ^ (q + 1) := yx _ zc
  omega
 rw [akE h5 h6]
 omega
theorem asK (m : List Int) (y) (h : ai6 (m, ()) = some y) : (amB m).toO = some y := by
 obtain ⟨n, hn, hx, rfl⟩ := aaC h
 obtain ⟨rfl, -⟩ := Prod.mk.inj hx
 unfold amB
 refine uC (len (mag n) == 0, ()) rfl ?_
 by_cases h0 : n = 0
 ·subst h0
  refine uT (by simp [mag_zero, len]) ?_
  simp [aaI, abN]
 ·obtain ⟨t, ht, h1, h2, h3, h4⟩ := aJk h0
  have hl : 1 ≤ (mag n).length := by
   rcases zC (mag n).length with h5 | h5
   ·exact absurd (mag_nil_iff.1 (zV.1 h5)) h0
   ·exact h5
  have hw : w64 (len (mag n) - 1) = (((mag n).length - 1 : Nat) : Int) := by rw [aaB, aaA (x := ((mag n).length : Int) - 1) zc]; omega
  refine uF sd ?_
  simp only [hw, aaL, ht]
  refine uN sd ?_
  have hdl : (aa4 t).length ≤ 9 := (adC zc).2 zc
  refine uC (aa4 t, ()) ?_ ?_
  ·rw [aaA (x := (t : Int)) zc]
   unfold aDf
   rw [if_pos zm]
   simp only [ae7]
  ·rw [aAs h1 h3 h4]
   simp only [aaI, aaB]
   rw [aaA (x := ((((mag n).length - 1 : Nat)) : Int) * 9) zc, aaA zc]
   simp
theorem aNj (m o : List Int) (y) (h : ah6 (m, o, ()) = some y) : (aEs m o).toO = some y := by
 obtain ⟨⟨a, b⟩, hn, hx, rfl⟩ := aaC h
 obtain ⟨rfl, hx2⟩ := Prod.mk.inj hx; obtain ⟨rfl, -⟩ := Prod.mk.inj hx2; dsimp only
 obtain ⟨la, lb⟩ := hn
 simp only at la lb
 unfold aEs
 refine uO (mag a, mag b, ()) rfl ?_
 refine aaK (fun i : List Int × List Int × Unit => ∃ p q : Nat, i = (mag p, mag q, ()) ∧ (mag p).length ≤ 100000000000 ∧ (mag q).length ≤ 100000000000 ∧ Nat.gcd p q = Nat.gcd a b) (fun i => (V 1000000000 i.2.1).toNat) (fun _ => (mag (Nat.gcd a b), ())) ?_ _ ⟨a, b, rfl, la, lb, rfl⟩
 rintro i ⟨p, q, rfl, lp, lq, hg⟩
 simp only [aG6]
 by_cases hq : q = 0
 ·right
  subst hq
  refine uC (len (mag 0) == 0, ()) rfl ?_
  refine uF (by simp [mag_zero, len]) ?_
  rw [← hg]
  simp [aaI]
 ·have hql : 1 ≤ (mag q).length := by
   rcases zC (mag q).length with h5 | h5
   ·exact absurd (mag_nil_iff.1 (zV.1 h5)) hq
   ·exact h5
  by_cases hs : (mag p).length ≤ 2 ∧ (mag q).length ≤ 2
  ·right
   have bp : p < 1000000000000000000 := by have := mag_length_le_iff.1 hs.1; omega
   have bq : q < 1000000000000000000 := by have := mag_length_le_iff.1 hs.2; omega
   refine uC (len (mag q) == 0, ()) rfl ?_
   refine uT (by simp [len]; intro h; simp [h] at hql) ?_
   refine uL (true, ()) ?_ ?_
   ·refine uT sd ?_
    repeat refine za ?_
    show some (Sum.inl (decide (len (mag q) ≤ 2), ())) = _
    rw [zo (show len (mag q) ≤ 2 by exact sn)]
   ·simp only [aAe]
    refine uT rfl ?_
    refine uC ((p : Int), ()) (aaE (enc := fun n : Nat => (mag n, ())) p bp (fun b hb => aeI (Prod.mk.inj hb).1)) ?_
    refine uC ((q : Int), ()) (aaE (enc := fun n : Nat => (mag n, ())) q bq (fun b hb => aeI (Prod.mk.inj hb).1)) ?_
    refine uO ((q : Int), (p : Int), ()) rfl ?_
    refine aaK (fun i : Int × Int × Unit => ∃ r s : Nat, i = ((r : Int), (s : Int), ()) ∧ s < 1000000000000000000 ∧ r < 1000000000000000000 ∧ Nat.gcd s r = Nat.gcd a b) (fun i => i.1.toNat) (fun _ => (Sum.inr (mag (Nat.gcd a b), ()) : (List Int × List Int × Unit) ⊕ (List Int × Unit))) ?_ _ ⟨q, p, rfl, bp, bq, hg⟩
    rintro i ⟨r, s, rfl, h1, h2, h3⟩
    simp only [aG5]
    rcases zC r with hr | hr
    ·subst hr
     right
     refine uF sd ?_
     refine uC (mag s, ()) ?_ ?_
     ·unfold abY
      rw [if_pos zm]
      simp
     ·rw [← h3]
      simp [aaI]
    ·left
     have hm := yW s hr
     refine ⟨(((s % r : Nat) : Int), (r : Int), ()), ?_, ⟨s % r, r, rfl, by omega, by omega, ?_⟩, by simp only; omega, ze⟩
     ·repeat refine za ?_
      rw [zF zc]
      rfl
     ·rw [← h3, xI s r, Nat.gcd_rec r s, xI]
  ·left
   refine ⟨(mag q, mag (p % q), ()), ?_, ⟨q, p % q, rfl, lq, ?_, ?_⟩, ?_, ze⟩
   ·refine uC (len (mag q) == 0, ()) rfl ?_
    refine uT (by simp [len]; intro h; simp [h] at hql) ?_
    refine uL (false, ()) ?_ ?_
    ·rcases zr 2 (mag p).length with h5 | h5
     ·repeat refine za ?_
      rfl
     ·repeat refine za ?_
      show some (Sum.inl (decide (len (mag q) ≤ 2), ())) = _
      rw [zn (show ¬ len (mag q) ≤ 2 by exact sn)]
    ·simp only [aAe]
     refine uF rfl ?_
     refine uC (mag (p / q), mag (p % q), ()) (aaE (enc := fun p : Nat × Nat => (mag p.1, mag p.2, ())) (p, q) ⟨lp, lq, hq⟩ (fun b hb => ad9 hb)) ?_
     repeat refine za ?_
     rfl
   ·have := ab1 (vO (yW p (show 0 < q by omega))); omega
   ·rw [← hg, xI p q, Nat.gcd_rec q p, xI]
   ·simp only [aoK, zp]
    exact yW p zc
theorem axX {s : List UInt8} (h : isD s) (i : Nat) : isD (s.take i) := fun c hc => h c (xc hc)
theorem asH {s : List UInt8} (h : isD s) (i : Nat) : isD (s.drop i) := fun c hc => h c (xb hc)
theorem aKC {s : List UInt8} {a i : Nat} (h1 : a ≤ i) (h2 : i < s.length) : (s.take (i + 1)).drop a = (s.take i).drop a ++ [s[i]] := by
 rw [zW h2, List.drop_append_of_le_length zh]
theorem ayJ {s : List UInt8} {a i : Nat} (h1 : a ≤ i) (h2 : i ≤ s.length) : ((s.take i).drop a).length = i - a := zh
theorem aP0 {s : List UInt8} {a e : Nat} (h1 : a ≤ e) (h2 : e ≤ s.length) : num (s.take e) = num (s.take a) * 10 ^ (e - a) + num ((s.take e).drop a) := by
 conv => lhs; rw [← xz a (s.take e)]
 rw [apE, ayJ h1 h2, xf, yy h1]
theorem aJi : num [] = 0 := rfl
theorem aCO {s : List UInt8} (hd : isD s) {a i e : Nat} (h1 : a ≤ i) (h2 : i < e) (h3 : e ≤ s.length) (h4 : e - a ≤ 9) : aeU (aeU ((num ((s.take i).drop a) : Int) * 10) + aeU (wu8 (((s.getD i 0).toNat : Int) - 48))) = (num ((s.take (i + 1)).drop a) : Int) := by
 have hi : i < s.length := zc
 have e1 : s.getD i 0 = s[i] := by simp [hi]
 have e2 := hd s[i] (ym hi)
 have e3 := aGG (asH (axX hd i) a)
 rw [ayJ h1 zc] at e3
 have e4 : (10 : Nat) ^ (i - a) ≤ 10 ^ 8 := zY zc zc
 have e5 : dv s[i] = s[i].toNat - 48 := rfl
 rw [aKC h1 hi, apC, e1, e5]
 rw [abU (x := (s[i].toNat : Int) - 48) zc, aa1 (x := (s[i].toNat : Int) - 48) zc, aa1 (x := (num ((s.take i).drop a) : Int) * 10) zc, aa1 zc]
 omega
theorem awZ (digits : List UInt8) (y) (h : aiD (digits, ()) = some y) : (avH digits).toO = some y := by
 unfold aiD at h
 split at h
 case isFalse => cases h
 case isTrue hp =>
  obtain ⟨hd, hne, hl⟩ := hp
  simp only at hd hne hl
  injection h with h
  subst h
  generalize digits = s at *
  have hlen : 1 ≤ s.length := yb.2 hne
  refine uO ((s.length : Int), true, [], ()) rfl ?_
  refine aaK (fun i : Int × Bool × List Int × Unit => ∃ e : Nat, i.1 = (e : Int) ∧ 1 ≤ e ∧ e ≤ s.length ∧ Dg 1000000000 i.2.2.1 ∧ V 1000000000 i.2.2.1 + 1000000000 ^ i.2.2.1.length * num (s.take e) = num s ∧ i.2.2.1.length + e ≤ s.length ∧ (i.2.1 = true → i.2.2.1 = [])) (fun i => i.1.toNat) (fun _ => (mag (num s), ())) ?_ _ ⟨s.length, rfl, hlen, zq _, aw9 _, by simp [V], by simp, fun _ => rfl⟩
  rintro ⟨e', f, l, u⟩ ⟨e, g1, g2, g3, g4, g5, g6, g7⟩
  simp only at g1 g4 g5 g6 g7
  subst g1
  obtain ⟨a, ha, ha1, ha2, ha3⟩ : ∃ a : Nat, (if 0 > w64 ((e : Int) - 9) then 0 else w64 ((e : Int) - 9)) = (a : Int) ∧ a ≤ e ∧ e - a ≤ 9 ∧ (a = 0 ∨ a + 9 = e) := by
   rw [aaA (x := (e : Int) - 9) zc]
   rcases zr e 9 with h9 | h9
   ·exact ⟨0, by rw [if_pos zc]; rfl, by omega, by omega, Or.inl rfl⟩
   ·exact ⟨e - 9, by rw [if_neg zc]; omega, by omega, by omega, Or.inr zc⟩
  have hseg := aP0 (s := s) ha1 g3
  have hv := aGG (asH (axX hd e) a)
  rw [ayJ ha1 g3] at hv
  have hv9 : (10 : Nat) ^ (e - a) ≤ 10 ^ 9 := zY zc ha2
  generalize hX : num ((s.take e).drop a) = X at hseg hv
  have hD : Dg 1000000000 (l ++ [(X : Int)]) := afH g4 (ao0 zc zc)
  have hw9 : w64 ((e : Int) - 9) = (e : Int) - 9 := aaA zc
  have hV0 : a = 0 → V 1000000000 (l ++ [(X : Int)]) = num s := by
   intro h0
   subst h0
   rw [aeY, aBO, ← g5]
   rw [hseg]
   simp [aJi]
  have hV1 : a + 9 = e → V 1000000000 (l ++ [(X : Int)]) + 1000000000 ^ (l ++ [(X : Int)]).length * (num (s.take a) : Int) = num s := by
   intro h0
   rw [aeY, aBO, ← g5, hseg, show e - a = 9 by omega, zH, yr, zX]
   have : (((num (s.take a) * 10 ^ 9 + X : Nat)) : Int) = (num (s.take a) : Int) * 1000000000 + X := zi
   rw [this]
   grind
  cases f
  ·-- not the first group
   simp only [aq9, ha]
   have hin : adK (fun i1 => (amE s ((e : Int), false, l, ()) i1).toO) ((a : Int), 0, ()) = some (if a = 0 then Sum.inr (mag (num s), ()) else Sum.inl ((a : Int), false, l ++ [(X : Int)], ())) := by
    refine aaK (fun j : Int × Int × Unit => ∃ i : Nat, a ≤ i ∧ i ≤ e ∧ j = ((i : Int), (num ((s.take i).drop a) : Int), ())) (fun j => ((e : Int) - j.1).toNat) (fun _ => (if a = 0 then Sum.inr (mag (num s), ()) else Sum.inl ((a : Int), false, l ++ [(X : Int)], ()))) ?_ _ ⟨a, zq _, ha1, by rw [yv zh]; rfl⟩
    rintro j ⟨i, h1, h2, rfl⟩
    rcases zr i e with hi | hi
    ·left
     refine ⟨(((i + 1 : Nat) : Int), (num ((s.take (i + 1)).drop a) : Int), ()), ?_, ⟨i + 1, by omega, by omega, rfl⟩, by simp only; omega, ze⟩
     simp only [amE, aaL, aCO hd h1 hi g3 ha2]
     repeat refine za ?_
     simp (disch := omega) only [aaI, aaA, aaP, aa1, abU, aaL, zv, zp, aaB, zt]
     rfl
    ·right
     have hie : i = e := zc
     subst hie
     simp only [amE, ha, hX, zt]
     refine uF sd ?_
     refine uN zc ?_
     by_cases h0 : a = 0
     ·rw [if_pos h0]
      refine uT (by simp [h0]) ?_
      refine uC (mag (num s), ()) ?_ rfl
      rw [zy zi]
      exact ayD hD zh (hV0 h0)
     ·rw [if_neg h0]
      refine uF zh ?_
      repeat refine za ?_
      have : w64 ((i : Int) - 9) = (a : Int) := by rw [hw9]; omega
      rw [this]
      rfl
   by_cases h0 : a = 0
   ·right
    rw [if_pos h0] at hin
    refine uF rfl ?_
    refine uO ((a : Int), 0, ()) ?_ hin
    repeat refine za ?_
    rfl
   ·left
    rw [if_neg h0] at hin
    refine ⟨((a : Int), false, l ++ [(X : Int)], ()), ?_, ⟨a, rfl, by omega, by omega, hD, hV1 zc, by simp; omega, by simp⟩, by simp only; omega, ze⟩
    refine uF rfl ?_
    refine uO ((a : Int), 0, ()) ?_ hin
    repeat refine za ?_
    rfl
  ·-- the first group
   obtain rfl := g7 rfl
   simp only [xo] at hD hV0 hV1
   simp only [aq9, ha]
   have hin : adK (fun i1 => (amF s ((e : Int), true, [], ()) i1).toO) ((a : Int), 0, ()) = some (if a = 0 then Sum.inr (mag (num s), ()) else Sum.inl ((a : Int), false, [(X : Int)], ())) := by
    refine aaK (fun j : Int × Int × Unit => ∃ i : Nat, a ≤ i ∧ i ≤ e ∧ j = ((i : Int), (num ((s.take i).drop a) : Int), ())) (fun j => ((e : Int) - j.1).toNat) (fun _ => (if a = 0 then Sum.inr (mag (num s), ()) else Sum.inl ((a : Int), false, [(X : Int)], ()))) ?_ _ ⟨a, zq _, ha1, by rw [yv zh]; rfl⟩
    rintro j ⟨i, h1, h2, rfl⟩
    rcases zr i e with hi | hi
    ·left
     refine ⟨(((i + 1 : Nat) : Int), (num ((s.take (i + 1)).drop a) : Int), ()), ?_, ⟨i + 1, by omega, by omega, rfl⟩, by simp only; omega, ze⟩
     simp only [amF, aaL, aCO hd h1 hi g3 ha2]
     repeat refine za ?_
     simp (disch := omega) only [aaI, aaA, aaP, aa1, abU, aaL, zv, zp, aaB, zt]
     rfl
    ·right
     have hie : i = e := zc
     subst hie
     simp only [amF, ha, hX]
     refine uF sd ?_
     refine uN zi ?_
     by_cases h0 : a = 0
     ·rw [if_pos h0]
      refine uT (by simp [h0]) ?_
      refine uC (mag (num s), ()) ?_ rfl
      exact ayD hD zi (hV0 h0)
     ·rw [if_neg h0]
      refine uF zh ?_
      repeat refine za ?_
      have : w64 ((i : Int) - 9) = (a : Int) := by rw [hw9]; omega
      rw [this]
      rfl
   by_cases h0 : a = 0
   ·right
    rw [if_pos h0] at hin
    refine uT rfl ?_
    refine uO ((a : Int), 0, ()) ?_ hin
    repeat refine za ?_
    rfl
   ·left
    rw [if_neg h0] at hin
    refine ⟨((a : Int), false, [(X : Int)], ()), ?_, ⟨a, rfl, by omega, by omega, hD, hV1 zc, by simp; omega, by simp⟩, by simp only; omega, ze⟩
    refine uT rfl ?_
    refine uO ((a : Int), 0, ()) ?_ hin
    repeat refine za ?_
    rfl
set_option maxRecDepth 100000
open Go Go.Vg Go.Proofs
noncomputable section
def aNn : LTab := []
def aCU (m : List Int) (negative : Bool) : TT tN :=
 .ite (negative)
 (.call (adW (m, ())) Dd1 fun y =>
 .ok (((m, !y.1, ()), ())))
 (.ok (((m, false, ()), ())))
def aVc : LTab := []
def aTJ (m : List Int) (negative : Bool) : TT tN :=
 .ite (negative)
 (.call (aiZ (m, ())) Dd1 fun y =>
 .ok (((m, !y.1, ()), ())))
 (.ok (((m, false, ()), ())))
def aEw : LTab := []
def asO (n : List Int × Bool × Unit) : TT tN :=
 .call (abD (n.1, !n.2.1, ())) Dd5 fun y =>
 .ok (((y.1.1, y.1.2.1, ()), ()))
def aQE : LTab := []
def aAi (n : List Int × Bool × Unit) : TT uS :=
 .call (adW (n.1, ())) Dd1 fun y =>
 .ite (y.1)
 (.ok ((0, ())))
 (.ite (n.2.1)
 (.ok ((-1, ())))
 (.ok ((1, ()))))
def aQD : LTab := []
def aAh (n : List Int × Bool × Unit) : TT tl :=
 .ite (n.2.1)
 (.call (ai7 (n.1, ())) Dd2 fun y =>
 .need (List.length #[45].toList + List.length y.1 ≤ lim) <| .ok ((#[45].toList ++ y.1, ())))
 (.call (ai7 (n.1, ())) Dd2 fun y1 =>
 .ok ((y1.1, ())))
def aTh : LTab := []
def aEu (n : List Int × Bool × Unit) (o : List Int × Bool × Unit) : TT tN :=
 .ite (n.2.1 == o.2.1)
 (.call (aoS (n.1, o.1, ())) Dd0 fun y =>
 .call (abD (y.1, n.2.1, ())) Dd5 fun y1 =>
 .ok (((y1.1.1, y1.1.2.1, ()), ())))
 (.call (aeM (n.1, o.1, ())) Dd6 fun y2 =>
 .ite (decide (y2.1 < 0))
 (.call (alH (o.1, n.1, ())) Dd0 fun y3 =>
 .call (abD (y3.1, o.2.1, ())) Dd5 fun y4 =>
 .ok (((y4.1.1, y4.1.2.1, ()), ())))
 (.call (alH (n.1, o.1, ())) Dd0 fun y5 =>
 .call (abD (y5.1, n.2.1, ())) Dd5 fun y6 =>
 .ok (((y6.1.1, y6.1.2.1, ()), ()))))
def anC (s : List Int × Bool × Unit) (o : List Int × Bool × Unit) : TT tN :=
 .call (as7 ((o.1, o.2.1, ()), ())) Dd5 fun y =>
 .call (aLr ((s.1, s.2.1, ()), y.1, ())) Dd5 fun y1 =>
 .ok (((y1.1.1, y1.1.2.1, ()), ()))
def aFk : LTab := []
def anB (s : List Int × Bool × Unit) (o : List Int × Bool × Unit) : TT tN :=
 .call (ak3 (s.1, o.1, ())) Dd0 fun y =>
 .call (ajU (y.1, !s.2.1 == o.2.1, ())) Dd5 fun y1 =>
 .ok (((y1.1.1, y1.1.2.1, ()), ()))
def aJF : LTab := []
def aq7 (n : List Int × Bool × Unit) (m : List Int) : TT tN :=
 .call (acU (n.1, m, ())) Dd0 fun y =>
 .call (abD (y.1, n.2.1, ())) Dd5 fun y1 =>
 .ok (((y1.1.1, y1.1.2.1, ()), ()))
def aNm : LTab := []
def avG (n : List Int × Bool × Unit) (d : List Int) : TT tN :=
 .call (abI (n.1, d, ())) Dd4 fun y =>
 .ite (n.2.1)
 (.call (adW (y.2.1, ())) Dd1 fun y1 =>
 .ite (!y1.1)
 (.call (aoS (y.1, [1], ())) Dd0 fun y2 =>
 .call (abD (y2.1, n.2.1, ())) Dd5 fun y3 =>
 .ok (((y3.1.1, y3.1.2.1, ()), ())))
 (.call (abD (y.1, n.2.1, ())) Dd5 fun y4 =>
 .ok (((y4.1.1, y4.1.2.1, ()), ()))))
 (.call (abD (y.1, n.2.1, ())) Dd5 fun y5 =>
 .ok (((y5.1.1, y5.1.2.1, ()), ())))
def aNp : LTab := []
def aCV (a : List UInt8) : TT tN :=
 .call (ab8 (a, #[45].toList, ())) Dd7 fun y =>
 .call (aiD (y.1, ())) Dd0 fun y1 =>
 .ok (((y1.1, y.2.1, ()), ()))
def aJV : LTab := []
def arC (s : List UInt8) (prefix0 : List UInt8) : TT (List UInt8 × Bool × Unit) :=
 .tt <| .tt <| .tt <| .tt <| .ite (decide (len s ≥ len prefix0))
 (.need (inc (len prefix0) (len s)) <| .ite (!List.take (Int.toNat (len prefix0)) s == prefix0)
 (.ok ((s, false, ())))
 (.need (inc (len prefix0) (len s)) <| .ok ((List.take (List.length s - Int.toNat (len prefix0)) (List.drop (Int.toNat (len prefix0)) s), true, ()))))
 (.ok ((s, false, ())))
def aM9 : LTab := []
def avC (x : uA × List Int × Unit) : TT uI :=
 .call (ai6 (x.1.1, ())) Dd6 fun y =>
 .ite (decide (y.1 > 600))
 (.ok (((#[].toList, #[].toList, ()), 6, ())))
 (.call (ai6 (x.2.1, ())) Dd6 fun y1 =>
 .ite (decide (y1.1 > 600))
 (.ok (((#[].toList, #[].toList, ()), 6, ())))
 (.call (alI ((x.1.1, x.1.2.1, ()), ())) Dd2 fun y2 =>
 .call (ai7 (x.2.1, ())) Dd2 fun y3 =>
 .ok (((y2.1, y3.1, ()), 0, ()))))
def aJG : LTab := []
def aq8 (n : List Int × Bool × Unit) (d : List Int) : TT tn :=
 .call (ah6 (n.1, d, ())) Dd0 fun y =>
 .call (abI (n.1, y.1, ())) Dd4 fun y1 =>
 .call (abI (d, y.1, ())) Dd4 fun y2 =>
 .call (abD (y1.1, n.2.1, ())) Dd5 fun y3 =>
 .ok ((((y3.1.1, y3.1.2.1, ()), y2.1, ()), ()))
def aG1 : LTab := []
def awR (x : uA × List Int × Unit) : TT tn :=
 .call (agN ((x.1.1, x.1.2.1, ()), ())) Dd5 fun y =>
 .ok ((((y.1.1, y.1.2.1, ()), x.2.1, ()), ()))
def aTf : LTab := []
def aEq (x : uA × List Int × Unit) (y : uA × List Int × Unit) : TT tn :=
 .call (ah6 (x.2.1, y.2.1, ())) Dd0 fun y1 =>
 .call (abI (y.2.1, y1.1, ())) Dd4 fun y2 =>
 .call (abI (x.2.1, y1.1, ())) Dd4 fun y3 =>
 .call (aeN ((x.1.1, x.1.2.1, ()), y2.1, ())) Dd5 fun y4 =>
 .call (aeN ((y.1.1, y.1.2.1, ()), y3.1, ())) Dd5 fun y5 =>
 .call (ap0 (y4.1, y5.1, ())) Dd5 fun y6 =>
 .call (ah6 (y6.1.1, y1.1, ())) Dd0 fun y7 =>
 .call (abI (y6.1.1, y7.1, ())) Dd4 fun y8 =>
 .call (abI (y.2.1, y7.1, ())) Dd4 fun y9 =>
 .call (abD (y8.1, y6.1.2.1, ())) Dd5 fun y10 =>
 .call (acU (y3.1, y9.1, ())) Dd0 fun y11 =>
 .ok ((((y10.1.1, y10.1.2.1, ()), y11.1, ()), ()))
def aTd : LTab := []
def aLb (x : uA × List Int × Unit) (y : uA × List Int × Unit) : TT tn :=
 .call (ajZ (((y.1.1, y.1.2.1, ()), y.2.1, ()), ())) Dd8 fun y1 =>
 .call (atO (((x.1.1, x.1.2.1, ()), x.2.1, ()), y1.1, ())) Dd8 fun y2 =>
 .ok ((((y2.1.1.1, y2.1.1.2.1, ()), y2.1.2.1, ()), ()))
def aTe : LTab := []
def aEp (x : uA × List Int × Unit) (y : uA × List Int × Unit) : TT tn :=
 .call (ah6 (x.1.1, y.2.1, ())) Dd0 fun y1 =>
 .call (ah6 (y.1.1, x.2.1, ())) Dd0 fun y2 =>
 .call (abI (x.1.1, y1.1, ())) Dd4 fun y3 =>
 .call (abI (x.2.1, y2.1, ())) Dd4 fun y4 =>
 .call (abI (y.1.1, y2.1, ())) Dd4 fun y5 =>
 .call (abI (y.2.1, y1.1, ())) Dd4 fun y6 =>
 .call (acU (y3.1, y5.1, ())) Dd0 fun y7 =>
 .call (abD (y7.1, !x.1.2.1 == y.1.2.1, ())) Dd5 fun y8 =>
 .call (acU (y4.1, y6.1, ())) Dd0 fun y9 =>
 .ok ((((y8.1.1, y8.1.2.1, ()), y9.1, ()), ()))
def aG2 : LTab := []
def awS (x : uA × List Int × Unit) : TT tn :=
 .call (abD (x.2.1, x.1.2.1, ())) Dd5 fun y =>
 .ok ((((y.1.1, y.1.2.1, ()), x.1.1, ()), ()))
def aNb : LTab := []
def avD (x : uA × List Int × Unit) (y : uA × List Int × Unit) : TT uS :=
 .call (aeN ((x.1.1, x.1.2.1, ()), y.2.1, ())) Dd5 fun y1 =>
 .call (aeN ((y.1.1, y.1.2.1, ()), x.2.1, ())) Dd5 fun y2 =>
 .call (agN (y2.1, ())) Dd5 fun y3 =>
 .call (ap0 (y1.1, y3.1, ())) Dd5 fun y4 =>
 .call (alJ (y4.1, ())) Dd6 fun y5 =>
 .ok ((y5.1, ()))
def aQt : LTab := []
def az5 (x : uA × List Int × Unit) (scale : List Int) : TT tN :=
 .call (acU (scale, [2], ())) Dd0 fun y =>
 .call (aeN ((x.1.1, x.1.2.1, ()), y.1, ())) Dd5 fun y1 =>
 .call (abD (x.2.1, false, ())) Dd5 fun y2 =>
 .call (ap0 (y1.1, y2.1, ())) Dd5 fun y3 =>
 .call (acU (x.2.1, [2], ())) Dd0 fun y4 =>
 .call (alK ((y3.1.1, y3.1.2.1, ()), y4.1, ())) Dd5 fun y5 =>
 .ok (((y5.1.1, y5.1.2.1, ()), ()))
def aOn : LTab := []
def ax7 (s : List Int × Bool × Unit) : TT tz :=
 .call (amS (s.1, ())) Dd6 fun y =>
 .ite (decide (y.1 > 600))
 (.ok ((#[].toList, 6, ())))
 (.ite (s.2.1)
 (.call (amU (s.1, ())) Dd2 fun y1 =>
 .need (List.length #[45].toList + List.length y1.1 ≤ lim) <| .ok ((#[45].toList ++ y1.1, 0, ())))
 (.call (amU (s.1, ())) Dd2 fun y2 =>
 .ok ((y2.1, 0, ()))))
end
theorem aDK {p q : Int × Int} (h : (sg p.1, sg p.2, ()) = (sg q.1, sg q.2, ())) : p = q := by
 obtain ⟨h1, h2⟩ := Prod.mk.inj h
 obtain ⟨h2, -⟩ := Prod.mk.inj h2
 exact Prod.ext (arT h1) (arT h2)
theorem aIo {p q : Int × Nat} (h : (sg p.1, mag p.2, ()) = (sg q.1, mag q.2, ())) : p = q := by
 obtain ⟨h1, h2⟩ := Prod.mk.inj h
 obtain ⟨h2, -⟩ := Prod.mk.inj h2
 exact Prod.ext (arT h1) (aeI h2)
theorem axQ {p q : Rat × Rat} (h : (rt p.1, rt p.2, ()) = (rt q.1, rt q.2, ())) : p = q := by
 obtain ⟨h1, h2⟩ := Prod.mk.inj h
 obtain ⟨h2, -⟩ := Prod.mk.inj h2
 exact Prod.ext (aB3 h1) (aB3 h2)
theorem aUg {p q : Rat × Nat} (h : (rt p.1, mag p.2, ()) = (rt q.1, mag q.2, ())) : p = q := by
 obtain ⟨h1, h2⟩ := Prod.mk.inj h
 obtain ⟨h2, -⟩ := Prod.mk.inj h2
 exact Prod.ext (aB3 h1) (aeI h2)
theorem aHb (m : List Int) (negative : Bool) (y) (h : abD (m, negative, ()) = some y) : (aCU m negative).toO = some y := by
 injection h with h
 subst h
 cases negative
 ·rfl
 ·exact uT rfl (uC (len m == 0, ()) rfl rfl)
theorem ab5 {n : Nat} {b : Bool} {w : Int} (hn : n = w.natAbs) (hb : w = 0 ∨ b = decide (w < 0)) : abD (mag n, b, ()) = some (sg w, ()) := by
 subst hn
 unfold abD sg
 rcases hb with rfl | rfl
 ·simp [mag_zero, len]
 ·by_cases h0 : w = 0
  ·subst h0; simp
  ·have : (len (mag w.natAbs) == 0) = false := by
    have h1 : mag w.natAbs ≠ [] := fun h2 => by have := mag_nil_iff.1 h2; omega
    have h3 : (mag w.natAbs).length ≠ 0 := fun h2 => h1 (zV.1 h2)
    rw [aaB, beq_eq_false_iff_ne]; omega
   simp only [this, wN, Bool.and_true]
theorem aRZ (m : List Int) (negative : Bool) (y) (h : ajU (m, negative, ()) = some y) : (aTJ m negative).toO = some y := by
 injection h with h
 subst h
 cases negative
 ·rfl
 ·exact uT rfl (uC (len m == 0, ()) rfl rfl)
theorem aDh {n : Nat} {b : Bool} {w : Int} (hn : n = w.natAbs) (hb : w = 0 ∨ b = decide (w < 0)) : ajU (mag n, b, ()) = some (sg w, ()) := by
 subst hn
 unfold ajU sg
 rcases hb with rfl | rfl
 ·simp [mag_zero, len]
 ·by_cases h0 : w = 0
  ·subst h0; simp
  ·have : (len (mag w.natAbs) == 0) = false := by
    have h1 : mag w.natAbs ≠ [] := fun h2 => by have := mag_nil_iff.1 h2; omega
    have h3 : (mag w.natAbs).length ≠ 0 := fun h2 => h1 (zV.1 h2)
    rw [aaB, beq_eq_false_iff_ne]; omega
   simp only [this, wN, Bool.and_true]
theorem at3 {a : Int} (h1 : Bd 8 a.natAbs) : agN (sg a, ()) = some (sg (-a), ()) := aaE (enc := fun x : Int => (sg x, ())) a h1 (fun b hb => arT (Prod.mk.inj hb).1)
theorem aFb {a b : Int} (h1 : Bd 7 a.natAbs) (h2 : Bd 7 b.natAbs) : ap0 (sg a, sg b, ()) = some (sg (a + b), ()) := aaE (enc := fun x : Int × Int => (sg x.1, sg x.2, ())) (a, b) ⟨h1, h2⟩ (fun b hb => aDK hb)
theorem aAj (n : SgT) (y) (h : agN (n, ()) = some y) : (asO n).toO = some y := by
 obtain ⟨a, hp, hx, rfl⟩ := aaC h
 obtain ⟨rfl, -⟩ := Prod.mk.inj hx
 refine uC (sg (-a), ()) (ab5 zc ?_) rfl
 by_cases h0 : a = 0
 ·left; omega
 ·right
  show (!decide (a < 0)) = decide (-a < 0)
  by_cases h1 : a < 0
  ·rw [zo h1, zn zc]; rfl
  ·rw [zn h1, zo zc]; rfl
theorem aNl (n o : SgT) (y) (h : ap0 (n, o, ()) = some y) : (aEu n o).toO = some y := by
 obtain ⟨⟨a, b⟩, hp, hx, rfl⟩ := aaC h
 obtain ⟨rfl, hx2⟩ := Prod.mk.inj hx; obtain ⟨rfl, -⟩ := Prod.mk.inj hx2; dsimp only
 obtain ⟨l1, l2⟩ := hp
 simp only at l1 l2
 unfold aEu
 dsimp only
 by_cases hs : (decide (a < 0) == decide (b < 0)) = true
 ·refine uT hs ?_
  have hs' : (a < 0 ↔ b < 0) := by simpa using hs
  refine uC _ (aHW (aaF l1 zc) (aaF l2 zc)) ?_
  refine uC (sg (a + b), ()) (ab5 zc (Or.inr ?_)) rfl
  exact decide_eq_decide.2 zc
 ·have hs' : ¬ (a < 0 ↔ b < 0) := by simpa using hs
  refine uF (by simpa using hs) ?_
  refine uC _ (aw8 (aaF l1 zc) (aaF l2 zc)) ?_
  by_cases hc : a.natAbs < b.natAbs
  ·refine uT ?_ ?_
   ·unfold aw3; rw [if_pos zc]; rfl
   ·refine uC _ (aDo (aaF l2 zc) zc) ?_
    refine uC (sg (a + b), ()) (ab5 zc (Or.inr ?_)) rfl
    exact decide_eq_decide.2 zc
  ·refine uF ?_ ?_
   ·unfold aw3
    rw [if_neg zc]
    split <;> rfl
   ·refine uC _ (aDo (aaF l1 zc) zc) ?_
    refine uC (sg (a + b), ()) (ab5 zc ?_) rfl
    by_cases h0 : a + b = 0
    ·exact Or.inl h0
    ·exact Or.inr (decide_eq_decide.2 zc)
theorem aE8 {a : Int} (h1 : Bd 8 a.natAbs) : as7 (sg a, ()) = some (sg (-a), ()) := aaE (enc := fun x : Int => (sg x, ())) a h1 (fun b hb => arT (Prod.mk.inj hb).1)
theorem aTF {a b : Int} (h1 : Bd 7 a.natAbs) (h2 : Bd 7 b.natAbs) : aLr (sg a, sg b, ()) = some (sg (a + b), ()) := aaE (enc := fun x : Int × Int => (sg x.1, sg x.2, ())) (a, b) ⟨h1, h2⟩ (fun b hb => aDK hb)
theorem aBi {a : Int} (h1 : Bd 8 a.natAbs) : alJ (sg a, ()) = some (a.sign, ()) := aaE (enc := fun x : Int => (sg x, ())) a h1 (fun b hb => arT (Prod.mk.inj hb).1)
theorem aJE (n : SgT) (y) (h : alJ (n, ()) = some y) : (aAi n).toO = some y := by
 obtain ⟨a, hp, hx, rfl⟩ := aaC h
 obtain ⟨rfl, -⟩ := Prod.mk.inj hx
 unfold aAi
 dsimp only
 refine uC _ (at2 _) ?_
 rcases xn a 0 with h0 | h0 | h0
 ·refine uF zh (uT zh ?_)
  rw [yH h0]; rfl
 ·subst h0; exact uT zi rfl
 ·refine uF zh (uF zh ?_)
  rw [xh h0]; rfl
theorem aBh {a : Int} (h1 : Bd 0 a.natAbs) : alI (sg a, ()) = some (dec a, ()) := aaE (enc := fun x : Int => (sg x, ())) a h1 (fun b hb => arT (Prod.mk.inj hb).1)
theorem aLj {n : Nat} (h : Bd 0 n) : (aa4 n).length ≤ 9000001 := by
 have := akF (k := 1000000 * 4 ^ 0) h
 omega
theorem aJD (n : SgT) (y) (h : alI (n, ()) = some y) : (aAh n).toO = some y := by
 obtain ⟨a, hp, hx, rfl⟩ := aaC h
 obtain ⟨rfl, -⟩ := Prod.mk.inj hx
 unfold aAh
 dsimp only
 have hl := aLj hp
 by_cases h0 : a < 0
 ·refine uT zh (uC _ (arL hp) (uN ?_ ?_))
  ·show 1 + (aa4 a.natAbs).length ≤ lim
   unfold lim; omega
  ·rw [aiW h0]; rfl
 ·refine uF zh (uC _ (arL hp) ?_)
  rw [ab3 zc]; rfl
theorem ai8 {a : Int} {b : Nat} (h1 : Bd 7 a.natAbs) (h2 : Bd 7 b) : aeN (sg a, mag b, ()) = some (sg (a * b), ()) := aaE (enc := fun x : Int × Nat => (sg x.1, mag x.2, ())) (a, b) ⟨h1, h2⟩ (fun b hb => aIo hb)
theorem aEv (n : SgT) (m : List Int) (y) (h : aeN (n, m, ()) = some y) : (aq7 n m).toO = some y := by
 obtain ⟨⟨a, b⟩, hp, hx, rfl⟩ := aaC h
 obtain ⟨rfl, hx2⟩ := Prod.mk.inj hx; obtain ⟨rfl, -⟩ := Prod.mk.inj hx2; dsimp only
 obtain ⟨l1, l2⟩ := hp
 simp only at l1 l2
 unfold aq7
 dsimp only
 refine uC _ (aiG (aaF l1 zc) (aaF l2 zc)) ?_
 refine uC (sg (a * b), ()) (ab5 (by rw [yF]; rfl) ?_) rfl
 rcases zC b with h0 | h0
 ·left; subst h0; simp
 ·right
  refine decide_eq_decide.2 ⟨fun h => wj h zc, fun h => ?_⟩
  rcases zQ a 0 with h2 | h2
  ·exact h2
  ·have := yh h2 (show (0 : Int) ≤ b by omega); omega
theorem apL {a : Int} {d : Nat} (ha : a < 0) (hd : d ≠ 0) : a / (d : Int) = -((if a.natAbs % d = 0 then a.natAbs / d else a.natAbs / d + 1 : Nat) : Int) := by
 obtain ⟨n, hn⟩ : ∃ n : Nat, a = -(n : Int) := ⟨a.natAbs, by omega⟩
 subst hn
 rw [xA, zK]
 have e := xZ n d
 have hlt := yW n (show 0 < d by omega)
 generalize hq : n / d = q at e
 generalize hr : n % d = r at e hlt
 by_cases h0 : r = 0
 ·rw [if_pos h0]
  have : -(n : Int) = -(q : Int) * d := by
   rw [← e, h0]; simp; grind
  rw [this, Int.mul_ediv_cancel _ zc]
 ·rw [if_neg h0]
  have h1 : -(n : Int) = ((d : Int) - r) + (-((q + 1 : Nat) : Int)) * d := by
   rw [← e]; simp; grind
  rw [h1, Int.add_mul_ediv_right _ _ zc, xv zc zc, vu]
theorem aDp {a : Int} {b : Nat} (h1 : Bd 7 a.natAbs) (h2 : Bd 7 b) (h3 : b ≠ 0) : alK (sg a, mag b, ()) = some (sg (a / b), ()) := aaE (enc := fun x : Int × Nat => (sg x.1, mag x.2, ())) (a, b) ⟨h1, h2, h3⟩ (fun b hb => aIo hb)
theorem au5 : mag 1 = [1] := asF zc zc
theorem aUG : mag 2 = [2] := asF zc zc
theorem aG9 (n : SgT) (d : List Int) (y) (h : alK (n, d, ()) = some y) : (avG n d).toO = some y := by
 obtain ⟨⟨a, b⟩, hp, hx, rfl⟩ := aaC h
 obtain ⟨rfl, hx2⟩ := Prod.mk.inj hx; obtain ⟨rfl, -⟩ := Prod.mk.inj hx2; dsimp only
 obtain ⟨l1, l2, l3⟩ := hp
 simp only at l1 l2 l3
 unfold avG
 dsimp only
 refine uC _ (acM (aaF l1 zc) (aaF l2 zc) l3) ?_
 by_cases ha : a < 0
 ·refine uT zh ?_
  refine uC _ (at2 _) ?_
  have hf := apL ha l3
  have hbd := aaS b l1
  generalize a.natAbs / b = q at hf hbd
  generalize hrr : a.natAbs % b = r at hf
  by_cases hr : r = 0
  ·rw [if_pos hr] at hf
   refine uF zh ?_
   refine uC (sg (a / b), ()) (ab5 (n := q) zc ?_) rfl
   by_cases h0 : a / (b : Int) = 0
   ·exact Or.inl h0
   ·exact Or.inr (decide_eq_decide.2 zc)
  ·rw [if_neg hr] at hf
   refine uT zh ?_
   have := aHW (a := q) (b := 1) (aaF hbd zc) (aaF (aaH zc) zc)
   rw [au5] at this
   refine uC _ this ?_
   refine uC (sg (a / b), ()) (ab5 (n := q + 1) zc (Or.inr (decide_eq_decide.2 zc))) rfl
 ·refine uF zh ?_
  obtain ⟨n, rfl⟩ := zu (show 0 ≤ a by omega)
  have hdv : ((n : Int) / (b : Int)) = ((n / b : Nat) : Int) := zi
  rw [hdv]
  refine uC (sg ((n / b : Nat) : Int), ()) (ab5 (n := n / b) rfl (Or.inr (decide_eq_decide.2 ?_))) rfl
  generalize n / b = q
  omega
theorem aEM (s p : List UInt8) (hs : s.length ≤ 4611686018427387904) (y) (h : ab8 (s, p, ()) = some y) : (arC s p).toO = some y := by
 injection h with h
 subst h
 unfold arC
 dsimp only
 rcases zr s.length p.length with hl | hl
 ·repeat refine za ?_
  have : p.isPrefixOf s = false := by
   cases hp : p.isPrefixOf s with
   | false => rfl
   | true => have := (wW.1 hp).length_le; omega
  simp [this, aaI]
 ·refine uV (uV (uV (uV (uT sd (uN sd ?_)))))
  simp only [aaB, zp]
  by_cases hp : p.isPrefixOf s = true
  ·have h2 := List.prefix_iff_eq_take.1 (wW.1 hp)
   refine uF (by rw [← h2]; simp) (uN sd ?_)
   rw [if_pos hp, zy zi]; rfl
  ·refine uT ?_ ?_
   ·simp only [zT, beq_eq_false_iff_ne]
    intro h2
    exact hp (wW.2 (List.prefix_iff_eq_take.2 h2.symm))
   ·rw [if_neg hp]; rfl
theorem aHX (z : Int) : ab8 (dec z, #[45].toList, ()) = some (aa4 z.natAbs, decide (z < 0), ()) := by
 unfold ab8
 show some (if [45].isPrefixOf (dec z) = true then _ else _) = _
 by_cases h : z < 0
 ·rw [aiW h, zo h]
  simp [List.isPrefixOf]
 ·rw [ab3 zc, zn h]
  have : [45].isPrefixOf (aa4 z.natAbs) = false := by
   have := aeA z.natAbs
   cases hd : aa4 z.natAbs with
   | nil => rfl
   | cons a l =>
    rw [hd] at this
    simp only [vo, ne_eq, Option.some.injEq] at this
    simp [List.isPrefixOf, Ne.symm this]
  rw [this]; simp
theorem ap2 {z : Int} (h : Bd 7 z.natAbs) : ag3 (dec z, ()) = some (sg z, ()) := aaE (enc := fun x : Int => (dec x, ())) z h (fun b hb => akD (Prod.mk.inj hb).1)
theorem aHc (a : List UInt8) (y) (h : ag3 (a, ()) = some y) : (aCV a).toO = some y := by
 obtain ⟨z, hp, hx, rfl⟩ := aaC h
 obtain ⟨rfl, -⟩ := Prod.mk.inj hx
 exact uC _ (aHX z) (uC _ (aN9 (aaF hp zc)) rfl)
end Go.Vs
