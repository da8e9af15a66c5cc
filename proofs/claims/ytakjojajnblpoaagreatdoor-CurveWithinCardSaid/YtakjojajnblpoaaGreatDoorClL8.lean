/-
  Trees of what the functions compute, and their laws. Own work; no condition.
-/
import Derived.Test.YtakjojajnblpoaaGreatDoorClL7
import Derived.Test.YtakjojajnblpoaaGreatDoorProg
set_option linter.unusedVariables false
set_option linter.unusedSimpArgs false
set_option maxRecDepth 100000
namespace Go.Vs
open Go Go.Vg Go.Proofs
noncomputable section
abbrev DTl (d : Int × List Int × List (Int × Int × Int × Int × Int × Int × Unit) × Bool × Bool × Unit) : Prop := Qq true ∧ (Qq (42 : TypeId) ∧ Qq (0 : Int) ∧ True ∧ True ∧ True) ∧ Qq true ∧ (Qq (25 : TypeId) ∧ Qq d.1 ∧ Qq d.2.1 ∧ Qq d.2.2.1 ∧ Qq d.2.2.2.1 ∧ Qq d.2.2.2.2.1 ∧ True) ∧ Qq true ∧ True
abbrev gP (d : Int × List Int × List (Int × Int × Int × Int × Int × Int × Unit) × Bool × Bool × Unit) (i : Int) := gi d.2.2.1 i (0, 0, 0, 0, 0, 0, ())
def aFK : LTab := [(70, 7, 4100, ⟨0, Bool × (List Int) × Unit, .appN (.c 3 1) 4 3 uk <| .nil, [3, 2, 1], [3, 1, 0], 1⟩), (70, 58, 5124, ⟨1, (Int) × Bool × (List Int) × Unit, .dat (.s 4) uk <| .appN (.c 3 1) 5 3 uk <| .nil, [3, 2, 1], [3, 1, 0], 1⟩), (70, 60, 5124, ⟨2, Bool × (List Int) × Unit, .appN (.c 3 1) 5 3 uk <| .nil, [3, 2, 1], [3, 1, 0], 1⟩), (70, 4014, 19459, ⟨3, (Int) × (Int) × (List Int) × Unit, .dat (.s 7) uk <| .dat (.s 6) uk <| .row 5 uk <| .nil, [5, 3, 2], [5, 3, 1, 0], 0⟩), (70, 60, 5123, ⟨4, (List Int) × Unit, .app (.c 3 1) 5 3 uk <| .nil, [3, 2, 1], [3, 1, 0], 1⟩)]
def ahG (i : (Int) × Bool × (List Int) × Unit) (d : Int × List Int × List uj × Bool × Bool × Unit) : TT (uS ⊕ tn) :=
 .tt <| .lt (i.2.2.1 : List Int) fun z4 => .vT uY <| .vT (vS (vX 3 z4) <| (ua 42 (2 : Int) <| (vY 4 0 (List.length z4) true) ∧ True ∧ True) ∧ DTl d) <| .ok (.inr (.inl ((false, z4, ()))))
def alS (d : Int × List Int × List uj × Bool × Bool × Unit) (i : (Int) × Bool × (List Int) × Unit) : TT (uS ⊕ tn) :=
 .ite (i.2.1)
 (.ite (decide (i.1 < len d.2.1))
  (.ite (decide (i.1 < 8))
   (.need (inb i.1 (len d.2.1)) <| .need (1 * 8 ≤ 140737488355328) <| .tt <| .lt (w64 (i.1 + 1) : Int) fun z => .lt ([w64 (gi d.2.1 i.1 0)] : List Int) fun z1 => .vT (vU z <| uD ∧ uy ∧ uq ∧ True) <| .vT (vS (vX 3 z1) <| (ua 42 (2 : Int) <| sa ∧ True ∧ True) ∧ DTl d) <| .ok (.inl ((z, false, z1, ()))))
   (.tt <| .vT uY <| .vT (tl ∧ DTl d) <| .ok (.inr (.inl ((true, [], ()))))))
  (.tt <| .vT uY <| .vT (tl ∧ DTl d) <| .ok (.inr (.inl ((true, [], ()))))))
 (.ite (decide (i.1 < len d.2.1))
  (.ite (decide (i.1 < 8))
   (.need (inb i.1 (len d.2.1)) <| .need ((List.length i.2.2.1 + 1) * 8 ≤ 140737488355328) <| .tt <| .lt (w64 (i.1 + 1) : Int) fun z2 => .lt (List.take (List.length i.2.2.1) i.2.2.1 ++ [w64 (gi d.2.1 i.1 0)] : List Int) fun z3 => .vT (vU z2 <| uD ∧ uy ∧ uq ∧ True) <| .need ((((3 : TypeId) = 3) ∧ ((z3 : List Int) = z3)) ∧ (true = true) ∧ (((42 : TypeId) = 42) ∧ (((2 : Int) = 2) ∧ ((((5) = (5)) ∧ (((0) = (0)) ∧ ((List.length i.2.2.1 + 1 = List.length z3) ∧ ((true) = (true))))) ∧ (True ∧ True)))) ∧ DTl d) <| .ok (.inl ((z2, false, z3, ()))))
   (ahG i d))
  (ahG i d))
def ah9 (d : Int × List Int × List uj × Bool × Bool × Unit) (j : Bool × List Int × Unit) (i1 : Bool × List Int × Unit) (i2 : (Int) × (Int) × (List Int) × Unit) : TT (uP ⊕ tn) :=
 .ite (decide (i2.1 < len i1.2.1))
 (.need (inb i2.1 (len i1.2.1)) <| .need (w64 (Int.tdiv 65535 (len i1.2.1)) ≠ 0) <| .need (inb i2.1 (len i1.2.1)) <| .tt <| .lt (w64 (i2.1 + 1) : Int) fun z9 => .lt (w64 (w64 (i2.2.1 + 1) + Int.tmod (List.getD i2.2.2.1 (0 + Int.toNat i2.1) 0) (w64 (Int.tdiv 65535 (len i1.2.1)))) : Int) fun z10 => .lt (List.set i2.2.2.1 (0 + Int.toNat i2.1) (w64 (z10 - 1)) : List Int) fun z11 => .vT (ue z10 z9 (w64 (Int.tdiv 65535 (len i1.2.1))) <| uD ∧ uy ∧ True) <| .vT (vS (vX 3 z11) <| (ua 42 (2 : Int) <| (vY 5 0 (List.length i1.2.1) true) ∧ True ∧ True) ∧ DTl d) <| .ok (.inl ((z9, z10, z11, ()))))
 (.ok (.inr (.inr (((2, List.take (List.length i1.2.1) i2.2.2.1, [], ()), ())))))
def alR (d : Int × List Int × List uj × Bool × Bool × Unit) (j : Bool × List Int × Unit) (i1 : Bool × (List Int) × Unit) : TT tn :=
 .ite (i1.1)
 (.triv (1 * 8 ≤ 140737488355328) zf <| .tt <| .lt ([w64 (65535 * (↑0 : Int))] : List Int) fun z6 => .vT uY <| .vT (vS (vX 3 z6) <| (ua 42 (2 : Int) <| sa ∧ True ∧ True) ∧ DTl d) <| .ok (.inl ((false, z6, ()))))
 (.ite (decide (len i1.2.1 < 2))
 (.need ((List.length i1.2.1 + 1) * 8 ≤ 140737488355328) <| .tt <| .lt (List.take (List.length i1.2.1) i1.2.1 ++ [w64 (65535 * len i1.2.1)] : List Int) fun z7 => .vT uY <| .need ((((3 : TypeId) = 3) ∧ ((z7 : List Int) = z7)) ∧ (true = true) ∧ (((42 : TypeId) = 42) ∧ (((2 : Int) = 2) ∧ ((((5) = (5)) ∧ (((0) = (0)) ∧ ((List.length i1.2.1 + 1 = List.length z7) ∧ ((true) = (true))))) ∧ (True ∧ True)))) ∧ DTl d) <| .ok (.inl ((false, z7, ()))))
 (.ite (d.2.2.2.2.1)
 (.need (len i1.2.1 ≠ 0) <| .loop 3 (.tt <| .lt (i1.2.1 : List Int) fun z8 => .vT (ue (0 : Int) (0 : Int) (w64 (Int.tdiv 65535 (len z8))) <| uD ∧ uy ∧ True) <| .vT (vS (vX 3 z8) <| (ua 42 (2 : Int) <| (vY 5 0 (List.length z8) true) ∧ True ∧ True) ∧ DTl d) <| .ok ((0, 0, z8, ()))) (ah9 d j i1))
 (.ok (.inr (((2, List.take (List.length i1.2.1) i1.2.1, [], ()), ()))))))
def ah8 (d : Int × List Int × List uj × Bool × Bool × Unit) (j : Bool × List Int × Unit) (i3 : List Int × Unit) (i4 : (Int) × (Int) × (List Int) × Unit) : TT (uP ⊕ (tW ⊕ ti)) :=
 .ite (decide (i4.1 < len i3.1))
 (.need (inb i4.1 (len i3.1)) <| .need (w64 (Int.tdiv 65535 (len i3.1)) ≠ 0) <| .need (inb i4.1 (len i3.1)) <| .tt <| .lt (w64 (i4.1 + 1) : Int) fun z14 => .lt (w64 (w64 (i4.2.1 + 1) + Int.tmod (List.getD i4.2.2.1 (0 + Int.toNat i4.1) 0) (w64 (Int.tdiv 65535 (len i3.1)))) : Int) fun z15 => .lt (List.set i4.2.2.1 (0 + Int.toNat i4.1) (w64 (z15 - 1)) : List Int) fun z16 => .vT (ue z15 z14 (w64 (Int.tdiv 65535 (len i3.1))) <| uD ∧ uy ∧ True) <| .vT (vS (vX 3 z16) <| (ua 42 (2 : Int) <| (vY 5 0 (List.length i3.1) true) ∧ True ∧ True) ∧ DTl d) <| .ok (.inl ((z14, z15, z16, ()))))
 (.ok (.inr (.inr (((2, List.take (List.length i3.1) i4.2.2.1, [], ()), ())))))
def alQ (d : Int × List Int × List uj × Bool × Bool × Unit) (j : Bool × List Int × Unit) (i3 : (List Int) × Unit) : TT (tW ⊕ ti) :=
 .ite (decide (len i3.1 < 2))
 (.need ((List.length i3.1 + 1) * 8 ≤ 140737488355328) <| .tt <| .lt (List.take (List.length i3.1) i3.1 ++ [w64 (65535 * len i3.1)] : List Int) fun z13 => .vT uY <| .need ((((3 : TypeId) = 3) ∧ ((z13 : List Int) = z13)) ∧ (true = true) ∧ (((42 : TypeId) = 42) ∧ (((2 : Int) = 2) ∧ ((((5) = (5)) ∧ (((0) = (0)) ∧ ((List.length i3.1 + 1 = List.length z13) ∧ ((true) = (true))))) ∧ (True ∧ True)))) ∧ DTl d) <| .ok (.inl ((z13, ()))))
 (.ite (d.2.2.2.2.1)
 (.need (len i3.1 ≠ 0) <| .loop 3 (.tt <| .vT (ue (0 : Int) (0 : Int) (w64 (Int.tdiv 65535 (len i3.1))) <| uD ∧ uy ∧ True) <| .vT (vS (vX 3 i3.1) <| (ua 42 (2 : Int) <| (vY 5 0 (List.length i3.1) true) ∧ True ∧ True) ∧ DTl d) <| .ok ((0, 0, i3.1, ()))) (ah8 d j i3))
 (.ok (.inr (((2, List.take (List.length i3.1) i3.1, [], ()), ())))))
def aiA (d : Int × List Int × List uj × Bool × Bool × Unit) (j : Bool × (List Int) × Unit) : TT ti :=
 .ite (j.1)
 (.loop 2 (.tt <| .vT uY <| .vT (tl ∧ DTl d) <| .ok ((true, [], ()))) (alR d j))
 (.loop 4 (.tt <| .lt (j.2.1 : List Int) fun z12 => .vT uY <| .vT (vS (vX 3 z12) <| (ua 42 (2 : Int) <| (vY 5 0 (List.length z12) true) ∧ True ∧ True) ∧ DTl d) <| .ok ((z12, ()))) (alQ d j))
def akB (d : Int × List Int × List uj × Bool × Bool × Unit) : TT ti :=
 .join 0 (ι := Bool × (List Int) × Unit) (.loop 1 (.tt <| .vT (vU (0 : Int) <| uD ∧ uy ∧ uq ∧ True) <| .vT (tl ∧ DTl d) <| .ok ((0, true, [], ()))) (alS d)) (aiA d)
def aBG : LTab := [(69, 250, 11268, ⟨0, (Int) × (Int) × Bool × (List uj) × Unit, .dat (.s 6) uk <| .dat (.s 5) uk <| .appN (.c 3 2) 11 64 tZ <| .nil, [4, 3, 2, 1], [3, 1, 0], 1⟩)]
def afT (d : Int × List Int × List uj × Bool × Bool × Unit) : TT sb :=
 .ite (d.2.2.2.2.1)
 (.triv (asT Int 0 ≤ 1 ∧ 1 ≤ (↑1 : Int)) zf <| .triv (inb (w64 (1 - 1)) (↑1 : Int)) zf <| .ok (.inr (((3, [], List.take 1 (List.set [(0, 1000000, 0, 1, 1, 0, ())] (0 + Int.toNat (w64 (1 - 1))) (1000000, (List.getD [(0, 1000000, 0, 1, 1, 0, ())] (0 + Int.toNat (w64 (1 - 1))) (0, 0, 0, 0, 0, 0, ())).2)), ()), ()))))
 (.triv (inb (w64 (1 - 1)) (↑1 : Int)) zf <| .ok (.inr (((3, [], List.take 1 (List.set [(0, 1000000, 0, 1, 1, 0, ())] (0 + Int.toNat (w64 (1 - 1))) (1000000, (List.getD [(0, 1000000, 0, 1, 1, 0, ())] (0 + Int.toNat (w64 (1 - 1))) (0, 0, 0, 0, 0, 0, ())).2)), ()), ()))))
def aiW (d : Int × List Int × List uj × Bool × Bool × Unit) (i : (Int) × (Int) × Bool × (List uj) × Unit) : TT sb :=
 .ite (i.2.2.1)
 (.ite (decide (i.1 < if 3 < len d.2.2.1 then 3 else len d.2.2.1))
  (.need (inb i.1 (len d.2.2.1)) <| .triv (asT Int 4 ≠ 0) zf <| .ite (d.2.2.2.1)
   (.triv (asT Int 4 ≠ 0) zf <| .ite (d.2.2.2.2.1)
    (.call (abM (w64 (1 + w64 (Int.tmod (gP d i.1).2.2.2.2.1 4)), w64 (1 + w64 (Int.tmod (gP d i.1).2.2.2.2.2.1 4)), ())) Dd1 fun y =>
     .ite (y.1)
     (.need (1 * 48 ≤ 140737488355328) <| .tt <| .lt (w64 (i.1 + 1) : Int) fun z1 => .lt (w64 (w64 (i.2.1 + 1000) + w64 (1000 * w64 (gP d i.1).1)) : Int) fun z2 => .lt ([(z2, if w64 (0 - w64 (100 * w64 (gP d i.1).2.1)) > w64 (100 * w64 (gP d i.1).2.1) then w64 (0 - w64 (100 * w64 (gP d i.1).2.1)) else w64 (100 * w64 (gP d i.1).2.1), if w64 (0 - w64 (10 * w64 (gP d i.1).2.2.1)) > w64 (10 * w64 (gP d i.1).2.2.1) then w64 (0 - w64 (10 * w64 (gP d i.1).2.2.1)) else w64 (10 * w64 (gP d i.1).2.2.1), 1, w64 (1 + w64 (Int.tmod (gP d i.1).2.2.2.2.2.1 4)), w64 (10 * w64 (gP d i.1).2.2.2.1), ())] : List uj) fun z3 => .vT (ue z2 z1 (if 3 < len d.2.2.1 then 3 else len d.2.2.1 : Int) <| uD ∧ uy ∧ uq ∧ True) <| .vT (vS (vX 64 z3) <| uE ∧ DTl d) <| .ok (.inl ((z1, z2, false, z3, ()))))
     (.need (1 * 48 ≤ 140737488355328) <| .tt <| .lt (w64 (i.1 + 1) : Int) fun z4 => .lt (w64 (w64 (i.2.1 + 1000) + w64 (1000 * w64 (gP d i.1).1)) : Int) fun z5 => .lt ([(z5, if w64 (0 - w64 (100 * w64 (gP d i.1).2.1)) > w64 (100 * w64 (gP d i.1).2.1) then w64 (0 - w64 (100 * w64 (gP d i.1).2.1)) else w64 (100 * w64 (gP d i.1).2.1), if w64 (0 - w64 (10 * w64 (gP d i.1).2.2.1)) > w64 (10 * w64 (gP d i.1).2.2.1) then w64 (0 - w64 (10 * w64 (gP d i.1).2.2.1)) else w64 (10 * w64 (gP d i.1).2.2.1), w64 (1 + w64 (Int.tmod (gP d i.1).2.2.2.2.1 4)), w64 (1 + w64 (Int.tmod (gP d i.1).2.2.2.2.2.1 4)), w64 (10 * w64 (gP d i.1).2.2.2.1), ())] : List uj) fun z6 => .vT (ue z5 z4 (if 3 < len d.2.2.1 then 3 else len d.2.2.1 : Int) <| uD ∧ uy ∧ uq ∧ True) <| .vT (vS (vX 64 z6) <| uE ∧ DTl d) <| .ok (.inl ((z4, z5, false, z6, ())))))
    (.call (abM (w64 (1 + w64 (Int.tmod (gP d i.1).2.2.2.2.1 4)), w64 (1 + w64 (Int.tmod (gP d i.1).2.2.2.2.2.1 4)), ())) Dd1 fun y1 =>
     .ite (y1.1)
     (.need (1 * 48 ≤ 140737488355328) <| .tt <| .lt (w64 (i.1 + 1) : Int) fun z7 => .lt (w64 (w64 (i.2.1 + 1000) + w64 (1000 * w64 (gP d i.1).1)) : Int) fun z8 => .lt ([(z8, w64 (100 * w64 (gP d i.1).2.1), w64 (10 * w64 (gP d i.1).2.2.1), 1, w64 (1 + w64 (Int.tmod (gP d i.1).2.2.2.2.2.1 4)), w64 (10 * w64 (gP d i.1).2.2.2.1), ())] : List uj) fun z9 => .vT (ue z8 z7 (if 3 < len d.2.2.1 then 3 else len d.2.2.1 : Int) <| uD ∧ uy ∧ uq ∧ True) <| .vT (vS (vX 64 z9) <| uE ∧ DTl d) <| .ok (.inl ((z7, z8, false, z9, ()))))
     (.need (1 * 48 ≤ 140737488355328) <| .tt <| .lt (w64 (i.1 + 1) : Int) fun z10 => .lt (w64 (w64 (i.2.1 + 1000) + w64 (1000 * w64 (gP d i.1).1)) : Int) fun z11 => .lt ([(z11, w64 (100 * w64 (gP d i.1).2.1), w64 (10 * w64 (gP d i.1).2.2.1), w64 (1 + w64 (Int.tmod (gP d i.1).2.2.2.2.1 4)), w64 (1 + w64 (Int.tmod (gP d i.1).2.2.2.2.2.1 4)), w64 (10 * w64 (gP d i.1).2.2.2.1), ())] : List uj) fun z12 => .vT (ue z11 z10 (if 3 < len d.2.2.1 then 3 else len d.2.2.1 : Int) <| uD ∧ uy ∧ uq ∧ True) <| .vT (vS (vX 64 z12) <| uE ∧ DTl d) <| .ok (.inl ((z10, z11, false, z12, ()))))))
   (.ite (d.2.2.2.2.1)
    (.call (abM (w64 (1 + w64 (Int.tmod (gP d i.1).2.2.2.2.1 4)), 1, ())) Dd1 fun y2 =>
     .ite (y2.1)
     (.need (1 * 48 ≤ 140737488355328) <| .tt <| .lt (w64 (i.1 + 1) : Int) fun z13 => .lt (w64 (w64 (i.2.1 + 1000) + w64 (1000 * w64 (gP d i.1).1)) : Int) fun z14 => .lt ([(z14, if w64 (0 - w64 (100 * w64 (gP d i.1).2.1)) > w64 (100 * w64 (gP d i.1).2.1) then w64 (0 - w64 (100 * w64 (gP d i.1).2.1)) else w64 (100 * w64 (gP d i.1).2.1), if w64 (0 - w64 (10 * w64 (gP d i.1).2.2.1)) > w64 (10 * w64 (gP d i.1).2.2.1) then w64 (0 - w64 (10 * w64 (gP d i.1).2.2.1)) else w64 (10 * w64 (gP d i.1).2.2.1), 1, 1, w64 (10 * w64 (gP d i.1).2.2.2.1), ())] : List uj) fun z15 => .vT (ue z14 z13 (if 3 < len d.2.2.1 then 3 else len d.2.2.1 : Int) <| uD ∧ uy ∧ uq ∧ True) <| .vT (vS (vX 64 z15) <| uE ∧ DTl d) <| .ok (.inl ((z13, z14, false, z15, ()))))
     (.need (1 * 48 ≤ 140737488355328) <| .tt <| .lt (w64 (i.1 + 1) : Int) fun z16 => .lt (w64 (w64 (i.2.1 + 1000) + w64 (1000 * w64 (gP d i.1).1)) : Int) fun z17 => .lt ([(z17, if w64 (0 - w64 (100 * w64 (gP d i.1).2.1)) > w64 (100 * w64 (gP d i.1).2.1) then w64 (0 - w64 (100 * w64 (gP d i.1).2.1)) else w64 (100 * w64 (gP d i.1).2.1), if w64 (0 - w64 (10 * w64 (gP d i.1).2.2.1)) > w64 (10 * w64 (gP d i.1).2.2.1) then w64 (0 - w64 (10 * w64 (gP d i.1).2.2.1)) else w64 (10 * w64 (gP d i.1).2.2.1), w64 (1 + w64 (Int.tmod (gP d i.1).2.2.2.2.1 4)), 1, w64 (10 * w64 (gP d i.1).2.2.2.1), ())] : List uj) fun z18 => .vT (ue z17 z16 (if 3 < len d.2.2.1 then 3 else len d.2.2.1 : Int) <| uD ∧ uy ∧ uq ∧ True) <| .vT (vS (vX 64 z18) <| uE ∧ DTl d) <| .ok (.inl ((z16, z17, false, z18, ())))))
    (.call (abM (w64 (1 + w64 (Int.tmod (gP d i.1).2.2.2.2.1 4)), 1, ())) Dd1 fun y3 =>
     .ite (y3.1)
     (.need (1 * 48 ≤ 140737488355328) <| .tt <| .lt (w64 (i.1 + 1) : Int) fun z19 => .lt (w64 (w64 (i.2.1 + 1000) + w64 (1000 * w64 (gP d i.1).1)) : Int) fun z20 => .lt ([(z20, w64 (100 * w64 (gP d i.1).2.1), w64 (10 * w64 (gP d i.1).2.2.1), 1, 1, w64 (10 * w64 (gP d i.1).2.2.2.1), ())] : List uj) fun z21 => .vT (ue z20 z19 (if 3 < len d.2.2.1 then 3 else len d.2.2.1 : Int) <| uD ∧ uy ∧ uq ∧ True) <| .vT (vS (vX 64 z21) <| uE ∧ DTl d) <| .ok (.inl ((z19, z20, false, z21, ()))))
     (.need (1 * 48 ≤ 140737488355328) <| .tt <| .lt (w64 (i.1 + 1) : Int) fun z22 => .lt (w64 (w64 (i.2.1 + 1000) + w64 (1000 * w64 (gP d i.1).1)) : Int) fun z23 => .lt ([(z23, w64 (100 * w64 (gP d i.1).2.1), w64 (10 * w64 (gP d i.1).2.2.1), w64 (1 + w64 (Int.tmod (gP d i.1).2.2.2.2.1 4)), 1, w64 (10 * w64 (gP d i.1).2.2.2.1), ())] : List uj) fun z24 => .vT (ue z23 z22 (if 3 < len d.2.2.1 then 3 else len d.2.2.1 : Int) <| uD ∧ uy ∧ uq ∧ True) <| .vT (vS (vX 64 z24) <| uE ∧ DTl d) <| .ok (.inl ((z22, z23, false, z24, ())))))))
  (.ite ((if 3 < len d.2.2.1 then 3 else len d.2.2.1) == 0)
   (afT d)
   (.ite (d.2.2.2.2.1)
    (.bad)
    (.bad))))
 (.ite (decide (i.1 < if 3 < len d.2.2.1 then 3 else len d.2.2.1))
  (.need (inb i.1 (len d.2.2.1)) <| .triv (asT Int 4 ≠ 0) zf <| .ite (d.2.2.2.1)
   (.triv (asT Int 4 ≠ 0) zf <| .ite (d.2.2.2.2.1)
    (.call (abM (w64 (1 + w64 (Int.tmod (gP d i.1).2.2.2.2.1 4)), w64 (1 + w64 (Int.tmod (gP d i.1).2.2.2.2.2.1 4)), ())) Dd1 fun y4 =>
     .ite (y4.1)
     (.need ((List.length i.2.2.2.1 + 1) * 48 ≤ 140737488355328) <| .tt <| .lt (w64 (i.1 + 1) : Int) fun z25 => .lt (w64 (w64 (i.2.1 + 1000) + w64 (1000 * w64 (gP d i.1).1)) : Int) fun z26 => .lt (List.take (List.length i.2.2.2.1) i.2.2.2.1 ++ [(z26, if w64 (0 - w64 (100 * w64 (gP d i.1).2.1)) > w64 (100 * w64 (gP d i.1).2.1) then w64 (0 - w64 (100 * w64 (gP d i.1).2.1)) else w64 (100 * w64 (gP d i.1).2.1), if w64 (0 - w64 (10 * w64 (gP d i.1).2.2.1)) > w64 (10 * w64 (gP d i.1).2.2.1) then w64 (0 - w64 (10 * w64 (gP d i.1).2.2.1)) else w64 (10 * w64 (gP d i.1).2.2.1), 1, w64 (1 + w64 (Int.tmod (gP d i.1).2.2.2.2.2.1 4)), w64 (10 * w64 (gP d i.1).2.2.2.1), ())] : List uj) fun z27 => .vT (ue z26 z25 (if 3 < len d.2.2.1 then 3 else len d.2.2.1 : Int) <| uD ∧ uy ∧ uq ∧ True) <| .need ((((64 : TypeId) = 64) ∧ ((z27 : List uj) = z27)) ∧ (true = true) ∧ (((42 : TypeId) = 42) ∧ (((3 : Int) = 3) ∧ (True ∧ ((((11) = (11)) ∧ (((0) = (0)) ∧ ((List.length i.2.2.2.1 + 1 = List.length z27) ∧ ((true) = (true))))) ∧ True)))) ∧ DTl d) <| .ok (.inl ((z25, z26, false, z27, ()))))
     (.need ((List.length i.2.2.2.1 + 1) * 48 ≤ 140737488355328) <| .tt <| .lt (w64 (i.1 + 1) : Int) fun z28 => .lt (w64 (w64 (i.2.1 + 1000) + w64 (1000 * w64 (gP d i.1).1)) : Int) fun z29 => .lt (List.take (List.length i.2.2.2.1) i.2.2.2.1 ++ [(z29, if w64 (0 - w64 (100 * w64 (gP d i.1).2.1)) > w64 (100 * w64 (gP d i.1).2.1) then w64 (0 - w64 (100 * w64 (gP d i.1).2.1)) else w64 (100 * w64 (gP d i.1).2.1), if w64 (0 - w64 (10 * w64 (gP d i.1).2.2.1)) > w64 (10 * w64 (gP d i.1).2.2.1) then w64 (0 - w64 (10 * w64 (gP d i.1).2.2.1)) else w64 (10 * w64 (gP d i.1).2.2.1), w64 (1 + w64 (Int.tmod (gP d i.1).2.2.2.2.1 4)), w64 (1 + w64 (Int.tmod (gP d i.1).2.2.2.2.2.1 4)), w64 (10 * w64 (gP d i.1).2.2.2.1), ())] : List uj) fun z30 => .vT (ue z29 z28 (if 3 < len d.2.2.1 then 3 else len d.2.2.1 : Int) <| uD ∧ uy ∧ uq ∧ True) <| .need ((((64 : TypeId) = 64) ∧ ((z30 : List uj) = z30)) ∧ (true = true) ∧ (((42 : TypeId) = 42) ∧ (((3 : Int) = 3) ∧ (True ∧ ((((11) = (11)) ∧ (((0) = (0)) ∧ ((List.length i.2.2.2.1 + 1 = List.length z30) ∧ ((true) = (true))))) ∧ True)))) ∧ DTl d) <| .ok (.inl ((z28, z29, false, z30, ())))))
    (.call (abM (w64 (1 + w64 (Int.tmod (gP d i.1).2.2.2.2.1 4)), w64 (1 + w64 (Int.tmod (gP d i.1).2.2.2.2.2.1 4)), ())) Dd1 fun y5 =>
     .ite (y5.1)
     (.need ((List.length i.2.2.2.1 + 1) * 48 ≤ 140737488355328) <| .tt <| .lt (w64 (i.1 + 1) : Int) fun z31 => .lt (w64 (w64 (i.2.1 + 1000) + w64 (1000 * w64 (gP d i.1).1)) : Int) fun z32 => .lt (List.take (List.length i.2.2.2.1) i.2.2.2.1 ++ [(z32, w64 (100 * w64 (gP d i.1).2.1), w64 (10 * w64 (gP d i.1).2.2.1), 1, w64 (1 + w64 (Int.tmod (gP d i.1).2.2.2.2.2.1 4)), w64 (10 * w64 (gP d i.1).2.2.2.1), ())] : List uj) fun z33 => .vT (ue z32 z31 (if 3 < len d.2.2.1 then 3 else len d.2.2.1 : Int) <| uD ∧ uy ∧ uq ∧ True) <| .need ((((64 : TypeId) = 64) ∧ ((z33 : List uj) = z33)) ∧ (true = true) ∧ (((42 : TypeId) = 42) ∧ (((3 : Int) = 3) ∧ (True ∧ ((((11) = (11)) ∧ (((0) = (0)) ∧ ((List.length i.2.2.2.1 + 1 = List.length z33) ∧ ((true) = (true))))) ∧ True)))) ∧ DTl d) <| .ok (.inl ((z31, z32, false, z33, ()))))
     (.need ((List.length i.2.2.2.1 + 1) * 48 ≤ 140737488355328) <| .tt <| .lt (w64 (i.1 + 1) : Int) fun z34 => .lt (w64 (w64 (i.2.1 + 1000) + w64 (1000 * w64 (gP d i.1).1)) : Int) fun z35 => .lt (List.take (List.length i.2.2.2.1) i.2.2.2.1 ++ [(z35, w64 (100 * w64 (gP d i.1).2.1), w64 (10 * w64 (gP d i.1).2.2.1), w64 (1 + w64 (Int.tmod (gP d i.1).2.2.2.2.1 4)), w64 (1 + w64 (Int.tmod (gP d i.1).2.2.2.2.2.1 4)), w64 (10 * w64 (gP d i.1).2.2.2.1), ())] : List uj) fun z36 => .vT (ue z35 z34 (if 3 < len d.2.2.1 then 3 else len d.2.2.1 : Int) <| uD ∧ uy ∧ uq ∧ True) <| .need ((((64 : TypeId) = 64) ∧ ((z36 : List uj) = z36)) ∧ (true = true) ∧ (((42 : TypeId) = 42) ∧ (((3 : Int) = 3) ∧ (True ∧ ((((11) = (11)) ∧ (((0) = (0)) ∧ ((List.length i.2.2.2.1 + 1 = List.length z36) ∧ ((true) = (true))))) ∧ True)))) ∧ DTl d) <| .ok (.inl ((z34, z35, false, z36, ()))))))
   (.ite (d.2.2.2.2.1)
    (.call (abM (w64 (1 + w64 (Int.tmod (gP d i.1).2.2.2.2.1 4)), 1, ())) Dd1 fun y6 =>
     .ite (y6.1)
     (.need ((List.length i.2.2.2.1 + 1) * 48 ≤ 140737488355328) <| .tt <| .lt (w64 (i.1 + 1) : Int) fun z37 => .lt (w64 (w64 (i.2.1 + 1000) + w64 (1000 * w64 (gP d i.1).1)) : Int) fun z38 => .lt (List.take (List.length i.2.2.2.1) i.2.2.2.1 ++ [(z38, if w64 (0 - w64 (100 * w64 (gP d i.1).2.1)) > w64 (100 * w64 (gP d i.1).2.1) then w64 (0 - w64 (100 * w64 (gP d i.1).2.1)) else w64 (100 * w64 (gP d i.1).2.1), if w64 (0 - w64 (10 * w64 (gP d i.1).2.2.1)) > w64 (10 * w64 (gP d i.1).2.2.1) then w64 (0 - w64 (10 * w64 (gP d i.1).2.2.1)) else w64 (10 * w64 (gP d i.1).2.2.1), 1, 1, w64 (10 * w64 (gP d i.1).2.2.2.1), ())] : List uj) fun z39 => .vT (ue z38 z37 (if 3 < len d.2.2.1 then 3 else len d.2.2.1 : Int) <| uD ∧ uy ∧ uq ∧ True) <| .need ((((64 : TypeId) = 64) ∧ ((z39 : List uj) = z39)) ∧ (true = true) ∧ (((42 : TypeId) = 42) ∧ (((3 : Int) = 3) ∧ (True ∧ ((((11) = (11)) ∧ (((0) = (0)) ∧ ((List.length i.2.2.2.1 + 1 = List.length z39) ∧ ((true) = (true))))) ∧ True)))) ∧ DTl d) <| .ok (.inl ((z37, z38, false, z39, ()))))
     (.need ((List.length i.2.2.2.1 + 1) * 48 ≤ 140737488355328) <| .tt <| .lt (w64 (i.1 + 1) : Int) fun z40 => .lt (w64 (w64 (i.2.1 + 1000) + w64 (1000 * w64 (gP d i.1).1)) : Int) fun z41 => .lt (List.take (List.length i.2.2.2.1) i.2.2.2.1 ++ [(z41, if w64 (0 - w64 (100 * w64 (gP d i.1).2.1)) > w64 (100 * w64 (gP d i.1).2.1) then w64 (0 - w64 (100 * w64 (gP d i.1).2.1)) else w64 (100 * w64 (gP d i.1).2.1), if w64 (0 - w64 (10 * w64 (gP d i.1).2.2.1)) > w64 (10 * w64 (gP d i.1).2.2.1) then w64 (0 - w64 (10 * w64 (gP d i.1).2.2.1)) else w64 (10 * w64 (gP d i.1).2.2.1), w64 (1 + w64 (Int.tmod (gP d i.1).2.2.2.2.1 4)), 1, w64 (10 * w64 (gP d i.1).2.2.2.1), ())] : List uj) fun z42 => .vT (ue z41 z40 (if 3 < len d.2.2.1 then 3 else len d.2.2.1 : Int) <| uD ∧ uy ∧ uq ∧ True) <| .need ((((64 : TypeId) = 64) ∧ ((z42 : List uj) = z42)) ∧ (true = true) ∧ (((42 : TypeId) = 42) ∧ (((3 : Int) = 3) ∧ (True ∧ ((((11) = (11)) ∧ (((0) = (0)) ∧ ((List.length i.2.2.2.1 + 1 = List.length z42) ∧ ((true) = (true))))) ∧ True)))) ∧ DTl d) <| .ok (.inl ((z40, z41, false, z42, ())))))
    (.call (abM (w64 (1 + w64 (Int.tmod (gP d i.1).2.2.2.2.1 4)), 1, ())) Dd1 fun y7 =>
     .ite (y7.1)
     (.need ((List.length i.2.2.2.1 + 1) * 48 ≤ 140737488355328) <| .tt <| .lt (w64 (i.1 + 1) : Int) fun z43 => .lt (w64 (w64 (i.2.1 + 1000) + w64 (1000 * w64 (gP d i.1).1)) : Int) fun z44 => .lt (List.take (List.length i.2.2.2.1) i.2.2.2.1 ++ [(z44, w64 (100 * w64 (gP d i.1).2.1), w64 (10 * w64 (gP d i.1).2.2.1), 1, 1, w64 (10 * w64 (gP d i.1).2.2.2.1), ())] : List uj) fun z45 => .vT (ue z44 z43 (if 3 < len d.2.2.1 then 3 else len d.2.2.1 : Int) <| uD ∧ uy ∧ uq ∧ True) <| .need ((((64 : TypeId) = 64) ∧ ((z45 : List uj) = z45)) ∧ (true = true) ∧ (((42 : TypeId) = 42) ∧ (((3 : Int) = 3) ∧ (True ∧ ((((11) = (11)) ∧ (((0) = (0)) ∧ ((List.length i.2.2.2.1 + 1 = List.length z45) ∧ ((true) = (true))))) ∧ True)))) ∧ DTl d) <| .ok (.inl ((z43, z44, false, z45, ()))))
     (.need ((List.length i.2.2.2.1 + 1) * 48 ≤ 140737488355328) <| .tt <| .lt (w64 (i.1 + 1) : Int) fun z46 => .lt (w64 (w64 (i.2.1 + 1000) + w64 (1000 * w64 (gP d i.1).1)) : Int) fun z47 => .lt (List.take (List.length i.2.2.2.1) i.2.2.2.1 ++ [(z47, w64 (100 * w64 (gP d i.1).2.1), w64 (10 * w64 (gP d i.1).2.2.1), w64 (1 + w64 (Int.tmod (gP d i.1).2.2.2.2.1 4)), 1, w64 (10 * w64 (gP d i.1).2.2.2.1), ())] : List uj) fun z48 => .vT (ue z47 z46 (if 3 < len d.2.2.1 then 3 else len d.2.2.1 : Int) <| uD ∧ uy ∧ uq ∧ True) <| .need ((((64 : TypeId) = 64) ∧ ((z48 : List uj) = z48)) ∧ (true = true) ∧ (((42 : TypeId) = 42) ∧ (((3 : Int) = 3) ∧ (True ∧ ((((11) = (11)) ∧ (((0) = (0)) ∧ ((List.length i.2.2.2.1 + 1 = List.length z48) ∧ ((true) = (true))))) ∧ True)))) ∧ DTl d) <| .ok (.inl ((z46, z47, false, z48, ())))))))
  (.ite ((if 3 < len d.2.2.1 then 3 else len d.2.2.1) == 0)
   (afT d)
   (.ite (d.2.2.2.2.1)
    (.need (asT Int 0 ≤ 1 ∧ 1 ≤ len i.2.2.2.1) <| .triv (inb (w64 (1 - 1)) (↑1 : Int)) zf <| .ok (.inr (((3, [], List.take 1 (List.set i.2.2.2.1 (0 + Int.toNat (w64 (1 - 1))) (1000000, (List.getD i.2.2.2.1 (0 + Int.toNat (w64 (1 - 1))) (0, 0, 0, 0, 0, 0, ())).2)), ()), ()))))
    (.need (inb (w64 ((if 3 < len d.2.2.1 then 3 else len d.2.2.1) - 1)) (len i.2.2.2.1)) <| .ok (.inr (((3, [], List.take (List.length i.2.2.2.1) (List.set i.2.2.2.1 (0 + Int.toNat (w64 ((if 3 < len d.2.2.1 then 3 else len d.2.2.1) - 1))) (1000000, (List.getD i.2.2.2.1 (0 + Int.toNat (w64 ((if 3 < len d.2.2.1 then 3 else len d.2.2.1) - 1))) (0, 0, 0, 0, 0, 0, ())).2)), ()), ())))))))
def agZ (d : Int × List Int × List uj × Bool × Bool × Unit) : TT ti :=
 .loop 0 (.tt <| .lt ([] : List uj) fun z => .vT (ue (0 : Int) (0 : Int) (if 3 < len d.2.2.1 then 3 else len d.2.2.1 : Int) <| uD ∧ uy ∧ uq ∧ True) <| .vT ((ua 42 (3 : Int) <| True ∧ True ∧ True) ∧ DTl d) <| .ok ((0, 0, true, z, ()))) (aiW d)
end
open Go Go.Vg
noncomputable section
abbrev DrT := Int × List Int × List adJ × Bool × Bool × Unit
def aC1 (l : List Int) : Prop := ∀ v ∈ l, inR v 0 65535
def aR3 (d : DrT) : Prop := inR d.1 0 255 ∧ aC1 d.2.1 ∧ ∀ s ∈ d.2.2.1, inR s.1 0 255 ∧ inR s.2.1 (-32768) 32767 ∧ inR s.2.2.1 (-32768) 32767 ∧ inR s.2.2.2.1 (-32768) 32767 ∧ inR s.2.2.2.2.1 0 255 ∧ inR s.2.2.2.2.2.1 0 255
def ahZ (x : DrT × Unit) : Option (CvT × Unit) := (akB x.1).toO
def afJ (x : DrT × Unit) : Option (CvT × Unit) := (agZ x.1).toO
end
set_option maxRecDepth 100000
open Go Go.Vg Go.Proofs
noncomputable section
def aIS : LTab := []
def amU (d : Int × List Int × List uj × Bool × Bool × Unit) : TT ti :=
 .triv (asT Int 4 ≠ 0) zf <| .ite (Int.tmod d.1 4 == 0)
 (.ok (((1, [], [], ()), ())))
 (.ite (Int.tmod d.1 4 == 1)
 (.call (afJ ((d.1, d.2.1, d.2.2.1, d.2.2.2.1, d.2.2.2.2.1, ()), ())) aOc fun y =>
 .ok (((y.1.1, y.1.2.1, y.1.2.2.1, ()), ())))
 (.call (ahZ ((d.1, d.2.1, d.2.2.1, d.2.2.2.1, d.2.2.2.2.1, ()), ())) aOc fun y1 =>
 .ok (((y1.1.1, y1.1.2.1, y1.1.2.2.1, ()), ()))))
end
noncomputable section
def ajR (x : DrT × Unit) : Option (CvT × Unit) := (amU x.1).toO
end
theorem aqG {l : List Int} (h : aC1 l) (k : Nat) : 0 ≤ l.getD k 0 ∧ l.getD k 0 ≤ 65535 := by
 rw [yd]
 rcases zr k l.length with hk | hk
 ·rw [zP hk]; exact h _ (yg hk)
 ·rw [xU hk]; decide
theorem aCs {l : List Int} {v : Int} (h : aC1 l) (hv : 0 ≤ v ∧ v ≤ 65535) : aC1 (l ++ [v]) := by
 intro w hw
 rcases zK.mp hw with hw | hw
 ·exact h w hw
 ·rw [zZ.mp hw]; exact hv
theorem aPL {l : List Int} {v : Int} {k : Nat} (h : aC1 l) (hv : 0 ≤ v ∧ v ≤ 65535) : aC1 (l.set k v) := by
 intro w hw
 rcases List.mem_or_eq_of_mem_set hw with hw | hw
 ·exact h w hw
 ·rw [hw]; exact hv
theorem aM5 {l : List Int} {k : Nat} (h : aC1 l) : aC1 (l.take k) := fun w hw => h w (xc hw)
theorem aLj {A : Type} {R : Int × Int × List Int × Unit → Option ((Int × Int × List Int × Unit) ⊕ (A ⊕ (CvT × Unit)))} (l : List Int) (hl : 2 ≤ l.length ∧ l.length ≤ 8) (he : aC1 l)
  (hs : ∀ (k : Nat) (a : Int) (s : List Int), k < l.length → s.length = l.length → aC1 s → 0 ≤ a → a ≤ 65535 → R ((k : Int), a, s, ()) = some (.inl (((k + 1 : Nat) : Int), a + 1 + Int.tmod (s.getD k 0) (Int.tdiv 65535 l.length), s.set k (a + Int.tmod (s.getD k 0) (Int.tdiv 65535 l.length)), ())))
  (hd : ∀ (a : Int) (s : List Int), s.length = l.length → R ((l.length : Int), a, s, ()) = some (.inr (.inr ((2, s.take l.length, [], ()), ())))) :
  ∃ t, ac6 R (0, 0, l, ()) = some (.inr ((2, t, [], ()), ())) ∧ adZ t := by
 obtain ⟨n, hn⟩ : ∃ n : Nat, n = l.length := ⟨_, rfl⟩
 rw [← hn] at hl hs hd
 have hq : Int.tdiv 65535 (n : Int) = 65535 / (n : Int) := zN zc
 have hq1 : (n : Int) * (65535 / (n : Int)) ≤ 65535 := by have := Int.ediv_mul_le 65535 (b := (n : Int)) zc; rw [yN]; omega
 have hq0 : 1 ≤ 65535 / (n : Int) := by
  rw [xy zc]; omega
 rw [hq] at hs
 obtain ⟨q, hqq⟩ : ∃ q : Int, q = 65535 / (n : Int) := ⟨_, rfl⟩
 rw [← hqq] at hs hq1 hq0
 suffices H : ∃ a, ac6 R (0, 0, l, ()) = some a ∧ ∃ t, a = .inr ((2, t, [], ()), ()) ∧ adZ t by
  obtain ⟨a, h1, t, rfl, h2⟩ := H
  exact ⟨t, h1, h2⟩
 refine adP (R := R) (fun i => ∃ k : Nat, k ≤ n ∧ i.1 = (k : Int) ∧ 0 ≤ i.2.1 ∧ i.2.1 ≤ (k : Int) * q ∧ i.2.2.1.length = n ∧ aC1 i.2.2.1) (fun i => ((n : Int) - i.1).toNat) (fun a => ∃ t, a = .inr ((2, t, [], ()), ()) ∧ adZ t) ?_ (0, 0, l, ()) ⟨0, by omega, rfl, by simp, by simp, hn.symm, he⟩
 rintro ⟨i, a, s, u⟩ ⟨k, h1, h2, h3, h4, h5, h6⟩
 simp only at h2 h3 h4 h5 h6
 subst h2
 rcases zr k n with hk | hk
 ·left
  have hg := aqG h6 k
  have hm : Int.tmod (s.getD k 0) q = s.getD k 0 % q := zH hg.1
  have m0 := yR (s.getD k 0) (b := q) zc
  have m1 := yC (s.getD k 0) (b := q) zc
  have hkn : ((k : Int) + 1) * q ≤ (n : Int) * q := zu zc zc
  have hk1 : ((k : Int) + 1) * q = (k : Int) * q + q := by rw [wX, Int.one_mul]
  refine ⟨_, hs k a s hk h5 h6 h3 zc, ⟨k + 1, hk, rfl, ?_, ?_, ?_, ?_⟩, ?_⟩
  ·simp only [hm]; omega
  ·simp only [hm]; rw [vl]; show _ ≤ ((k : Int) + 1) * q; omega
  ·simp only [xn, h5]
  ·simp only [hm]; exact aPL h6 ⟨by omega, by omega⟩
  ·simp only; omega
 ·right
  obtain rfl : k = n := zc
  exact ⟨_, hd a s h5, s.take k, rfl, by rw [yp]; omega, by rw [yp]; omega, aM5 h6⟩
theorem s9 {p : Prop} (h : p := by first | omega | ((try simp only [aaC, inb, inc, ge_iff_le, gt_iff_lt, zp, asT, ne_eq, zR, yp, zL, xX, Nat.min_self, DTl]) <;> (first | omega | (refine ⟨?_, ?_⟩ <;> omega) | simp))) : p := h
theorem zb {α : Type} {x y : TT α} {r : Option α} (k : y.toO = r) (h : x.toO = y.toO := by first | exact uV rfl | exact uB rfl | exact uN s9 rfl) : x.toO = r := h.trans k
theorem aM9 (d : DrT) (j : Bool × List Int × Unit) (b : Bool) (l : List Int) (hl : 2 ≤ l.length ∧ l.length ≤ 8) (he : aC1 l) :
  ∃ t, ac6 (fun i => (ah9 d j (b, l, ()) i).toO) (0, 0, l, ()) = some (.inr ((2, t, [], ()), ())) ∧ adZ t := by
 have hq : Int.tdiv 65535 (l.length : Int) = 65535 / (l.length : Int) := zN zc
 have hq0 : 1 ≤ 65535 / (l.length : Int) := by rw [xy zc]; omega
 have hq1 : 65535 / (l.length : Int) ≤ 65535 := Int.ediv_le_self _ zc
 refine aLj l hl he ?_ ?_
 ·intro k a s hk hs hes h0 h1
  have hg := aqG hes k
  have hm : Int.tmod (s.getD k 0) (Int.tdiv 65535 (l.length : Int)) = s.getD k 0 % (65535 / (l.length : Int)) := by rw [hq]; exact zH hg.1
  have m0 := yR (s.getD k 0) (b := 65535 / (l.length : Int)) zc
  have m1 := yC (s.getD k 0) (b := 65535 / (l.length : Int)) zc
  have e1 : w64 (Int.tdiv 65535 (l.length : Int)) = Int.tdiv 65535 (l.length : Int) := aaA (by rw [hq]; omega)
  have e2 : w64 ((k : Int) + 1) = ((k + 1 : Nat) : Int) := by rw [aaA (x := (k : Int) + 1) zc]; omega
  have e3 : w64 (a + 1) = a + 1 := aaA zc
  have e4 : w64 (a + 1 + Int.tmod (s.getD k 0) (Int.tdiv 65535 (l.length : Int))) = a + 1 + Int.tmod (s.getD k 0) (Int.tdiv 65535 (l.length : Int)) := aaA (by rw [hm]; omega)
  have e5 : w64 (a + 1 + Int.tmod (s.getD k 0) (Int.tdiv 65535 (l.length : Int)) - 1) = a + Int.tmod (s.getD k 0) (Int.tdiv 65535 (l.length : Int)) := by rw [aaA (x := a + 1 + Int.tmod (s.getD k 0) (Int.tdiv 65535 (l.length : Int)) - 1) (by rw [hm]; omega)]; omega
  simp only [ah9, aaC, e1, e2, e3, zw, zp, e4, e5]
  refine uT (zo zc) ?_
  refine uN ⟨by omega, by omega⟩ ?_
  refine uN (by rw [hq]; omega) ?_
  refine uN ⟨by omega, by omega⟩ ?_
  refine uB (uB (uB ?_))
  repeat refine uV ?_
  simp only [aaK, e5]
 ·intro a s hs
  simp only [ah9, aaC]
  refine uF (zn zc) ?_
  rfl
theorem aM8 (d : DrT) (j : Bool × List Int × Unit) (l : List Int) (hl : 2 ≤ l.length ∧ l.length ≤ 8) (he : aC1 l) :
  ∃ t, ac6 (fun i => (ah8 d j (l, ()) i).toO) (0, 0, l, ()) = some (.inr ((2, t, [], ()), ())) ∧ adZ t := by
 have hq : Int.tdiv 65535 (l.length : Int) = 65535 / (l.length : Int) := zN zc
 have hq0 : 1 ≤ 65535 / (l.length : Int) := by rw [xy zc]; omega
 have hq1 : 65535 / (l.length : Int) ≤ 65535 := Int.ediv_le_self _ zc
 refine aLj l hl he ?_ ?_
 ·intro k a s hk hs hes h0 h1
  have hg := aqG hes k
  have hm : Int.tmod (s.getD k 0) (Int.tdiv 65535 (l.length : Int)) = s.getD k 0 % (65535 / (l.length : Int)) := by rw [hq]; exact zH hg.1
  have m0 := yR (s.getD k 0) (b := 65535 / (l.length : Int)) zc
  have m1 := yC (s.getD k 0) (b := 65535 / (l.length : Int)) zc
  have e1 : w64 (Int.tdiv 65535 (l.length : Int)) = Int.tdiv 65535 (l.length : Int) := aaA (by rw [hq]; omega)
  have e2 : w64 ((k : Int) + 1) = ((k + 1 : Nat) : Int) := by rw [aaA (x := (k : Int) + 1) zc]; omega
  have e3 : w64 (a + 1) = a + 1 := aaA zc
  have e4 : w64 (a + 1 + Int.tmod (s.getD k 0) (Int.tdiv 65535 (l.length : Int))) = a + 1 + Int.tmod (s.getD k 0) (Int.tdiv 65535 (l.length : Int)) := aaA (by rw [hm]; omega)
  have e5 : w64 (a + 1 + Int.tmod (s.getD k 0) (Int.tdiv 65535 (l.length : Int)) - 1) = a + Int.tmod (s.getD k 0) (Int.tdiv 65535 (l.length : Int)) := by rw [aaA (x := a + 1 + Int.tmod (s.getD k 0) (Int.tdiv 65535 (l.length : Int)) - 1) (by rw [hm]; omega)]; omega
  simp only [ah8, aaC, e1, e2, e3, zw, zp, e4, e5]
  refine uT (zo zc) ?_
  refine uN ⟨by omega, by omega⟩ ?_
  refine uN (by rw [hq]; omega) ?_
  refine uN ⟨by omega, by omega⟩ ?_
  refine uB (uB (uB ?_))
  repeat refine uV ?_
  simp only [aaK, e5]
 ·intro a s hs
  simp only [ah8, aaC]
  refine uF (zn zc) ?_
  rfl
theorem aNa (d : DrT) (b : Bool) (l : List Int) (hl : l.length ≤ 8) (he : aC1 l) (hb : b = true → l = []) :
  ∃ t, (aiA d (b, l, ())).toO = some ((2, t, [], ()), ()) ∧ adZ t := by
 cases b
 ·suffices H : ∃ a, ac6 (fun i => (alQ d (false, l, ()) i).toO) (l, ()) = some a ∧ ∃ t, a = ((2, t, [], ()), ()) ∧ adZ t by
   obtain ⟨a, h1, t, rfl, h2⟩ := H
   refine ⟨t, ?_, h2⟩
   simp only [aiA]
   refine uF rfl ?_
   exact uO (l, ()) (uB rfl) h1
  refine adP (fun i => i.1.length ≤ 8 ∧ aC1 i.1) (fun i => 2 - i.1.length) _ ?_ (l, ()) ⟨hl, he⟩
  rintro ⟨l, u⟩ ⟨h1, h2⟩
  simp only at h1 h2
  simp only [alQ, aaC, zt]
  rcases zr l.length 2 with hk | hk
  ·left
   have e1 : w64 (65535 * (l.length : Int)) = 65535 * (l.length : Int) := aaA zc
   refine ⟨(l ++ [65535 * (l.length : Int)], ()), ?_, ⟨by rw [zR]; simp only [zL, xX]; omega, aCs h2 zc⟩, by simp only [zR, zL, xX]; omega⟩
   refine uT (zo zc) ?_
   simp only [e1]
   repeat refine zb ?_
   rfl
  ·right
   rcases (xl d.2.2.2.2.1).symm with hd | hd
   ·refine ⟨_, uF (zn zc) (uF hd ?_), l, rfl, hk, by omega, h2⟩
    repeat refine zb ?_
    rfl
   ·obtain ⟨t, h3, h4⟩ := aM8 d (false, l, ()) l ⟨hk, h1⟩ h2
    refine ⟨_, uF (zn zc) (uT hd ?_), t, rfl, h4⟩
    repeat refine zb ?_
    refine uO (0, 0, l, ()) ?_ ?_
    ·repeat refine zb ?_
     rfl
    ·exact h3
 ·suffices H : ∃ a, ac6 (fun i => (alR d (true, l, ()) i).toO) (true, [], ()) = some a ∧ ∃ t, a = ((2, t, [], ()), ()) ∧ adZ t by
   obtain ⟨a, h1, t, rfl, h2⟩ := H
   refine ⟨t, ?_, h2⟩
   simp only [aiA]
   refine uT rfl ?_
   exact uO (true, [], ()) rfl h1
  refine adP (fun i => i.2.1.length ≤ 8 ∧ aC1 i.2.1 ∧ (i.1 = true → i.2.1 = [])) (fun i => 2 - i.2.1.length) _ ?_ (true, [], ()) ⟨by simp, (by intro v hv; cases hv), fun _ => rfl⟩
  rintro ⟨b, l, u⟩ ⟨h1, h2, h5⟩
  simp only at h1 h2 h5
  simp only [alR, aaC, zt]
  cases b
  ·rcases zr l.length 2 with hk | hk
   ·left
    have e1 : w64 (65535 * (l.length : Int)) = 65535 * (l.length : Int) := aaA zc
    refine ⟨(false, l ++ [65535 * (l.length : Int)], ()), ?_, ⟨by rw [zR]; simp only [zL, xX]; omega, aCs h2 zc, by intro h; cases h⟩, by simp only [zR, zL, xX]; omega⟩
    refine uF rfl (uT (zo zc) ?_)
    simp only [e1]
    repeat refine zb ?_
    rfl
   ·right
    rcases (xl d.2.2.2.2.1).symm with hd | hd
    ·refine ⟨_, uF rfl (uF (zn zc) (uF hd ?_)), l, rfl, hk, by omega, h2⟩
     repeat refine zb ?_
     rfl
    ·obtain ⟨t, h3, h4⟩ := aM9 d (true, ‹List Int›, ()) false l ⟨hk, h1⟩ h2
     refine ⟨_, uF rfl (uF (zn zc) (uT hd ?_)), t, rfl, h4⟩
     repeat refine zb ?_
     refine uO (0, 0, l, ()) ?_ ?_
     ·repeat refine zb ?_
      rfl
     ·exact h3
  ·left
   have := h5 rfl
   subst this
   refine ⟨(false, [0], ()), ?_, ⟨by simp, by intro v hv; rw [zZ.mp hv]; decide, by intro h; cases h⟩, by simp⟩
   refine uT rfl ?_
   repeat refine zb ?_
   rfl
theorem aM7 (d : DrT) (hd : aR3 d) : ∃ t, ahZ (d, ()) = some ((2, t, [], ()), ()) ∧ adZ t := by
 suffices H : ∃ a, ac6 (fun i => (alS d i).toO) (0, true, [], ()) = some a ∧ ∃ b l, a = .inl (b, l, ()) ∧ l.length ≤ 8 ∧ aC1 l ∧ (b = true → l = []) by
  obtain ⟨a, h1, b, l, rfl, h2, h3, h4⟩ := H
  obtain ⟨t, h5, h6⟩ := aNa d b l h2 h3 h4
  refine ⟨t, ?_, h6⟩
  simp only [ahZ, akB]
  exact uL (b, l, ()) (uO (0, true, [], ()) rfl h1) h5
 refine adP (fun i => ∃ k : Nat, k ≤ 8 ∧ i.1 = (k : Int) ∧ i.2.2.1.length = k ∧ aC1 i.2.2.1 ∧ (i.2.1 = true → i.2.2.1 = [] )) (fun i => (8 - i.1).toNat) _ ?_ _ ⟨0, by omega, rfl, rfl, (by intro v hv; cases hv), fun _ => rfl⟩
 rintro ⟨i, b, l, u⟩ ⟨k, h1, h2, h3, h4, h5⟩
 simp only at h2 h3 h4 h5
 subst h2
 simp only [alS, ahG, aaC, zt, aaM]
 have hg := aqG hd.2.1 k
 have e0 : w64 (d.2.1.getD k 0) = d.2.1.getD k 0 := aaA zc
 have e2 : w64 ((k : Int) + 1) = ((k + 1 : Nat) : Int) := by rw [aaA (x := (k : Int) + 1) zc]; omega
 simp only [e0, e2]
 by_cases c1 : (k : Int) < d.2.1.length
 ·by_cases c2 : (k : Int) < 8
  ·left
   refine ⟨(((k + 1 : Nat) : Int), false, l ++ [d.2.1.getD k 0], ()), ?_, ⟨k + 1, by omega, rfl, by simp [h3], aCs h4 hg, by intro h; cases h⟩, by simp only; omega⟩
   cases b
   ·refine uF rfl (uT (zo c1) (uT (zo c2) ?_))
    repeat refine zb ?_
    rfl
   ·have := h5 rfl
    subst this
    refine uT rfl (uT (zo c1) (uT (zo c2) ?_))
    repeat refine zb ?_
    rfl
  ·right
   cases b
   ·refine ⟨_, uF rfl (uT (zo c1) (uF (zn c2) ?_)), false, l, rfl, by omega, h4, by intro h; cases h⟩
    repeat refine zb ?_
    rfl
   ·refine ⟨_, uT rfl (uT (zo c1) (uF (zn c2) ?_)), true, [], rfl, by simp, (by intro v hv; cases hv), fun _ => rfl⟩
    repeat refine zb ?_
    rfl
 ·right
  cases b
  ·refine ⟨_, uF rfl (uF (zn c1) ?_), false, l, rfl, by omega, h4, by intro h; cases h⟩
   repeat refine zb ?_
   rfl
  ·refine ⟨_, uT rfl (uF (zn c1) ?_), true, [], rfl, by simp, (by intro v hv; cases hv), fun _ => rfl⟩
   repeat refine zb ?_
   rfl
def aRx : Int → List adJ → Int → Prop
 | last, [], t => t = last
 | last, s :: r, t => ai8 last s ∧ aRx s.1 r t
theorem aHK : ∀ (l : List adJ) (last t : Int) (s : adJ), aRx last l t → ai8 t s → aRx last (l ++ [s]) s.1
 | [], last, t, s, h, hs => by
  have : t = last := h
  subst this; exact ⟨hs, rfl⟩
 | x :: r, last, t, s, h, hs => ⟨h.1, aHK r x.1 t s h.2 hs⟩
theorem aHJ : ∀ (l : List adJ) (last t : Int), aRx last l t → 1 ≤ l.length → t < 1000000 → ahE last (l.set (l.length - 1) (1000000, (l.getD (l.length - 1) (0, 0, 0, 0, 0, 0, ())).2))
 | [], _, _, _, h, _ => absurd h zf
 | [s], last, t, h, _, ht => by
  have h2 : t = s.1 := h.2
  obtain ⟨h3, h4⟩ := h.1
  exact ⟨⟨h3, ⟨by have := h4.1; omega, by show (1000000 : Int) ≤ 1000000; omega⟩⟩, rfl⟩
 | s :: x :: r, last, t, h, _, ht => by
  have := aHJ (x :: r) s.1 t h.2 zi ht
  simp only [zL, xC] at this ⊢
  exact ⟨h.1, by simpa using this⟩
theorem avD {a b : Int} (ha : inR a 1 36) (hb : inR b 1 12) : abM (a, b, ()) = some (!decide (Nat.gcd a.natAbs b.natAbs = 1), ()) := by
 unfold abM
 rw [if_pos ⟨ha, hb⟩]
theorem aGT (d : DrT) (hd : aR3 d) : ∃ l, afJ (d, ()) = some ((3, [], l, ()), ()) ∧ ac0 l := by
 suffices H : ∃ a, ac6 (fun i => (aiW d i).toO) (0, 0, true, [], ()) = some a ∧ ∃ l, a = ((3, [], l, ()), ()) ∧ ac0 l by
  obtain ⟨a, h1, l, rfl, h2⟩ := H
  refine ⟨l, ?_, h2⟩
  simp only [afJ, agZ]
  exact uO (0, 0, true, [], ()) (uB rfl) h1
 obtain ⟨n, hn⟩ : ∃ n : Nat, n = (if 3 < d.2.2.1.length then 3 else d.2.2.1.length) := ⟨_, rfl⟩
 have hnz : (if 3 < len d.2.2.1 then 3 else len d.2.2.1) = (n : Int) := by
  rw [hn]
  by_cases h : 3 < d.2.2.1.length
  ·rw [if_pos h]; exact (if_pos (by rw [aaC]; omega)).trans rfl
  ·rw [if_neg h]; exact (if_neg (by rw [aaC]; omega)).trans rfl
 have hn3 : n ≤ 3 := by rw [hn]; split <;> omega
 have hnl : n ≤ d.2.2.1.length := by rw [hn]; split <;> omega
 clear hn
 refine adP (fun i : Int × Int × Bool × List adJ × Unit => ∃ k : Nat, k ≤ n ∧ i.1 = (k : Int) ∧ i.2.2.2.1.length = k ∧ (i.2.2.1 = true → i.2.2.2.1 = []) ∧ (i.2.2.1 = false → 1 ≤ k) ∧ 0 ≤ i.2.1 ∧ i.2.1 ≤ 256000 * (k : Int) ∧ aRx 0 i.2.2.2.1 i.2.1) (fun i => (3 - i.1).toNat) _ ?_ _ ⟨0, by omega, rfl, rfl, fun _ => rfl, (by intro h; cases h), yl _, (by show (0 : Int) ≤ _; omega), rfl⟩
 rintro ⟨i, t, b, l, u⟩ ⟨k, h1, h2, h3, h4, h5, h6, h7, h8⟩
 simp only at h2 h3 h4 h5 h6 h7 h8
 subst h2
 simp only [aiW, afT, gP, hnz, aaM, zt]
 rcases zr k n with hk | hk
 ·left
  have hmem : d.2.2.1.getD k (0, 0, 0, 0, 0, 0, ()) ∈ d.2.2.1 := by
   rw [yd, zP zc]; exact yg _
  obtain ⟨p, hp⟩ : ∃ p, p = d.2.2.1.getD k (0, 0, 0, 0, 0, 0, ()) := ⟨_, rfl⟩
  have hpb := hd.2.2 p (by rw [hp]; exact hmem)
  simp only [← hp]
  clear hp hmem
  obtain ⟨w, m, a, o, nu, de, uu⟩ := p
  obtain ⟨b1, b2, b3, b4, b5, b6⟩ := hpb
  simp only [inR] at b1 b2 b3 b4 b5 b6 ⊢
  have q1 : w64 w = w := aaA zc
  have q2 : w64 m = m := aaA zc
  have q3 : w64 a = a := aaA zc
  have q4 : w64 o = o := aaA zc
  have q5 : Int.tmod nu 4 = nu % 4 := zH zc
  have q6 : Int.tmod de 4 = de % 4 := zH zc
  have q7 : w64 (nu % 4) = nu % 4 := aaA zc
  have q8 : w64 (de % 4) = de % 4 := aaA zc
  have q9 : w64 (1 + nu % 4) = 1 + nu % 4 := aaA zc
  have q10 : w64 (1 + de % 4) = 1 + de % 4 := aaA zc
  have q11 : w64 (t + 1000) = t + 1000 := aaA zc
  have q12 : w64 (1000 * w) = 1000 * w := aaA zc
  have q13 : w64 (t + 1000 + 1000 * w) = t + 1000 + 1000 * w := aaA zc
  have q14 : w64 (100 * m) = 100 * m := aaA zc
  have q15 : w64 (10 * a) = 10 * a := aaA zc
  have q16 : w64 (10 * o) = 10 * o := aaA zc
  have q17 : w64 (0 - 100 * m) = 0 - 100 * m := aaA zc
  have q18 : w64 (0 - 10 * a) = 0 - 10 * a := aaA zc
  have q19 : w64 ((k : Int) + 1) = ((k + 1 : Nat) : Int) := by rw [aaA (x := (k : Int) + 1) zc]; omega
  simp only [q1, q2, q3, q4, q5, q6, q7, q8, q9, q10, q11, q12, q13, q14, q15, q16, q17, q18, q19]
  have inv : ∀ M A N D : Int, inR M (-100000000) 100000000 → inR A (-100000000) 100000000 → inR N 1 36 → inR D 1 12 → Nat.gcd N.natAbs D.natAbs = 1 →
    (∃ k' : Nat, k' ≤ n ∧ ((k + 1 : Nat) : Int) = (k' : Int) ∧ (l ++ [((t + 1000 + 1000 * w, M, A, N, D, 10 * o, ()) : adJ)]).length = k' ∧ ((false = true) → l ++ [((t + 1000 + 1000 * w, M, A, N, D, 10 * o, ()) : adJ)] = []) ∧ (false = false → 1 ≤ k') ∧ 0 ≤ t + 1000 + 1000 * w ∧ t + 1000 + 1000 * w ≤ 256000 * (k' : Int) ∧ aRx 0 (l ++ [((t + 1000 + 1000 * w, M, A, N, D, 10 * o, ()) : adJ)]) (t + 1000 + 1000 * w)) := by
   intro M A N D c1 c2 c3 c4 c5
   refine ⟨k + 1, hk, rfl, by simp [h3], (by intro h; cases h), (by intro _; omega), by omega, by omega, ?_⟩
   exact aHK l 0 t (t + 1000 + 1000 * w, M, A, N, D, 10 * o, ()) h8 ⟨⟨c1, c2, ⟨by show -100000000 ≤ 10 * o; omega, by show 10 * o ≤ 100000000; omega⟩, c3, c4, c5⟩, ⟨by show t + 1 ≤ t + 1000 + 1000 * w; omega, by show t + 1000 + 1000 * w ≤ 1000000; omega⟩⟩
  have n1 : inR (1 : Int) 1 36 := zf
  have n2 : inR (1 : Int) 1 12 := zf
  have n3 : inR (1 + nu % 4) 1 36 := ⟨by omega, by omega⟩
  have n4 : inR (1 + de % 4) 1 12 := ⟨by omega, by omega⟩
  have n5 : inR (100 * m) (-100000000) 100000000 := ⟨by omega, by omega⟩
  have n6 : inR (10 * a) (-100000000) 100000000 := ⟨by omega, by omega⟩
  have n7 : inR (if 0 - 100 * m > 100 * m then 0 - 100 * m else 100 * m) (-100000000) 100000000 := by split <;> exact ⟨by omega, by omega⟩
  have n8 : inR (if 0 - 10 * a > 10 * a then 0 - 10 * a else 10 * a) (-100000000) 100000000 := by split <;> exact ⟨by omega, by omega⟩
  have g1 : ∀ D : Int, Nat.gcd (1 : Int).natAbs D.natAbs = 1 := fun D => Nat.gcd_one_left _
  have g2 : ∀ N : Int, Nat.gcd N.natAbs (1 : Int).natAbs = 1 := fun N => Nat.gcd_one_right _
  rcases (xl d.2.2.2.1).symm with hr | hr <;> rcases (xl d.2.2.2.2.1).symm with hi | hi <;> by_cases g : Nat.gcd (1 + nu % 4).natAbs (1 + de % 4).natAbs = 1
  all_goals
   cases b
   ·apply Exists.intro
    refine ⟨?_, ?_, ?_⟩
    ·refine uF rfl (uT (zo zc) (uN ⟨by omega, by rw [aaC]; omega⟩ ?_))
     first | refine uT hr ?_ | refine uF hr ?_
     first | refine uT hi ?_ | refine uF hi ?_
     first | refine uC _ (avD n3 n4) ?_ | refine uC _ (avD n3 n2) ?_
     first | refine uF (congrArg Bool.not (zo g)) ?_ | refine uF (congrArg Bool.not (zo (g2 _))) ?_ | refine uT (congrArg Bool.not (zn g)) ?_
     repeat refine zb ?_
     rfl
    ·exact inv _ _ _ _ zg zg zg zg (by first | exact g | exact g2 _ | exact g1 _)
    ·show (3 - ((k + 1 : Nat) : Int)).toNat < (3 - (k : Int)).toNat; omega
   ·have := h4 rfl
    subst this
    apply Exists.intro
    refine ⟨?_, ?_, ?_⟩
    ·refine uT rfl (uT (zo zc) (uN ⟨by omega, by rw [aaC]; omega⟩ ?_))
     first | refine uT hr ?_ | refine uF hr ?_
     first | refine uT hi ?_ | refine uF hi ?_
     first | refine uC _ (avD n3 n4) ?_ | refine uC _ (avD n3 n2) ?_
     first | refine uF (congrArg Bool.not (zo g)) ?_ | refine uF (congrArg Bool.not (zo (g2 _))) ?_ | refine uT (congrArg Bool.not (zn g)) ?_
     repeat refine zb ?_
     rfl
    ·exact inv _ _ _ _ zg zg zg zg (by first | exact g | exact g2 _ | exact g1 _)
    ·show (3 - ((k + 1 : Nat) : Int)).toNat < (3 - (k : Int)).toNat; omega
 ·right
  obtain rfl : k = n := zc
  have e0 : w64 (1 - 1) = 0 := aaA zc
  cases b
  ·have h5 := h5 rfl
   rcases (xl d.2.2.2.2.1).symm with hi | hi
   ·have e1 : w64 ((k : Int) - 1) = ((k - 1 : Nat) : Int) := by rw [aaA (x := (k : Int) - 1) zc]; omega
    refine ⟨_, uF rfl (uF (zn zc) (uF (beq_eq_false_iff_ne.mpr zc) (uF hi (uN ?_ rfl)))), _, rfl, ?_⟩
    ·rw [e1, aaC]; exact ⟨by omega, by omega⟩
    ·rw [e1, zp, zw, ← h3, zz (by rw [xn]; omega)]
     refine ⟨by rw [xn]; omega, by rw [xn]; omega, aHJ l 0 t h8 zc zc⟩
   ·refine ⟨_, uF rfl (uF (zn zc) (uF (beq_eq_false_iff_ne.mpr zc) (uT hi (uN ?_ rfl)))), _, rfl, ?_⟩
    ·rw [aaC]; exact ⟨by simp only [asT]; omega, by omega⟩
    ·rw [e0]
     obtain ⟨s, r, rfl⟩ : ∃ s r, l = s :: r := by
      cases l with
      | nil => simp at h3; omega
      | cons s r => exact ⟨s, r, rfl⟩
     show ac0 [((1000000, s.2) : adJ)]
     exact ⟨zq 1, by show 1 ≤ 4; omega, ⟨h8.1.1, ⟨by show (0 : Int) + 1 ≤ 1000000; omega, by show (1000000 : Int) ≤ 1000000; omega⟩⟩, rfl⟩
  ·have := h4 rfl
   subst this
   have : k = 0 := h3.symm
   subst this
   rcases (xl d.2.2.2.2.1).symm with hi | hi
   ·refine ⟨_, uT rfl (uF (zn zc) (uT rfl (uF hi rfl))), _, rfl, ?_⟩
    rw [e0]; decide
   ·refine ⟨_, uT rfl (uF (zn zc) (uT rfl (uT hi rfl))), _, rfl, ?_⟩
    rw [e0]; decide
theorem aP4 (d : DrT) (hd : aR3 d) : ∃ c, ajR (d, ()) = some (c, ()) ∧ ab1 c := by
 obtain ⟨k, ta, pa, ro, ri, u⟩ := d
 obtain ⟨l1, e1, o1⟩ := aM7 _ hd
 obtain ⟨l2, e2, o2⟩ := aGT _ hd
 simp only [ajR, amU]
 by_cases c0 : Int.tmod k 4 = 0
 ·exact ⟨(1, [], [], ()), uT (yJ.mpr c0) rfl, Or.inl ⟨rfl, rfl, rfl⟩⟩
 ·by_cases c1 : Int.tmod k 4 = 1
  ·refine ⟨(3, [], l2, ()), uF (beq_eq_false_iff_ne.mpr c0) (uT (yJ.mpr c1) (uC _ e2 ?_)), Or.inr (Or.inr ⟨rfl, rfl, o2⟩)⟩
   repeat refine zb ?_
   rfl
  ·refine ⟨(2, l1, [], ()), uF (beq_eq_false_iff_ne.mpr c0) (uF (beq_eq_false_iff_ne.mpr c1) (uC _ e1 ?_)), Or.inr (Or.inl ⟨rfl, o1, rfl⟩)⟩
   repeat refine zb ?_
   rfl
theorem aBF (d : DrT) (y) (h : ahZ (d, ()) = some y) : (akB d).toO = some y := h
theorem avZ (d : DrT) (y) (h : afJ (d, ()) = some y) : (agZ d).toO = some y := h
theorem aDq (d : DrT) (y) (h : ajR (d, ()) = some y) : (amU d).toO = some y := h
noncomputable section
def ak5 (_ : DrT × List Int × Unit) : Option (Bool × Unit) := some (true, ())
end
set_option maxRecDepth 100000
open Go Go.Vg Go.Proofs
noncomputable section
def aCY : LTab := []
def ak6 (d : Int × List Int × List uj × Bool × Bool × Unit) (at0 : List Int) : TT uI :=
 .call (as9 ()) Dd1 fun y =>
 .ite (!y.1)
 (.ok ((false, ())))
 (.call (ajR ((d.1, d.2.1, d.2.2.1, d.2.2.2.1, d.2.2.2.2.1, ()), ())) aOc fun y1 =>
 .triv (asT Int 0 ≤ 0 ∧ 0 < (↑3 : Int)) zf <| .triv (asT Int 0 ≤ 1 ∧ 1 < (↑3 : Int)) zf <| .triv (asT Int 0 ≤ 0 ∧ 0 < (↑3 : Int)) zf <| .triv (asT Int 0 ≤ 1 ∧ 1 < (↑3 : Int)) zf <| .triv (asT Int 0 ≤ 2 ∧ 2 < (↑3 : Int)) zf <| .need (abE (w64 (w64 (w64 (if List.headD (List.tail at0) 0 > List.headD at0 0 then List.headD (List.tail at0) 0 else List.headD at0 0) - w64 (if List.headD (List.tail at0) 0 < List.headD at0 0 then List.headD (List.tail at0) 0 else List.headD at0 0)) + 1)) ≠ 0) <| .call (acH ((y1.1.1, y1.1.2.1, y1.1.2.2.1, ()), (w64 (1000000000 * w64 (if List.headD (List.tail at0) 0 < List.headD at0 0 then List.headD (List.tail at0) 0 else List.headD at0 0)), w64 (1000000000 * w64 (if List.headD (List.tail at0) 0 > List.headD at0 0 then List.headD (List.tail at0) 0 else List.headD at0 0)), ()), ())) atE fun y2 =>
 .call (acH ((y1.1.1, y1.1.2.1, y1.1.2.2.1, ()), (w64 (1000000000 * w64 (if List.headD (List.tail at0) 0 < List.headD at0 0 then List.headD (List.tail at0) 0 else List.headD at0 0)), w64 (1000000000 * w64 (w64 (if List.headD (List.tail at0) 0 < List.headD at0 0 then List.headD (List.tail at0) 0 else List.headD at0 0) + w64 (Int.tmod (abE (w64 (w64 (List.headD (List.tail (List.tail at0)) 0) + 32768))) (abE (w64 (w64 (w64 (if List.headD (List.tail at0) 0 > List.headD at0 0 then List.headD (List.tail at0) 0 else List.headD at0 0) - w64 (if List.headD (List.tail at0) 0 < List.headD at0 0 then List.headD (List.tail at0) 0 else List.headD at0 0)) + 1)))))), ()), ())) atE fun y3 =>
 .ite (y2.2.1 != 0)
 (.ok ((y2.2.1 == 6, ())))
 (.ite (y3.2.1 != 0)
 (.ok ((y2.2.1 == 6, ())))
 (.ite (decide (y3.1.1 < y2.1.1))
 (.ok ((false, ())))
 (.ite (decide (y3.1.2.1 > y2.1.2.1))
 (.ok ((false, ())))
 (.ite (decide (y2.1.1 < 0))
 (.ok ((false, ())))
 (.ite (decide (y2.1.2.1 > 1000000000000))
 (.ok ((false, ())))
 (.ite (decide (y2.1.1 > y2.1.2.1))
 (.ok ((false, ())))
 (.call (acY (w64 (w64 (if List.headD (List.tail at0) 0 < List.headD at0 0 then List.headD (List.tail at0) 0 else List.headD at0 0) + w64 (Int.tmod (abE (w64 (w64 (List.headD (List.tail (List.tail at0)) 0) + 32768))) (abE (w64 (w64 (w64 (if List.headD (List.tail at0) 0 > List.headD at0 0 then List.headD (List.tail at0) 0 else List.headD at0 0) - w64 (if List.headD (List.tail at0) 0 < List.headD at0 0 then List.headD (List.tail at0) 0 else List.headD at0 0)) + 1))))), 1000, ())) ae4 fun y4 =>
 .call (acA ((y1.1.1, y1.1.2.1, y1.1.2.2.1, ()), y4.1, ())) afR fun y5 =>
 .ite (y5.2.1 != 0)
 (.ite (y5.2.1 == 5)
 (.call (aq9 ((y1.1.1, y1.1.2.1, y1.1.2.2.1, ()), ())) Dd1 fun y6 =>
 .ok ((!y6.1, ())))
 (.ok ((false, ()))))
 (.call (anG ((y3.1.1, y3.1.2.1, ()), (y5.1.1, y5.1.2.1, ()), ())) aSR fun y7 =>
 .ite (y7.1)
 (.ok ((y7.2.1 == 0, ())))
 (.ok ((false, ()))))))))))))
end
theorem aRO (X : Int) {d : Nat} (hd : d ≠ 0) : (mkRat X d).num.natAbs ≤ X.natAbs ∧ (mkRat X d).den ≤ d := by
 constructor
 ·rw [Rat.num_mkRat, if_neg hd]; exact Int.natAbs_ediv_le_natAbs _ _
 ·rw [Rat.den_mkRat, if_neg hd]; exact xo _ _
theorem aNu {q : Rat} (h0 : 0 ≤ q) (h1 : q ≤ 1) : abU q = q := by
 unfold abU
 rw [if_neg (wT.2 h0), if_neg (wT.2 h1)]
theorem aEy {z : Int} {j : Nat} (h : z.natAbs ≤ 1000000000000) (hj : j ≤ 40) : Fit (z ^ j) := by
 unfold Fit
 obtain ⟨K, hK⟩ : ∃ K : Nat, K = 600 := ⟨_, rfl⟩
 rw [← hK]
 refine (abF zc).2 ?_
 rw [vw]
 have h1 : z.natAbs ^ j ≤ 1000000000000 ^ j := yw h j
 have h2 : 1000000000000 ^ j = 10 ^ (12 * j) := by rw [xi]
 have h3 : 10 ^ (12 * j) < 10 ^ K := wu zc zc
 omega
theorem aJR {u : Rat} {j : Nat} (h1 : u.num.natAbs ≤ 1000000000000) (h2 : u.den ≤ 1000000000000) (hj : j ≤ 40) : adK (u ^ j) := by
 refine ⟨?_, ?_⟩
 ·rw [Rat.num_pow]; exact aEy h1 hj
 ·rw [Rat.den_pow, we]; exact aEy zc hj
theorem atN {u : Rat} (h1 : u.num.natAbs ≤ 1000000000000) (h2 : u.den ≤ 1000000000000) : ∀ (n j : Nat), j + n ≤ 40 → adC u n (u ^ j) = some (u ^ (j + n))
 | 0, _, _ => rfl
 | n + 1, j, h => by
  show (acI (u ^ j * u)).bind (adC u n) = _
  have e : u ^ j * u = u ^ (j + 1) := (Rat.pow_succ ..).symm
  rw [e]
  unfold acI
  rw [if_pos (aJR h1 h2 zc)]
  show adC u n (u ^ (j + 1)) = _
  rw [atN h1 h2 n (j + 1) zc, show j + 1 + n = j + (n + 1) by omega]
theorem aGA {u : Rat} {j : Nat} {o : Int} (h1 : u.num.natAbs ≤ 1000000000000) (h2 : u.den ≤ 1000000000000) (hj : j ≤ 40) (ho : o.natAbs ≤ 100000000) : adK (u ^ j + mkRat o 1000000) := by
 have hd : u.den ^ j ≠ 0 := Nat.ne_of_gt (yS u.den_pos)
 have e : u ^ j = mkRat (u.num ^ j) (u.den ^ j) := by
  rw [← Rat.num_pow, ← Rat.den_pow, Rat.mkRat_self]
 rw [e, xu _ _ hd zc]
 obtain ⟨E, hE⟩ : ∃ E : Nat, E = 480 := ⟨_, rfl⟩
 have b1 : u.num.natAbs ^ j ≤ 10 ^ E := zC (yw h1 j) (by
  have : 1000000000000 ^ j = 10 ^ (12 * j) := by rw [xi]
  rw [this]; exact zU zc zc)
 have b2 : u.den ^ j ≤ 10 ^ E := zC (yw h2 j) (by
  have : 1000000000000 ^ j = 10 ^ (12 * j) := by rw [xi]
  rw [this]; exact zU zc zc)
 obtain ⟨B, hB⟩ : ∃ B : Nat, B = 10 ^ E := ⟨_, rfl⟩
 rw [← hB] at b1 b2
 obtain ⟨K, hK⟩ : ∃ K : Nat, K = 600 := ⟨_, rfl⟩
 have hB2 : 10 ^ K = B * 10 ^ 120 := by
  have hKE : K = E + 120 := zc
  rw [hB, ← xv, hKE]
 have hB3 : 1000000000 * B ≤ B * 10 ^ 120 := by
  rw [yH]; exact yv _ zf
 have hBp : 0 < B := by rw [hB]; exact yS zc
 refine ad8 (xp hd zc) ?_ ?_
 ·unfold Fit
  rw [← hK]
  refine (abF zc).2 ?_
  rw [hB2]
  have a1 := Int.natAbs_add_le (u.num ^ j * ((1000000 : Nat) : Int)) (o * ((u.den ^ j : Nat) : Int))
  rw [yy, yy, vw] at a1
  have a2 : u.num.natAbs ^ j * 1000000 ≤ B * 1000000 := zJ _ b1
  have a3 : o.natAbs * u.den ^ j ≤ 100000000 * B := Nat.mul_le_mul ho b2
  simp only [zM] at a1
  omega
 ·unfold Fit
  rw [← hK]
  refine (abF zc).2 ?_
  rw [hB2, zM]
  have a2 : u.den ^ j * 1000000 ≤ B * 1000000 := zJ _ b2
  omega
def aEc (m a N : Int) : Rat := mkRat (m * N + a * 1000) 1000000000
def aEr (s : adJ) (N : Int) : Rat := abU (aDL (aEc s.2.1 s.2.2.1 N) ^ s.2.2.2.1.toNat + mkRat s.2.2.2.2.2.1 1000000)
theorem am2 (N : Int) : mkRat N 1000 = mkRat (N * 1000000000) 1000000000000 := by rw [yc zc zc]; omega
theorem awV {s : adJ} (hs : agX s) {N : Int} (n1 : 0 ≤ N) (n2 : N ≤ 1000) : aEs s (mkRat N 1000) = some (aEr s N) ∧ adK (aEr s N) := by
 obtain ⟨c1, c2, c3, c4, c5, -⟩ := hs
 obtain ⟨t, m, a, k, e, o, u⟩ := s
 dsimp only at c1 c2 c3 c4 c5
 have hu : inU (N * 1000000000) := ⟨by omega, by omega⟩
 obtain ⟨l1, -⟩ := ahL c1 c2 hu
 have hm : mkRat (ab2 m a (N * 1000000000)) 1000000000000000000 = aEc m a N := by
  unfold aEc
  rw [yc zc zc]
  unfold ab2
  rw [← Int.mul_assoc]
  generalize m * N = P
  omega
 have x1 : m * N ≤ 100000000 * N := zu c1.2 n1
 have x2 : -100000000 * N ≤ m * N := zu c1.1 n1
 obtain ⟨y1, y2⟩ := c2
 obtain ⟨b1, b2⟩ := aRO (m * N + a * 1000) (d := 1000000000) zc
 obtain ⟨p, hp⟩ : ∃ p, p = aDL (aEc m a N) := ⟨_, rfl⟩
 have hp1 : p.num.natAbs ≤ 1000000000000 ∧ p.den ≤ 1000000000000 := by
  rw [hp]; unfold aDL
  split
  ·exact ⟨by decide, by decide⟩
  ·unfold aEc; exact ⟨by omega, by omega⟩
 obtain ⟨K, hK⟩ : ∃ K : Nat, k = (K : Int) := zv (by have := c4.1; omega)
 subst hK
 have k1 : 1 ≤ K := by have := c4.1; omega
 have k2 : K ≤ 36 := by have := c4.2; omega
 have fA : adK (p ^ K + mkRat o 1000000) := aGA hp1.1 hp1.2 zc (by have := c3.1; have := c3.2; omega)
 refine ⟨?_, ?_⟩
 ·unfold aEs
  dsimp only
  rw [am2, l1, hm]
  simp only [zX]
  rw [← hp, show ((K : Int) - 1).toNat = K - 1 by omega]
  have hpl := atN hp1.1 hp1.2 (K - 1) 1 zc
  rw [Rat.pow_one] at hpl
  rw [hpl, show 1 + (K - 1) = K by omega]
  simp only [zX]
  unfold acI
  rw [if_pos fA]
  show some (abU _) = some (aEr _ N)
  unfold aEr
  dsimp only
  rw [← hp, zp]
 ·unfold aEr
  dsimp only
  rw [← hp, zp]
  exact aAS fA
theorem axQ {a b : Rat} (h : a ≤ b) : abU a ≤ abU b := by
 unfold abU
 split <;> split <;> (try split) <;> grind
theorem atV {N : Int} (n2 : N ≤ 1000) : mkRat N 1000 ≤ 1 := (awO (n := 1) (X := N) (d := 1000) zc).2 zc
theorem atU {N : Int} (n1 : 0 ≤ N) : 0 ≤ mkRat N 1000 := (ap0 (n := 0) (X := N) (d := 1000) zc).2 zc
theorem aER (z : Int) : ∃ N : Int, abU (mkRat z 1000) = mkRat N 1000 ∧ 0 ≤ N ∧ N ≤ 1000 ∧ N = max 0 (min z 1000) := by
 refine ⟨max 0 (min z 1000), ?_, by omega, by omega, rfl⟩
 rcases zO z 0 with h | h
 ·have e : mkRat z 1000 < 0 := vO.1 (fun hc => by have := (ap0 (n := 0) (X := z) (d := 1000) zc).1 hc; omega)
  rw [show max 0 (min z 1000) = 0 by omega, Rat.zero_mkRat]
  unfold abU; rw [if_pos e]
 ·rcases zO 1000 z with g | g
  ·have e : ¬ mkRat z 1000 ≤ 1 := fun hc => by have := (awO (n := 1) (X := z) (d := 1000) zc).1 hc; omega
   have e2 : ¬ mkRat z 1000 < 0 := wT.2 (atU h)
   rw [show max 0 (min z 1000) = 1000 by omega]
   unfold abU; rw [if_neg e2, if_pos (vO.1 e)]; decide
  ·rw [show max 0 (min z 1000) = z by omega]
   exact aNu (atU h) (atV g)
theorem aOU {l : List adJ} (h : ac0 l) {N : Int} (n2 : N ≤ 1000) : l.getD (ae2 (mkRat N 1000) l) (0, 0, 0, 0, 0, 0, ()) ∈ l := by
 have := aHL h (atV n2)
 rw [yd, zP this]
 exact yg _
theorem aDb {l : List Int} (ht : adZ l) {N : Int} (n1 : 0 ≤ N) (n2 : N ≤ 1000) : aOd l (mkRat N 1000) = some (mkRat (ak7 l (N * 1000000000)) 65535000000000000) ∧ adK (mkRat (ak7 l (N * 1000000000)) 65535000000000000) := by
 obtain ⟨h1, h2, -⟩ := acQ ht (n := N * 1000000000) ⟨by omega, by omega⟩
 rw [← am2] at h1
 exact ⟨h1, h2⟩
theorem aPI {c : CvT} (hr : ab1 c) {N : Int} (n1 : 0 ≤ N) (n2 : N ≤ 1000) : (∃ v, aqC c (mkRat N 1000) = (fx v, 0, ()) ∧ adK v) ∨ (¬ axE c ∧ (aqC c (mkRat N 1000)).2.1 = 5) := by
 have hr0 := hr
 unfold aqC
 rcases hr with ⟨h1, h2, h3⟩ | ⟨h1, h2, h3⟩ | ⟨h1, h2, h3⟩
 ·left
  rw [if_pos h1]
  exact ⟨_, rfl, aw6 zc ⟨by omega, by omega⟩ zc⟩
 ·left
  rw [if_neg zc, if_pos h1]
  obtain ⟨e1, e2⟩ := aDb h2 n1 n2
  rw [e1]
  exact ⟨_, rfl, e2⟩
 ·rw [if_neg zc, if_neg zc]
  unfold auP
  have hm := aOU h3 n2
  by_cases hd : (c.2.2.1.getD (ae2 (mkRat N 1000) c.2.2.1) (0, 0, 0, 0, 0, 0, ())).2.2.2.2.1 = 1
  ·left
   rw [if_pos hd]
   obtain ⟨e1, e2⟩ := awV (arP c.2.2.1 0 zc h3.2.2 _ hm).1 n1 n2
   rw [e1]
   exact ⟨_, rfl, e2⟩
  ·right
   rw [if_neg hd]
   exact ⟨fun hc => hd (hc.2 _ hm), rfl⟩
theorem aJ2 {c : CvT} (hr : ab1 c) {z : Int} (hz : aa8 z) : ∃ N : Int, N = max 0 (min z 1000) ∧ 0 ≤ N ∧ N ≤ 1000 ∧ acA (c, fx (mkRat z 1000), ()) = some (aqC c (mkRat N 1000)) := by
 obtain ⟨N, e, n1, n2, e2⟩ := aER z
 refine ⟨N, e2, n1, n2, ?_⟩
 unfold acA
 dsimp only
 rw [if_pos hr, ae7 (aw6 zc hz zc)]
 dsimp only
 rw [e]
theorem aOa (c : CvT) : aq9 (c, ()) = some (decide (axE c), ()) := rfl
theorem ap1 {k : IntKind} {x a b : Int} (h : k.min ≤ x ∧ x ≤ k.max) (ha : k.min = a := by rfl) (hb : k.max = b := by rfl) : inR x a b := by subst ha; subst hb; exact h
theorem aHA (a b : Rat) : ∀ n : Nat, (a * b) ^ n = a ^ n * b ^ n
 | 0 => by rw [Rat.pow_zero, Rat.pow_zero, Rat.pow_zero, Rat.mul_one]
 | n + 1 => by rw [Rat.pow_succ, Rat.pow_succ, Rat.pow_succ, aHA a b n]; grind
theorem aHq (n q : Nat) : apA n ^ q * acE ^ q = ((n ^ q : Nat) : Rat) := by
 rw [← aHA]
 unfold apA
 rw [aGk]
 rw [Rat.natCast_pow]; rfl
theorem aDO (p : Nat) : acE ^ p = ((10 ^ (12 * p) : Nat) : Rat) := by
 unfold acE
 rw [← Rat.natCast_pow, xi]
theorem avK (n q m p : Nat) : apA n ^ q ≤ apA m ^ p ↔ n ^ q * 10 ^ (12 * p) ≤ m ^ p * 10 ^ (12 * q) := by
 have hT : (0 : Rat) < acE ^ q * acE ^ p := Rat.mul_pos (Rat.pow_pos ajC) (Rat.pow_pos ajC)
 have e1 : apA n ^ q * (acE ^ q * acE ^ p) = ((n ^ q * 10 ^ (12 * p) : Nat) : Rat) := by
  rw [← Rat.mul_assoc, aHq, aDO p, ← Rat.natCast_mul]
 have e2 : apA m ^ p * (acE ^ q * acE ^ p) = ((m ^ p * 10 ^ (12 * q) : Nat) : Rat) := by
  rw [Rat.mul_comm (acE ^ q), ← Rat.mul_assoc, aHq, aDO q, ← Rat.natCast_mul]
 constructor
 ·intro h
  have := xK h (Rat.le_of_lt hT)
  rw [e1, e2] at this
  exact Rat.natCast_le_natCast.1 this
 ·intro h
  refine wW ?_ hT
  rw [e1, e2]
  exact Rat.natCast_le_natCast.2 h
theorem aqF {p q : Nat} (n : Nat) (hq : 1 ≤ q) : afO p q n ^ q * 10 ^ (12 * p) ≤ n ^ p * 10 ^ (12 * q) ∧ n ^ p * 10 ^ (12 * q) < (afO p q n + 1) ^ q * 10 ^ (12 * p) := by
 obtain ⟨s1, s2⟩ := ajH (n ^ p * 10 ^ (12 * q) / 10 ^ (12 * p)) hq
 unfold afO
 rw [xZ (yS zc)] at s1
 rw [yF (yS zc)] at s2
 exact ⟨s1, s2⟩
theorem asO (p q n : Nat) (u : Bool) : (alA p q n u).2.1 ≠ 0 ↔ afO p q n > 1000000000000000000 := by
 unfold alA
 split
 ·rename_i h; exact ⟨fun _ => h, fun _ => by dsimp only; omega⟩
 ·rename_i h; exact ⟨fun h2 => absurd rfl h2, fun h2 => absurd h2 h⟩
def aC0 (a b : BdT) : Prop := b.1 ≤ a.1 ∧ a.2.1 ≤ b.2.1
def inB (a : BdT) : Prop := 0 ≤ a.1 ∧ a.1 ≤ a.2.1 ∧ a.2.1 ≤ 1000000000000
theorem agN {l : List BdT} {b : BdT} (h : b ∈ l) : aC0 b (anT l) := by
 cases l with
 | nil => cases h
 | cons a r =>
  obtain ⟨h1, h2⟩ := aAD r a
  rcases zx.1 h with g | g
  ·subst g; exact h1
  ·exact h2 b g
theorem awW {b : BdT} : ∀ (r : List BdT) (a : BdT), aC0 a b → (∀ c ∈ r, aC0 c b) → aC0 (r.foldl ae3 a) b
 | [], _, h, _ => h
 | c :: r, a, h, g => awW r (ae3 a c) (by
   have h2 := g c zT
   unfold aC0 at *
   refine ⟨?_, ?_⟩
   ·show b.1 ≤ min a.1 c.1; omega
   ·show max a.2.1 c.2.1 ≤ b.2.1; omega) (fun d hd => g d (zF _ hd))
theorem aoL {l : List BdT} {b : BdT} (hne : l ≠ []) (h : ∀ c ∈ l, aC0 c b) : aC0 (anT l) b := by
 cases l with
 | nil => exact absurd rfl hne
 | cons a r => exact awW r a (h a zT) (fun b hb => h b (zF _ hb))
theorem aH3 {l : List BdT} (hne : l ≠ []) (h : ∀ c ∈ l, inB c) : inB (anT l) := by
 have h1 : aC0 (anT l) (0, 1000000000000, ()) := aoL hne (fun c hc => ⟨(h c hc).1, (h c hc).2.2⟩)
 obtain ⟨c, hc⟩ := List.exists_mem_of_ne_nil l hne
 have h2 := agN hc
 have h3 := h c hc
 unfold aC0 at h1 h2
 unfold inB at h3 ⊢
 dsimp only at h1
 omega
theorem al4 {p q n m : Nat} (hq : 1 ≤ q) (h : n ≤ m) : afO p q n ≤ afO p q m := by
 obtain ⟨a1, a2⟩ := aqF (p := p) n hq
 obtain ⟨b1, b2⟩ := aqF (p := p) m hq
 rcases zr (afO p q m) (afO p q n) with g | g
 ·have c3 := zJ (10 ^ (12 * p)) (yw g q)
  have c4 := zJ (10 ^ (12 * q)) (yw h p)
  exact absurd (yf b2 (zC c3 (zC a1 c4))) (wD _)
 ·exact g
theorem aRj {p q n m : Nat} (hq : 1 ≤ q) (h : n ≤ m) (hm : afO p q m ≤ 1000000000000000000) : (alA p q n true).1 ≤ (alA p q m true).1 := by
 have e := al4 (p := p) hq h
 obtain ⟨a1, -⟩ := aqF (p := p) n hq
 unfold alA
 rw [if_neg (show ¬ afO p q n > 1000000000000000000 by omega), if_neg (show ¬ afO p q m > 1000000000000000000 by omega)]
 dsimp only
 by_cases c : afO p q n = afO p q m
 ·by_cases d : true = true ∧ afO p q m ^ q * 10 ^ (12 * p) ≠ m ^ p * 10 ^ (12 * q)
  ·rw [if_pos d, c]; split <;> omega
  ·have d2 : afO p q m ^ q * 10 ^ (12 * p) = m ^ p * 10 ^ (12 * q) := Classical.not_not.1 (fun hc => d ⟨rfl, hc⟩)
   have c4 := zJ (10 ^ (12 * q)) (yw h p)
   rw [c] at a1 ⊢
   rw [if_neg (fun hc => hc.2 (Nat.le_antisymm a1 (by rw [d2]; exact c4))), if_neg d]
   exact yl _
 ·split <;> split <;> omega
theorem auY {p q : Int} (hE : okE p q) {a b : Int} (h0 : 0 ≤ a) (hab : a ≤ b) (hb : b ≤ 1000000000000000000) :
  (afO p.toNat q.toNat b.toNat > 1000000000000000000 ∧ auM (a, b, ()) p q = ((0, 0, ()), 6, ())) ∨
  (afO p.toNat q.toNat b.toNat ≤ 1000000000000000000 ∧ auM (a, b, ()) p q = mkB 6 (afO p.toNat q.toNat a.toNat : Int) (alA p.toNat q.toNat b.toNat true).1) := by
 have hm : afO p.toNat q.toNat a.toNat ≤ afO p.toNat q.toNat b.toNat := al4 (by have := hE.2.2.1; omega) zc
 unfold auM
 dsimp only
 rw [if_pos ⟨by omega, hab, hb⟩, if_pos ⟨hE, h0⟩]
 rcases zr 1000000000000000000 (afO p.toNat q.toNat b.toNat) with g | g
 ·left
  refine ⟨g, ?_⟩
  split
  ·rfl
  ·rw [if_pos ((asO _ _ _ _).2 g)]
 ·right
  refine ⟨g, ?_⟩
  have e1 : ¬ (alA p.toNat q.toNat a.toNat false).2.1 ≠ 0 := fun hc => by have := (asO _ _ _ _).1 hc; omega
  have e2 : ¬ (alA p.toNat q.toNat b.toNat true).2.1 ≠ 0 := fun hc => by have := (asO _ _ _ _).1 hc; omega
  rw [if_neg e1, if_neg e2]
  have e3 : (alA p.toNat q.toNat a.toNat false).1 = (afO p.toNat q.toNat a.toNat : Int) := by
   unfold alA; rw [if_neg (show ¬ afO p.toNat q.toNat a.toNat > 1000000000000000000 by omega)]; simp
  rw [e3]
theorem apW (lo hi : Int) : (okB lo hi ∧ mkB 6 lo hi = ((lo, hi, ()), 0, ())) ∨ (¬ okB lo hi ∧ mkB 6 lo hi = ((0, 0, ()), 6, ())) := by
 unfold mkB
 by_cases h : okB lo hi
 ·left; exact ⟨h, if_pos h⟩
 ·right; exact ⟨h, if_neg h⟩
theorem aRk {p q n : Nat} (h : afO p q n ≤ 1000000000000000000) : (afO p q n : Int) ≤ (alA p q n true).1 := by
 unfold alA
 rw [if_neg (show ¬ afO p q n > 1000000000000000000 by omega)]
 dsimp only
 split <;> omega
theorem aBO {p q : Int} (hE : okE p q) {a b c d : Int} (h0 : 0 ≤ a) (h1 : a ≤ b) (h2 : b ≤ c) (h3 : c ≤ d) (h4 : d ≤ 1000000000000000000) (h : (auM (a, d, ()) p q).2.1 = 0) :
  ∃ X x y Y : Int, auM (a, d, ()) p q = ((X, Y, ()), 0, ()) ∧ auM (b, c, ()) p q = ((x, y, ()), 0, ()) ∧ 0 ≤ X ∧ X ≤ x ∧ x ≤ y ∧ y ≤ Y ∧ Y ≤ 1000000000000000000 := by
 have hq : 1 ≤ q.toNat := by have := hE.2.2.1; omega
 have ha : afO p.toNat q.toNat a.toNat ≤ afO p.toNat q.toNat b.toNat := al4 hq zc
 have hb : afO p.toNat q.toNat b.toNat ≤ afO p.toNat q.toNat c.toNat := al4 hq zc
 have hc : afO p.toNat q.toNat c.toNat ≤ afO p.toNat q.toNat d.toNat := al4 hq zc
 rcases auY hE h0 (show a ≤ d by omega) h4 with ⟨g, e⟩ | ⟨g, e⟩
 ·rw [e] at h; exact absurd h zf
 ·rcases apW (afO p.toNat q.toNat a.toNat : Int) (alA p.toNat q.toNat d.toNat true).1 with ⟨o, m⟩ | ⟨o, m⟩
  ·have u1 := aRj (p := p.toNat) hq (show c.toNat ≤ d.toNat by omega) g
   have u2 := aRk (p := p.toNat) (q := q.toNat) (n := c.toNat) zc
   have o3 := o.2.2
   rcases auY hE (show 0 ≤ b by omega) h2 (show c ≤ 1000000000000000000 by omega) with ⟨g2, -⟩ | ⟨-, e2⟩
   ·omega
   ·refine ⟨_, _, _, _, e.trans m, e2.trans (if_pos ⟨by omega, by omega, by omega⟩), by omega, by omega, by omega, u1, o3⟩
  ·rw [e, m] at h; exact absurd h zf
theorem aOR {p q : Int} (hE : okE p q) {a d : Int} (h0 : 0 ≤ a) (h1 : a ≤ d) (h4 : d ≤ 1000000000000000000) : (auM (a, d, ()) p q).2.1 = 0 ∨ auM (a, d, ()) p q = ((0, 0, ()), 6, ()) := by
 rcases auY hE h0 h1 h4 with ⟨-, e⟩ | ⟨-, e⟩
 ·exact Or.inr e
 ·rcases apW (afO p.toNat q.toNat a.toNat : Int) (alA p.toNat q.toNat d.toNat true).1 with ⟨-, m⟩ | ⟨-, m⟩
  ·left; rw [e, m]
  ·right; rw [e, m]
theorem atY (m a : Int) {x y z : Int} (h1 : x ≤ y) (h2 : y ≤ z) : (ab2 m a x ≤ ab2 m a y ∧ ab2 m a y ≤ ab2 m a z) ∨ (ab2 m a z ≤ ab2 m a y ∧ ab2 m a y ≤ ab2 m a x) := by
 unfold ab2
 rcases zO m 0 with g | g
 ·right
  have a1 := Int.mul_le_mul_of_nonpos_left (show m ≤ 0 by omega) h1
  have a2 := Int.mul_le_mul_of_nonpos_left (show m ≤ 0 by omega) h2
  omega
 ·left
  have a1 := zD h1 g
  have a2 := zD h2 g
  omega
theorem aMp {m a n : Int} (hm : inR m (-100000000) 100000000) (ha : inR a (-100000000) 100000000) (hn : inU n) : -200000000000000000000 ≤ ab2 m a n ∧ ab2 m a n ≤ 200000000000000000000 := by
 obtain ⟨n1, n2⟩ := hn
 obtain ⟨a1, a2⟩ := ha
 have x1 : m * n ≤ 100000000 * n := zu hm.2 n1
 have x2 : -100000000 * n ≤ m * n := zu hm.1 n1
 unfold ab2
 omega
theorem avU {s : adJ} (hs : agX s) {a b c d : Int} (h0 : inU a) (h1 : a ≤ b) (h2 : b ≤ c) (h3 : c ≤ d) (h4 : inU d) :
  ∃ X x y Y : Int, anR s a d = (X, Y, ()) ∧ anR s b c = (x, y, ()) ∧ 0 ≤ X ∧ X ≤ x ∧ x ≤ y ∧ y ≤ Y ∧ Y ≤ 1000000000000000000 := by
 refine ⟨_, _, _, _, rfl, rfl, ?_⟩
 have e1 := atY s.2.1 s.2.2.1 h1 (show b ≤ d by omega)
 have e2 := atY s.2.1 s.2.2.1 (show a ≤ c by omega) h3
 have e3 := aMp hs.1 hs.2.1 h0
 have e4 := aMp hs.1 hs.2.1 h4
 generalize ab2 s.2.1 s.2.2.1 a = A at *
 generalize ab2 s.2.1 s.2.2.1 b = B at *
 generalize ab2 s.2.1 s.2.2.1 c = C at *
 generalize ab2 s.2.1 s.2.2.1 d = D at *
 omega
theorem aqR {X Y o : Int} (h0 : 0 ≤ X) (h1 : X ≤ Y) (h2 : Y ≤ 1000000000000000000) (ho : inR o (-100000000) 100000000) : aIj (X, Y, ()) (o * 1000000, o * 1000000, ()) = mkB 6 (X + o * 1000000) (Y + o * 1000000) := by
 obtain ⟨o1, o2⟩ := ho
 unfold aIj
 exact if_pos ⟨⟨by dsimp only; omega, h1, h2⟩, by dsimp only; omega, by dsimp only; omega, by dsimp only; omega⟩
theorem aDS {s : adJ} (hs : agX s) : okE s.2.2.2.1 s.2.2.2.2.1 := ⟨hs.2.2.2.1.1, hs.2.2.2.1.2, hs.2.2.2.2.1.1, hs.2.2.2.2.1.2⟩
theorem apG {s : adJ} {a d : Int} {U : BdT} (hu : anR s a d = U) {P Q : Int} (hp : auM U s.2.2.2.1 s.2.2.2.2.1 = ((P, Q, ()), 0, ())) (ho : aIj (P, Q, ()) (s.2.2.2.2.2.1 * 1000000, s.2.2.2.2.2.1 * 1000000, ()) = ((P + s.2.2.2.2.2.1 * 1000000, Q + s.2.2.2.2.2.1 * 1000000, ()), 0, ())) :
  agT s a d = (anP (P + s.2.2.2.2.2.1 * 1000000, Q + s.2.2.2.2.2.1 * 1000000, ()), 0, ()) := by
 unfold agT
 rw [hu, hp]
 dsimp only
 rw [ho, if_neg (fun h => h rfl), if_neg (fun h => h rfl)]
theorem aoB {s : adJ} (hs : agX s) {a d X Y : Int} (hu : anR s a d = (X, Y, ())) (u0 : 0 ≤ X) (u1 : X ≤ Y) (u4 : Y ≤ 1000000000000000000) :
  (agT s a d).2.1 = 6 ∨ ((auM (X, Y, ()) s.2.2.2.1 s.2.2.2.2.1).2.1 = 0 ∧ okB ((auM (X, Y, ()) s.2.2.2.1 s.2.2.2.2.1).1.1 + s.2.2.2.2.2.1 * 1000000) ((auM (X, Y, ()) s.2.2.2.1 s.2.2.2.2.1).1.2.1 + s.2.2.2.2.2.1 * 1000000)) := by
 rcases aOR (aDS hs) u0 u1 u4 with g | g
 ·obtain ⟨P, p, q, Q, f1, -, v0, v1, v2, v3, v4⟩ := aBO (aDS hs) u0 (yl X) u1 (yl Y) u4 g
  rcases apW (P + s.2.2.2.2.2.1 * 1000000) (Q + s.2.2.2.2.2.1 * 1000000) with ⟨o, m⟩ | ⟨o, m⟩
  ·right; rw [f1]; exact ⟨rfl, o⟩
  ·left
   unfold agT
   rw [hu, f1]
   dsimp only
   rw [aqR v0 zc v4 hs.2.2.1, m]
   rfl
 ·left
  unfold agT
  rw [hu, g]
  rfl
theorem aDl {s : adJ} (hs : agX s) {a b c d : Int} (h0 : inU a) (h1 : a ≤ b) (h2 : b ≤ c) (h3 : c ≤ d) (h4 : inU d) (h : (agT s a d).2.1 = 0) :
  (agT s b c).2.1 = 0 ∧ aC0 (agT s b c).1 (agT s a d).1 ∧ inB (agT s b c).1 := by
 obtain ⟨X, x, y, Y, e1, e2, u0, u1, u2, u3, u4⟩ := avU hs h0 h1 h2 h3 h4
 rcases aoB hs e1 u0 zc u4 with g | ⟨hp, o⟩
 ·rw [g] at h; exact absurd h zf
 obtain ⟨P, p, q, Q, f1, f2, v0, v1, v2, v3, v4⟩ := aBO (aDS hs) u0 u1 u2 u3 u4 hp
 rw [f1] at o
 have o' : okB (P + s.2.2.2.2.2.1 * 1000000) (Q + s.2.2.2.2.2.1 * 1000000) := o
 have o2 : okB (p + s.2.2.2.2.2.1 * 1000000) (q + s.2.2.2.2.2.1 * 1000000) := by unfold okB at o' ⊢; omega
 rw [apG e1 f1 ((aqR v0 zc v4 hs.2.2.1).trans (if_pos o')), apG e2 f2 ((aqR zc v2 zc hs.2.2.1).trans (if_pos o2))]
 unfold aC0 inB anP
 refine ⟨rfl, ⟨?_, ?_⟩, ?_, ?_, ?_⟩ <;> dsimp only <;> omega
theorem aLh {s : adJ} (hs : agX s) {a d : Int} (h0 : inU a) (h1 : a ≤ d) (h4 : inU d) : (agT s a d).2.1 = 0 ∨ (agT s a d).2.1 = 6 := by
 obtain ⟨X, x, y, Y, e1, -, u0, u1, u2, u3, u4⟩ := avU hs h0 (yl a) h1 (yl d) h4
 rcases aoB hs e1 u0 zc u4 with g | ⟨hp, o⟩
 ·exact Or.inr g
 ·obtain ⟨P, p, q, Q, f1, -, v0, v1, v2, v3, v4⟩ := aBO (aDS hs) u0 (yl X) (show X ≤ Y by omega) (yl Y) u4 hp
  rw [f1] at o
  left
  rw [apG e1 f1 ((aqR v0 zc v4 hs.2.2.1).trans (if_pos o))]
theorem ao2 {l : List adJ} {lo hi : Int} : ∀ (n k : Nat) (acc : List BdT), (∀ j, k ≤ j → j < k + n → (amR l lo hi j).2.1 = 0) → agV l lo hi n k acc = (anT (acc ++ (List.range' k n).map (fun j => (amR l lo hi j).1)), 0, ())
 | 0, k, acc, _ => by unfold agV; simp
 | n + 1, k, acc, h => by
  rw [aeU, if_neg (fun hc => hc (h k zc zc)), ao2 n (k + 1) _ (fun j h1 h2 => h j zc zc)]
  simp [List.range'_succ]
theorem aA1 {l : List adJ} {lo hi : Int} : ∀ (n k : Nat) (acc : List BdT), (agV l lo hi n k acc).2.1 = 0 → ∀ j, k ≤ j → j < k + n → (amR l lo hi j).2.1 = 0
 | 0, k, acc, _ => fun j h1 h2 => by omega
 | n + 1, k, acc, h => fun j h1 h2 => by
  rw [aeU] at h
  by_cases c : (amR l lo hi k).2.1 = 0
  ·rw [if_neg (fun hc => hc c)] at h
   rcases Nat.eq_or_lt_of_le h1 with g | g
   ·subst g; exact c
   ·exact aA1 n (k + 1) _ h j g zc
  ·rw [if_pos c] at h; exact absurd h c
theorem ayB {l : List adJ} {lo hi : Int} : ∀ (n k : Nat) (acc : List BdT), (∀ j, k ≤ j → j < k + n → (amR l lo hi j).2.1 = 0 ∨ (amR l lo hi j).2.1 = 6) → (agV l lo hi n k acc).2.1 = 0 ∨ (agV l lo hi n k acc).2.1 = 6
 | 0, k, acc, _ => Or.inl rfl
 | n + 1, k, acc, h => by
  rw [aeU]
  rcases h k zc zc with c | c
  ·rw [if_neg (fun hc => hc c)]
   exact ayB n (k + 1) _ (fun j h1 h2 => h j zc zc)
  ·rw [if_pos zc]; exact Or.inr c
theorem apJ {l : List adJ} (hl : ac0 l) {lo m : Int} (h1 : inU lo) (h2 : inU m) (h : lo ≤ m) {j : Nat} (j1 : aa2 lo l ≤ j) (j2 : j ≤ aa2 m l) :
  agX (l.getD j zs) ∧ inU (max lo (abD l j * 1000000)) ∧ max lo (abD l j * 1000000) ≤ min m ((l.getD j zs).1 * 1000000) ∧ inU (min m ((l.getD j zs).1 * 1000000)) := by
 obtain ⟨p1, p2, p3⟩ := ag8 hl h2
 have hj : j < l.length := zc
 obtain ⟨g1, g2, g3⟩ := avT hl hj
 obtain ⟨b1, b2⟩ := aA0 hl (show j ≤ l.length by omega)
 have t1 := (ag7 hl h1 hj).2 j1
 have t2 : j ≠ 0 → abD l j * 1000000 < m := fun h0 => by
  have := (ahW hl h2 h0 hj); omega
 have t3 : abD l j ≤ (l.getD j zs).1 := by
  unfold abD
  split
  ·omega
  ·have := aK3 hl (show j - 1 < j by omega) hj
   exact xf this
 have t4 : abD l j * 1000000 ≤ m := by
  by_cases h0 : j = 0
  ·have : abD l j = 0 := by unfold abD; rw [if_pos h0]
   have := h2.1; omega
  ·exact xf (t2 h0)
 obtain ⟨x1, x2⟩ := h1
 obtain ⟨y1, y2⟩ := h2
 exact ⟨g1, ⟨by omega, by omega⟩, by omega, ⟨by omega, by omega⟩⟩
theorem amW {l : List adJ} (hl : ac0 l) {a b : Int} (h1 : inU a) (h2 : inU b) (h : a ≤ b) : aa2 a l ≤ aa2 b l := by
 obtain ⟨p1, p2, p3⟩ := ag8 hl h2
 exact (ag7 hl h1 p1).1 zc
theorem aA2 {l : List adJ} (hl : ac0 l) {lo m hi : Int} (h1 : inU lo) (h2 : inU m) (h3 : inU hi) (a : lo ≤ m) (b : m ≤ hi) (h : (afQ l lo hi).2.1 = 0) :
  (afQ l lo m).2.1 = 0 ∧ aC0 (afQ l lo m).1 (afQ l lo hi).1 ∧ inB (afQ l lo m).1 ∧ ∀ j, aa2 lo l ≤ j → j ≤ aa2 m l → (amR l lo m j).2.1 = 0 ∧ aC0 (amR l lo m j).1 (afQ l lo m).1 := by
 have q1 := amW hl h1 h2 a
 have q2 := amW hl h2 h3 b
 unfold afQ at h ⊢
 have hw := aA1 _ _ _ h
 have hs : ∀ j, aa2 lo l ≤ j → j ≤ aa2 m l → (amR l lo m j).2.1 = 0 ∧ aC0 (amR l lo m j).1 (amR l lo hi j).1 ∧ inB (amR l lo m j).1 := by
  intro j j1 j2
  obtain ⟨n1, n2, n3, n4⟩ := apJ hl h1 h2 a j1 j2
  obtain ⟨-, -, w3, w4⟩ := apJ hl h1 h3 zc j1 (zC j2 q2)
  exact aDl n1 n2 (yl _) n3 zc w4 (hw j j1 zc)
 have hn : agV l lo m (aa2 m l + 1 - aa2 lo l) (aa2 lo l) [] = _ := ao2 _ _ _ (fun j j1 j2 => (hs j j1 zc).1)
 rw [ao2 _ _ _ hw, hn]
 simp only [xj]
 have hne : (List.range' (aa2 lo l) (aa2 m l + 1 - aa2 lo l)).map (fun j => (amR l lo m j).1) ≠ [] := by
  intro hc
  have := congrArg List.length hc
  simp at this
  omega
 refine ⟨trivial, ?_, ?_, ?_⟩
 ·refine aoL hne (fun c hc => ?_)
  obtain ⟨j, hj, rfl⟩ := zG.1 hc
  have hj2 := vz.1 hj
  have e1 := (hs j hj2.1 zc).2.1
  have e2 : aC0 (amR l lo hi j).1 (anT ((List.range' (aa2 lo l) (aa2 hi l + 1 - aa2 lo l)).map (fun j => (amR l lo hi j).1))) := agN (zG.2 ⟨j, vz.2 ⟨hj2.1, (by omega : j < aa2 lo l + (aa2 hi l + 1 - aa2 lo l))⟩, rfl⟩)
  exact ⟨wC e2.1 e1.1, wC e1.2 e2.2⟩
 ·refine aH3 hne (fun c hc => ?_)
  obtain ⟨j, hj, rfl⟩ := zG.1 hc
  have hj2 := vz.1 hj
  exact (hs j hj2.1 zc).2.2
 ·intro j j1 j2
  exact ⟨(hs j j1 j2).1, agN (zG.2 ⟨j, vz.2 ⟨j1, by omega⟩, rfl⟩)⟩
theorem aKp {l : List adJ} (hl : ac0 l) {lo hi : Int} (h1 : inU lo) (h3 : inU hi) (a : lo ≤ hi) : (afQ l lo hi).2.1 = 0 ∨ (afQ l lo hi).2.1 = 6 := by
 have q1 := amW hl h1 h3 a
 unfold afQ
 refine ayB _ _ _ (fun j j1 j2 => ?_)
 obtain ⟨n1, n2, n3, n4⟩ := apJ hl h1 h3 a j1 zc
 exact aLh n1 n2 n3 n4
theorem aNs {a b : Int} {y : Rat} (h1 : (a : Rat) ≤ y * acE) (h2 : y * acE ≤ (b : Rat)) : ((min (max a 0) 1000000000000 : Int) : Rat) ≤ abU y * acE ∧ abU y * acE ≤ ((min (max b 0) 1000000000000 : Int) : Rat) := by
 have k : ∀ z : Int, abU (mkRat z 1000000000000) = mkRat (min (max z 0) 1000000000000) 1000000000000 := by
  intro z
  unfold abU
  have z0 : (0 : Rat) = mkRat 0 1000000000000 := zf
  split
  ·next g => rw [z0, an7] at g; rw [show min (max z 0) 1000000000000 = 0 by omega]; exact z0
  ·next g =>
   rw [z0, an7] at g
   split
   ·next f =>
    have f2 : mkRat 1000000000000 1000000000000 < mkRat z 1000000000000 := by rw [unit_one]; exact f
    rw [an7] at f2
    rw [show min (max z 0) 1000000000000 = 1000000000000 by omega]; exact unit_one.symm
   ·next f =>
    have f2 : ¬ mkRat 1000000000000 1000000000000 < mkRat z 1000000000000 := by rw [unit_one]; exact f
    rw [an7] at f2
    rw [show min (max z 0) 1000000000000 = z by omega]
 have g1 := axQ ((afS a y).2 h1)
 have g2 := axQ ((ahM b y).2 h2)
 rw [k] at g1 g2
 exact ⟨(afS _ _).1 g1, (ahM _ _).1 g2⟩
theorem aOF {s : adJ} (hs : agX s) (hd : s.2.2.2.2.1 = 1) {N : Int} (n1 : 0 ≤ N) (n2 : N ≤ 1000) (h : (agT s (N * 1000000000) (N * 1000000000)).2.1 = 0) :
  ((agT s (N * 1000000000) (N * 1000000000)).1.1 : Rat) ≤ aEr s N * acE ∧ aEr s N * acE ≤ ((agT s (N * 1000000000) (N * 1000000000)).1.2.1 : Rat) := by
 have hu : inU (N * 1000000000) := ⟨by omega, by omega⟩
 obtain ⟨X, x, y, Y, e1, -, u0, u1, u2, u3, u4⟩ := avU hs hu (yl _) (yl _) (yl _) hu
 obtain ⟨u, hU⟩ : ∃ u : Nat, max ((s.2.1 * N + s.2.2.1 * 1000) * 1000) 0 = (u : Int) := zv zc
 have eX : anR s (N * 1000000000) (N * 1000000000) = ((u : Int), (u : Int), ()) := by
  rw [← hU]
  unfold anR ab2
  rw [← Int.mul_assoc]
  generalize s.2.1 * N = P at *
  refine Prod.ext ?_ (Prod.ext ?_ rfl) <;> dsimp only <;> omega
 have hu9 : (u : Int) ≤ 1000000000000000000 := by
  rw [eX] at e1
  have := (Prod.mk.inj e1).1
  omega
 obtain ⟨p, hp⟩ : ∃ p : Nat, s.2.2.2.1 = (p : Int) := zv (by have := hs.2.2.2.1.1; omega)
 have hE : okE s.2.2.2.1 1 := by have := aDS hs; rw [hd] at this; exact this
 rcases aoB hs eX zc (yl _) hu9 with g | ⟨hw, o1⟩
 ·rw [g] at h; exact absurd h zf
 rw [hd] at hw o1
 rcases auY hE (show (0 : Int) ≤ (u : Int) by omega) (yl _) hu9 with ⟨g, e⟩ | ⟨g, e⟩
 ·rw [e] at hw; exact absurd hw zf
 rw [hp] at e g
 rw [show ((p : Int)).toNat = p by omega, show (1 : Int).toNat = 1 from rfl, show ((u : Int)).toNat = u by omega] at e g
 obtain ⟨s1, s2⟩ := aqF (p := p) (q := 1) u zc
 obtain ⟨d, hd1, hd2⟩ : ∃ d : Nat, (alA p 1 u true).1 = ((afO p 1 u + d : Nat) : Int) ∧ u ^ p * 10 ^ (12 * 1) ≤ (afO p 1 u + d) ^ 1 * 10 ^ (12 * p) := by
  unfold alA
  rw [if_neg (show ¬ afO p 1 u > 1000000000000000000 by omega)]
  dsimp only
  by_cases c : afO p 1 u ^ 1 * 10 ^ (12 * p) = u ^ p * 10 ^ (12 * 1)
  ·rw [if_neg (fun hc => hc.2 c)]
   exact ⟨0, by omega, vo c.symm⟩
  ·rw [if_pos ⟨rfl, c⟩]
   exact ⟨1, by omega, vt s2⟩
 generalize afO p 1 u = Q at *
 rw [hd1] at e
 have a1 : apA Q ^ 1 ≤ apA u ^ p := (avK _ _ _ _).2 s1
 have a2 : apA u ^ p ≤ apA (Q + d) ^ 1 := (avK _ _ _ _).2 hd2
 rw [Rat.pow_one] at a1 a2
 have b1 : ((Q : Int) : Rat) ≤ apA u ^ p * acE := (afS (Q : Int) _).1 a1
 have b2 : apA u ^ p * acE ≤ (((Q + d : Nat) : Int) : Rat) := (ahM ((Q + d : Nat) : Int) _).1 a2
 have hq : aDL (aEc s.2.1 s.2.2.1 N) = apA u := by
  have z0 : (0 : Rat) = mkRat 0 1000000000000 := zf
  have hl : aEc s.2.1 s.2.2.1 N = mkRat ((s.2.1 * N + s.2.2.1 * 1000) * 1000) 1000000000000 := by
   unfold aEc
   rw [yc zc zc]
   omega
  unfold aDL
  rw [hl]
  unfold apA
  rw [← hU]
  split
  ·next c => rw [z0, an7] at c; rw [show max ((s.2.1 * N + s.2.2.1 * 1000) * 1000) 0 = 0 by omega]; exact z0
  ·next c => rw [z0, an7] at c; rw [show max ((s.2.1 * N + s.2.2.1 * 1000) * 1000) 0 = (s.2.1 * N + s.2.2.1 * 1000) * 1000 by omega]
 have e' : auM ((u : Int), (u : Int), ()) s.2.2.2.1 s.2.2.2.2.1 = mkB 6 (Q : Int) ((Q + d : Nat) : Int) := by rw [hp, hd]; exact e
 rcases apW (Q : Int) ((Q + d : Nat) : Int) with ⟨o3, m1⟩ | ⟨o3, m1⟩
 case inr => rw [hp, e, m1] at hw; exact absurd hw zf
 rw [hp, e, m1] at o1
 have o2 : okB ((Q : Int) + s.2.2.2.2.2.1 * 1000000) (((Q + d : Nat) : Int) + s.2.2.2.2.2.1 * 1000000) := o1
 rw [apG eX (e'.trans m1) ((aqR zc zc o3.2.2 hs.2.2.1).trans (if_pos o2))]
 unfold aEr
 rw [hq, hp, show ((p : Int)).toNat = p by omega]
 have ho : mkRat s.2.2.2.2.2.1 1000000 * acE = ((s.2.2.2.2.2.1 * 1000000 : Int) : Rat) := by
  rw [aAw, arL]
 refine aNs ?_ ?_
 ·rw [Rat.add_mul, ho, xq]
  exact Rat.add_le_add_right.2 b1
 ·rw [Rat.add_mul, ho, xq]
  exact Rat.add_le_add_right.2 b2
theorem apC {a b : Int} (h : a ≤ b) : (ay8 a).1 ≤ (ay8 b).1 ∧ (ay8 a).2.1 ≤ (ay8 b).2.1 := by
 unfold ay8; dsimp only; omega
theorem aFy {m : Int} (h0 : 0 ≤ m) (h1 : m ≤ 65535000000000000) : inB (ay8 m) := by
 unfold inB ay8; dsimp only; omega
def agW (l : List Int) (i : Nat) (X : Int) : Int := l.getD i 0 * 1000000000000 + (X - (i : Int) * 1000000000000) * (l.getD (i + 1) 0 - l.getD i 0)
theorem aBP (l : List Int) (i : Nat) {A X B : Int} (h1 : A ≤ X) (h2 : X ≤ B) : (agW l i A ≤ agW l i X ∧ agW l i X ≤ agW l i B) ∨ (agW l i B ≤ agW l i X ∧ agW l i X ≤ agW l i A) := by
 unfold agW
 rcases vm (l.getD (i + 1) 0 - l.getD i 0) 0 with g | g
 ·right
  have a1 := xG (show A - (i : Int) * 1000000000000 ≤ X - (i : Int) * 1000000000000 by omega) g
  have a2 := xG (show X - (i : Int) * 1000000000000 ≤ B - (i : Int) * 1000000000000 by omega) g
  omega
 ·left
  have a1 := zu (show A - (i : Int) * 1000000000000 ≤ X - (i : Int) * 1000000000000 by omega) g
  have a2 := zu (show X - (i : Int) * 1000000000000 ≤ B - (i : Int) * 1000000000000 by omega) g
  omega
theorem aHW {l : List Int} {lo hi : Int} {k : Nat} (hk : k < l.length) (h1 : lo * ((l.length - 1 : Nat) : Int) ≤ (k : Int) * 1000000000000) (h2 : (k : Int) * 1000000000000 ≤ hi * ((l.length - 1 : Nat) : Int)) :
  ay8 (l.getD k 0 * 1000000000000) ∈ avO l lo hi l.length :=
 zF _ (zF _ (zG.2 ⟨k, xH.2 ⟨List.mem_range.2 hk, zo ⟨h1, h2⟩⟩, rfl⟩))
theorem aOA {l : List Int} (ht : adZ l) {lo m hi : Int} (h1 : inU lo) (h3 : inU hi) (a : lo ≤ m) (b : m ≤ hi) :
  ∃ c ∈ avO l lo hi l.length, ∃ d ∈ avO l lo hi l.length, c.1 ≤ (ay8 (ak7 l m)).1 ∧ (ay8 (ak7 l m)).2.1 ≤ d.2.1 := by
 have hl1 := ht.1
 obtain ⟨i, hi0⟩ : ∃ i, i = ak8 l m := ⟨_, rfl⟩
 have eA : lo * ((l.length - 1 : Nat) : Int) ≤ m * ((l.length - 1 : Nat) : Int) := zu a zc
 have eB : m * ((l.length - 1 : Nat) : Int) ≤ hi * ((l.length - 1 : Nat) : Int) := zu b zc
 have e0 : 0 ≤ lo * ((l.length - 1 : Nat) : Int) := ye h1.1 zc
 have e1 : hi * ((l.length - 1 : Nat) : Int) ≤ 1000000000000 * ((l.length - 1 : Nat) : Int) := zu h3.2 zc
 have tA : ak7 l lo = agW l (ak8 l lo) (lo * ((l.length - 1 : Nat) : Int)) := rfl
 have tB : ak7 l hi = agW l (ak8 l hi) (hi * ((l.length - 1 : Nat) : Int)) := rfl
 have tX : ak7 l m = agW l i (m * ((l.length - 1 : Nat) : Int)) := by rw [hi0]; rfl
 have pA : ak8 l lo = min (lo * ((l.length - 1 : Nat) : Int) / 1000000000000).toNat (l.length - 2) := rfl
 have pB : ak8 l hi = min (hi * ((l.length - 1 : Nat) : Int) / 1000000000000).toNat (l.length - 2) := rfl
 have pX : i = min (m * ((l.length - 1 : Nat) : Int) / 1000000000000).toNat (l.length - 2) := by rw [hi0]; rfl
 have fA : ay8 (ak7 l lo) ∈ avO l lo hi l.length := zT
 have fB : ay8 (ak7 l hi) ∈ avO l lo hi l.length := zF _ zT
 have nd := fun (k : Nat) (hk : k < l.length) => aHW (l := l) (lo := lo) (hi := hi) hk
 rw [tA] at fA
 rw [tB] at fB
 rw [tX]
 generalize lo * ((l.length - 1 : Nat) : Int) = XA at *
 generalize hi * ((l.length - 1 : Nat) : Int) = XB at *
 generalize m * ((l.length - 1 : Nat) : Int) = X at *
 have hA : ∃ A, A ≤ X ∧ ay8 (agW l i A) ∈ avO l lo hi l.length := by
  rcases vm XA ((i : Int) * 1000000000000) with g | g
  ·refine ⟨(i : Int) * 1000000000000, by omega, ?_⟩
   have := nd i zc g zc
   unfold agW
   rw [Int.sub_self, Int.zero_mul, vq]
   exact this
  ·refine ⟨XA, eA, ?_⟩
   rw [show ak8 l lo = i by omega] at fA
   exact fA
 have hB : ∃ B, X ≤ B ∧ ay8 (agW l i B) ∈ avO l lo hi l.length := by
  rcases zO XB (((i + 1 : Nat) : Int) * 1000000000000) with g | g
  ·refine ⟨XB, eB, ?_⟩
   rw [show ak8 l hi = i by omega] at fB
   exact fB
  ·refine ⟨((i + 1 : Nat) : Int) * 1000000000000, by omega, ?_⟩
   have := nd (i + 1) zc zc g
   unfold agW
   rw [show ((i + 1 : Nat) : Int) * 1000000000000 - (i : Int) * 1000000000000 = 1000000000000 by omega, show l.getD i 0 * 1000000000000 + 1000000000000 * (l.getD (i + 1) 0 - l.getD i 0) = l.getD (i + 1) 0 * 1000000000000 by omega]
   exact this
 obtain ⟨A, a1, a2⟩ := hA
 obtain ⟨B, b1, b2⟩ := hB
 rcases aBP l i a1 b1 with ⟨c1, c2⟩ | ⟨c1, c2⟩
 ·exact ⟨_, a2, _, b2, (apC c1).1, (apC c2).2⟩
 ·exact ⟨_, b2, _, a2, (apC c1).1, (apC c2).2⟩
theorem aSA {l : List Int} (ht : adZ l) (k : Nat) : 0 ≤ l.getD k 0 ∧ l.getD k 0 ≤ 65535 := by
 rw [yd]
 cases h : l[k]? with
 | none => exact ⟨yl _, by decide⟩
 | some v => exact ht.2.2 v (List.mem_of_getElem? h)
theorem aNL {l : List Int} (ht : adZ l) {lo hi : Int} (h1 : inU lo) (h3 : inU hi) : inB (alC l lo hi) := by
 refine aH3 (List.cons_ne_nil _ _) (fun c hc => ?_)
 rcases zx.1 hc with rfl | hc
 ·obtain ⟨-, -, g1, g2⟩ := acQ ht h1
  exact aFy g1 g2
 rcases zx.1 hc with rfl | hc
 ·obtain ⟨-, -, g1, g2⟩ := acQ ht h3
  exact aFy g1 g2
 ·obtain ⟨j, -, rfl⟩ := zG.1 hc
  have := aSA ht j
  exact aFy zc zc
theorem aKo {l : List Int} (ht : adZ l) {lo m hi : Int} (h1 : inU lo) (h3 : inU hi) (a : lo ≤ m) (b : m ≤ hi) : aC0 (alC l lo m) (alC l lo hi) := by
 refine aoL (List.cons_ne_nil _ _) (fun c hc => ?_)
 rcases zx.1 hc with rfl | hc
 ·exact agN zT
 rcases zx.1 hc with rfl | hc
 ·obtain ⟨c, c1, d, d1, g1, g2⟩ := aOA ht h1 h3 a b
  exact ⟨wC (agN c1).1 g1, wC g2 (agN d1).2⟩
 ·obtain ⟨j, hj, rfl⟩ := zG.1 hc
  obtain ⟨j1, j2⟩ := xH.1 hj
  obtain ⟨j3, j4⟩ := of_decide_eq_true j2
  exact agN (aHW (List.mem_range.1 j1) j3 (wC j4 (zu b zc)))
theorem aKq {c : CvT} (hr : ab1 c) {lo hi : Int} (h1 : inU lo) (h3 : inU hi) (a : lo ≤ hi) : (ad5 c (lo, hi, ())).2.1 = 0 ∨ (ad5 c (lo, hi, ())).2.1 = 6 := by
 unfold ad5
 rcases hr with ⟨g1, g2, g3⟩ | ⟨g1, g2, g3⟩ | ⟨g1, g2, g3⟩
 ·rw [if_pos g1]; exact Or.inl rfl
 ·rw [if_neg zc, if_pos g1]; exact Or.inl rfl
 ·rw [if_neg zc, if_neg zc]; exact aKp g3 h1 h3 a
theorem aA3 {c : CvT} (hr : ab1 c) {lo m hi : Int} (h1 : inU lo) (h2 : inU m) (h3 : inU hi) (a : lo ≤ m) (b : m ≤ hi) (h : (ad5 c (lo, hi, ())).2.1 = 0) :
  (ad5 c (lo, m, ())).2.1 = 0 ∧ aC0 (ad5 c (lo, m, ())).1 (ad5 c (lo, hi, ())).1 ∧ inB (ad5 c (lo, m, ())).1 := by
 unfold ad5 at h ⊢
 rcases hr with ⟨g1, g2, g3⟩ | ⟨g1, g2, g3⟩ | ⟨g1, g2, g3⟩
 ·rw [if_pos g1, if_pos g1]; exact ⟨rfl, ⟨yl _, b⟩, h1.1, a, h2.2⟩
 ·rw [if_neg zc, if_pos g1, if_neg zc, if_pos g1]
  exact ⟨rfl, aKo g2 h1 h3 a b, aNL g2 h1 h2⟩
 ·rw [if_neg zc, if_neg zc] at h ⊢
  rw [if_neg zc, if_neg zc]
  obtain ⟨x1, x2, x3, -⟩ := aA2 g3 h1 h2 h3 a b h
  exact ⟨x1, x2, x3⟩
theorem aF0 (N : Int) (l : List adJ) : ae2 (mkRat N 1000) l = aa2 (N * 1000000000) l := by rw [am2, amV]
theorem aLu {a b : Int} (h : a ≤ b) : (a : Rat) ≤ (b : Rat) := by exact_mod_cast h
theorem awT {a b : BdT} (h : aC0 a b) {q : Rat} (h2 : (a.1 : Rat) ≤ q ∧ q ≤ (a.2.1 : Rat)) : (b.1 : Rat) ≤ q ∧ q ≤ (b.2.1 : Rat) :=
 ⟨Rat.le_trans (aLu h.1) h2.1, Rat.le_trans h2.2 (aLu h.2)⟩
theorem aRd {c : CvT} (hr : ab1 c) {lo N : Int} (h1 : inU lo) (n1 : 0 ≤ N) (n2 : N ≤ 1000) (a : lo ≤ N * 1000000000) (h : (ad5 c (lo, N * 1000000000, ())).2.1 = 0) {v : Rat} (e : aqC c (mkRat N 1000) = (fx v, 0, ())) :
  ((ad5 c (lo, N * 1000000000, ())).1.1 : Rat) ≤ v * acE ∧ v * acE ≤ ((ad5 c (lo, N * 1000000000, ())).1.2.1 : Rat) := by
 have h2 : inU (N * 1000000000) := ⟨by omega, by omega⟩
 unfold ad5 at h ⊢
 unfold aqC at e
 rcases hr with ⟨g1, g2, g3⟩ | ⟨g1, g2, g3⟩ | ⟨g1, g2, g3⟩
 ·rw [if_pos g1] at e ⊢
  obtain rfl := anX (Prod.mk.inj e).1
  rw [am2, arL]
  exact ⟨aLu a, Rat.le_refl⟩
 ·rw [if_neg zc, if_pos g1] at e ⊢
  rw [(aDb g2 n1 n2).1] at e
  obtain rfl := anX (Prod.mk.inj e).1
  have hm : ay8 (ak7 c.2.1 (N * 1000000000)) ∈ avO c.2.1 lo (N * 1000000000) c.2.1.length := zF _ zT
  refine awT (agN hm) ?_
  rw [aSO]
  refine ⟨(ap0 zc).2 ?_, (awO zc).2 ?_⟩
  ·unfold ay8; dsimp only; omega
  ·unfold ay8; dsimp only; omega
 ·rw [if_neg zc, if_neg zc] at e h ⊢
  unfold auP at e
  rw [aF0] at e
  obtain ⟨p1, p2, p3⟩ := ag8 g3 h2
  by_cases hd : (c.2.2.1.getD (aa2 (N * 1000000000) c.2.2.1) (0, 0, 0, 0, 0, 0, ())).2.2.2.2.1 = 1
  ·rw [if_pos hd] at e
   have hj := amW g3 h1 h2 a
   obtain ⟨q1, q2, q3, q4⟩ := apJ g3 h1 h2 a hj (zq _)
   rw [(awV q1 n1 n2).1] at e
   obtain rfl := anX (Prod.mk.inj e).1
   obtain ⟨-, -, -, k4⟩ := aA2 g3 h1 h2 h2 a (yl _) h
   obtain ⟨k5, k6⟩ := k4 _ hj (zq _)
   refine awT k6 ?_
   unfold amR at k5 ⊢
   have e1 : min (N * 1000000000) ((c.2.2.1.getD (aa2 (N * 1000000000) c.2.2.1) (0, 0, 0, 0, 0, 0, ())).1 * 1000000) = N * 1000000000 := Int.min_eq_left p2
   rw [e1] at k5 ⊢
   obtain ⟨r1, r2, -⟩ := aDl q1 q2 (show _ ≤ N * 1000000000 from wC q3 (Int.min_le_left _ _)) (yl _) (yl _) h2 k5
   exact awT r2 (aOF q1 hd n1 n2 r1)
  ·rw [if_neg hd] at e
   have := congrArg (fun x : FxT × Int × Unit => x.2.1) e
   exact absurd this (by show ¬ (5 : Int) = 0; decide)
end Go.Vs
