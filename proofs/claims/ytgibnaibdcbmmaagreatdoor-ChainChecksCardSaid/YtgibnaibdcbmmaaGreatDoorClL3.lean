/-
  Trees of what the functions compute, and their laws. Own work; no condition.
-/
import Derived.Test.YtgibnaibdcbmmaaGreatDoorClL2
import Derived.Test.YtgibnaibdcbmmaaGreatDoorProg
set_option linter.unusedVariables false
set_option linter.unusedSimpArgs false
set_option maxRecDepth 100000
namespace Go.Vs
open Go Go.Vg Go.Proofs
noncomputable section
abbrev DTl (d : Int × List Int × List (Int × Int × Int × Int × Int × Int × Unit) × Bool × Bool × Unit) : Prop := Qq true ∧ (Qq (111 : TypeId) ∧ Qq (0 : Int) ∧ True ∧ True ∧ True) ∧ Qq true ∧ (Qq (28 : TypeId) ∧ Qq d.1 ∧ Qq d.2.1 ∧ Qq d.2.2.1 ∧ Qq d.2.2.2.1 ∧ Qq d.2.2.2.2.1 ∧ True) ∧ Qq true ∧ True
abbrev gP (d : Int × List Int × List (Int × Int × Int × Int × Int × Int × Unit) × Bool × Bool × Unit) (i : Int) := gi d.2.2.1 i (0, 0, 0, 0, 0, 0, ())
def aBd : LTab := [(225, 7, 4100, ⟨0, Bool × (List Int) × Unit, .appN (.c 3 1) 4 3 xW <| .nil, [3, 2, 1], [3, 1, 0], 1⟩), (225, 58, 5124, ⟨1, (Int) × Bool × (List Int) × Unit, .dat (.s 4) xW <| .appN (.c 3 1) 5 3 xW <| .nil, [3, 2, 1], [3, 1, 0], 1⟩), (225, 60, 5124, ⟨2, Bool × (List Int) × Unit, .appN (.c 3 1) 5 3 xW <| .nil, [3, 2, 1], [3, 1, 0], 1⟩), (225, 4014, 19459, ⟨3, (Int) × (Int) × (List Int) × Unit, .dat (.s 7) xW <| .dat (.s 6) xW <| .row 5 xW <| .nil, [5, 3, 2], [5, 3, 1, 0], 0⟩), (225, 60, 5123, ⟨4, (List Int) × Unit, .app (.c 3 1) 5 3 xW <| .nil, [3, 2, 1], [3, 1, 0], 1⟩)]
def afZ (i : (Int) × Bool × (List Int) × Unit) (d : Int × List Int × List xV × Bool × Bool × Unit) : TT (wt ⊕ wC) :=
 .tt <| .lt (i.2.2.1 : List Int) fun z4 => .xC ww <| .xC (xB (xR 3 z4) <| (xO 111 (2 : Int) <| (xT 4 0 (List.length z4) true) ∧ True ∧ True) ∧ DTl d) <| .ok (.inr (.inl ((false, z4, ()))))
def ajN (d : Int × List Int × List xV × Bool × Bool × Unit) (i : (Int) × Bool × (List Int) × Unit) : TT (wt ⊕ wC) :=
 .ite (i.2.1)
 (.ite (decide (i.1 < len d.2.1))
  (.ite (decide (i.1 < 8))
   (.need (inb i.1 (len d.2.1)) <| .need (1 * 8 ≤ 140737488355328) <| .tt <| .lt (w64 (i.1 + 1) : Int) fun z => .lt ([w64 (gi d.2.1 i.1 0)] : List Int) fun z1 => .xC (xK z <| wq ∧ wa ∧ wb ∧ True) <| .xC (xB (xR 3 z1) <| wV ∧ DTl d) <| .ok (.inl ((z, false, z1, ()))))
   (.tt <| .xC ww <| .xC (wF ∧ DTl d) <| .ok (.inr (.inl ((true, [], ()))))))
  (.tt <| .xC ww <| .xC (wF ∧ DTl d) <| .ok (.inr (.inl ((true, [], ()))))))
 (.ite (decide (i.1 < len d.2.1))
  (.ite (decide (i.1 < 8))
   (.need (inb i.1 (len d.2.1)) <| .need ((List.length i.2.2.1 + 1) * 8 ≤ 140737488355328) <| .tt <| .lt (w64 (i.1 + 1) : Int) fun z2 => .lt (List.take (List.length i.2.2.1) i.2.2.1 ++ [w64 (gi d.2.1 i.1 0)] : List Int) fun z3 => .xC (xK z2 <| wq ∧ wa ∧ wb ∧ True) <| .need ((((3 : TypeId) = 3) ∧ ((z3 : List Int) = z3)) ∧ (true = true) ∧ (((111 : TypeId) = 111) ∧ (((2 : Int) = 2) ∧ ((((5) = (5)) ∧ (((0) = (0)) ∧ ((List.length i.2.2.1 + 1 = List.length z3) ∧ ((true) = (true))))) ∧ wo))) ∧ (true = true) ∧ (((111 : TypeId) = 111) ∧ (((0 : Int) = 0) ∧ wM)) ∧ (true = true) ∧ (((28 : TypeId) = 28) ∧ (((d.1 : Int) = d.1) ∧ (((d.2.1 : List Int) = d.2.1) ∧ (((d.2.2.1 : List xV) = d.2.2.1) ∧ (((d.2.2.2.1) = (d.2.2.2.1)) ∧ (((d.2.2.2.2.1) = (d.2.2.2.2.1)) ∧ True)))))) ∧ (true = true) ∧ True) <| .ok (.inl ((z2, false, z3, ()))))
   (afZ i d))
  (afZ i d))
def agV (d : Int × List Int × List xV × Bool × Bool × Unit) (j : Bool × List Int × Unit) (i1 : Bool × List Int × Unit) (i2 : (Int) × (Int) × (List Int) × Unit) : TT (wN ⊕ wC) :=
 .ite (decide (i2.1 < len i1.2.1))
 (.need (inb i2.1 (len i1.2.1)) <| .need (w64 (Int.tdiv 65535 (len i1.2.1)) ≠ 0) <| .need (inb i2.1 (len i1.2.1)) <| .tt <| .lt (w64 (i2.1 + 1) : Int) fun z9 => .lt (w64 (w64 (i2.2.1 + 1) + Int.tmod (List.getD i2.2.2.1 (0 + Int.toNat i2.1) 0) (w64 (Int.tdiv 65535 (len i1.2.1)))) : Int) fun z10 => .lt (List.set i2.2.2.1 (0 + Int.toNat i2.1) (w64 (z10 - 1)) : List Int) fun z11 => .xC (xH z10 z9 (w64 (Int.tdiv 65535 (len i1.2.1))) <| wq ∧ wa ∧ True) <| .xC (xB (xR 3 z11) <| (xO 111 (2 : Int) <| (xT 5 0 (List.length i1.2.1) true) ∧ True ∧ True) ∧ DTl d) <| .ok (.inl ((z9, z10, z11, ()))))
 (.ok (.inr (.inr (((2, List.take (List.length i1.2.1) i2.2.2.1, [], ()), ())))))
def ajM (d : Int × List Int × List xV × Bool × Bool × Unit) (j : Bool × List Int × Unit) (i1 : Bool × (List Int) × Unit) : TT wC :=
 .ite (i1.1)
 (.triv (1 * 8 ≤ 140737488355328) zd <| .tt <| .lt ([w64 (65535 * (↑0 : Int))] : List Int) fun z6 => .xC ww <| .xC (xB (xR 3 z6) <| wV ∧ DTl d) <| .ok (.inl ((false, z6, ()))))
 (.ite (decide (len i1.2.1 < 2))
 (.need ((List.length i1.2.1 + 1) * 8 ≤ 140737488355328) <| .tt <| .lt (List.take (List.length i1.2.1) i1.2.1 ++ [w64 (65535 * len i1.2.1)] : List Int) fun z7 => .xC ww <| .need ((((3 : TypeId) = 3) ∧ ((z7 : List Int) = z7)) ∧ (true = true) ∧ (((111 : TypeId) = 111) ∧ (((2 : Int) = 2) ∧ ((((5) = (5)) ∧ (((0) = (0)) ∧ ((List.length i1.2.1 + 1 = List.length z7) ∧ ((true) = (true))))) ∧ wo))) ∧ (true = true) ∧ (((111 : TypeId) = 111) ∧ (((0 : Int) = 0) ∧ (True ∧ wo))) ∧ (true = true) ∧ (((28 : TypeId) = 28) ∧ (((d.1 : Int) = d.1) ∧ (((d.2.1 : List Int) = d.2.1) ∧ (((d.2.2.1 : List xV) = d.2.2.1) ∧ (((d.2.2.2.1) = (d.2.2.2.1)) ∧ (((d.2.2.2.2.1) = (d.2.2.2.2.1)) ∧ True)))))) ∧ (true = true) ∧ True) <| .ok (.inl ((false, z7, ()))))
 (.ite (d.2.2.2.2.1)
 (.need (len i1.2.1 ≠ 0) <| .loop 3 (.tt <| .lt (i1.2.1 : List Int) fun z8 => .xC (xH (0 : Int) (0 : Int) (w64 (Int.tdiv 65535 (len z8))) <| wq ∧ wa ∧ True) <| .xC (xB (xR 3 z8) <| (xO 111 (2 : Int) <| (xT 5 0 (List.length z8) true) ∧ True ∧ True) ∧ DTl d) <| .ok ((0, 0, z8, ()))) (agV d j i1))
 (.ok (.inr (((2, List.take (List.length i1.2.1) i1.2.1, [], ()), ()))))))
def agU (d : Int × List Int × List xV × Bool × Bool × Unit) (j : Bool × List Int × Unit) (i3 : List Int × Unit) (i4 : (Int) × (Int) × (List Int) × Unit) : TT (wN ⊕ (((List Int) × Unit) ⊕ wO)) :=
 .ite (decide (i4.1 < len i3.1))
 (.need (inb i4.1 (len i3.1)) <| .need (w64 (Int.tdiv 65535 (len i3.1)) ≠ 0) <| .need (inb i4.1 (len i3.1)) <| .tt <| .lt (w64 (i4.1 + 1) : Int) fun z14 => .lt (w64 (w64 (i4.2.1 + 1) + Int.tmod (List.getD i4.2.2.1 (0 + Int.toNat i4.1) 0) (w64 (Int.tdiv 65535 (len i3.1)))) : Int) fun z15 => .lt (List.set i4.2.2.1 (0 + Int.toNat i4.1) (w64 (z15 - 1)) : List Int) fun z16 => .xC (xH z15 z14 (w64 (Int.tdiv 65535 (len i3.1))) <| wq ∧ wa ∧ True) <| .xC (xB (xR 3 z16) <| (xO 111 (2 : Int) <| (xT 5 0 (List.length i3.1) true) ∧ True ∧ True) ∧ DTl d) <| .ok (.inl ((z14, z15, z16, ()))))
 (.ok (.inr (.inr (((2, List.take (List.length i3.1) i4.2.2.1, [], ()), ())))))
def ajL (d : Int × List Int × List xV × Bool × Bool × Unit) (j : Bool × List Int × Unit) (i3 : (List Int) × Unit) : TT (((List Int) × Unit) ⊕ wO) :=
 .ite (decide (len i3.1 < 2))
 (.need ((List.length i3.1 + 1) * 8 ≤ 140737488355328) <| .tt <| .lt (List.take (List.length i3.1) i3.1 ++ [w64 (65535 * len i3.1)] : List Int) fun z13 => .xC ww <| .need ((((3 : TypeId) = 3) ∧ ((z13 : List Int) = z13)) ∧ (true = true) ∧ (((111 : TypeId) = 111) ∧ (((2 : Int) = 2) ∧ ((((5) = (5)) ∧ (((0) = (0)) ∧ ((List.length i3.1 + 1 = List.length z13) ∧ ((true) = (true))))) ∧ wo))) ∧ (true = true) ∧ (((111 : TypeId) = 111) ∧ (((0 : Int) = 0) ∧ (True ∧ wo))) ∧ (true = true) ∧ (((28 : TypeId) = 28) ∧ (((d.1 : Int) = d.1) ∧ (((d.2.1 : List Int) = d.2.1) ∧ (((d.2.2.1 : List xV) = d.2.2.1) ∧ (((d.2.2.2.1) = (d.2.2.2.1)) ∧ (((d.2.2.2.2.1) = (d.2.2.2.2.1)) ∧ True)))))) ∧ (true = true) ∧ True) <| .ok (.inl ((z13, ()))))
 (.ite (d.2.2.2.2.1)
 (.need (len i3.1 ≠ 0) <| .loop 3 (.tt <| .xC (xH (0 : Int) (0 : Int) (w64 (Int.tdiv 65535 (len i3.1))) <| wq ∧ wa ∧ True) <| .xC (xB (xR 3 i3.1) <| (xO 111 (2 : Int) <| (xT 5 0 (List.length i3.1) true) ∧ True ∧ True) ∧ DTl d) <| .ok ((0, 0, i3.1, ()))) (agU d j i3))
 (.ok (.inr (((2, List.take (List.length i3.1) i3.1, [], ()), ())))))
def agW (d : Int × List Int × List xV × Bool × Bool × Unit) (j : Bool × (List Int) × Unit) : TT wO :=
 .ite (j.1)
 (.loop 2 (.tt <| .xC ww <| .xC (wF ∧ DTl d) <| .ok ((true, [], ()))) (ajM d j))
 (.loop 4 (.tt <| .lt (j.2.1 : List Int) fun z12 => .xC ww <| .xC (xB (xR 3 z12) <| (xO 111 (2 : Int) <| (xT 5 0 (List.length z12) true) ∧ True ∧ True) ∧ DTl d) <| .ok ((z12, ()))) (ajL d j))
def aiC (d : Int × List Int × List xV × Bool × Bool × Unit) : TT wO :=
 .join 0 (ι := Bool × (List Int) × Unit) (.loop 1 (.tt <| .xC (xK (0 : Int) <| wq ∧ wa ∧ wb ∧ True) <| .xC (wF ∧ DTl d) <| .ok ((0, true, [], ()))) (ajN d)) (agW d)
def awI : LTab := [(224, 250, 11268, ⟨0, (Int) × (Int) × Bool × (List xV) × Unit, .dat (.s 6) xW <| .dat (.s 5) xW <| .appN (.c 3 2) 11 176 (Ty.pair xW (Ty.pair xW (Ty.pair xW (Ty.pair xW wk)))) <| .nil, [4, 3, 2, 1], [3, 1, 0], 1⟩)]
def aeE (d : Int × List Int × List xV × Bool × Bool × Unit) : TT wW :=
 .ite (d.2.2.2.2.1)
 (.triv (asT Int 0 ≤ 1 ∧ 1 ≤ (↑1 : Int)) zd <| .triv (inb (w64 (1 - 1)) (↑1 : Int)) zd <| .ok (.inr (((3, [], List.take 1 (List.set [(0, 1000000, 0, 1, 1, 0, ())] (0 + Int.toNat (w64 (1 - 1))) (1000000, (List.getD ([(0, 1000000, 0, 1, 1, 0, ())]) (0 + Int.toNat (w64 (1 - 1))) (0, 0, 0, 0, 0, 0, ())).2)), ()), ()))))
 (.triv (inb (w64 (1 - 1)) (↑1 : Int)) zd <| .ok (.inr (((3, [], List.take 1 (List.set [(0, 1000000, 0, 1, 1, 0, ())] (0 + Int.toNat (w64 (1 - 1))) (1000000, (List.getD ([(0, 1000000, 0, 1, 1, 0, ())]) (0 + Int.toNat (w64 (1 - 1))) (0, 0, 0, 0, 0, 0, ())).2)), ()), ()))))
def ahD (d : Int × List Int × List xV × Bool × Bool × Unit) (i : (Int) × (Int) × Bool × (List xV) × Unit) : TT wW :=
 .ite (i.2.2.1)
 (.ite (decide (i.1 < if 3 < len d.2.2.1 then 3 else len d.2.2.1))
  (.need (inb i.1 (len d.2.2.1)) <| .triv (asT Int 4 ≠ 0) zd <| .ite (d.2.2.2.1)
   (.triv (asT Int 4 ≠ 0) zd <| .ite (d.2.2.2.2.1)
    (.call (abB (w64 (1 + w64 (Int.tmod (gP d i.1).2.2.2.2.1 4)), w64 (1 + w64 (Int.tmod (gP d i.1).2.2.2.2.2.1 4)), ())) Dd1 fun y =>
     .ite (y.1)
     (.need (1 * 48 ≤ 140737488355328) <| .tt <| .lt (w64 (i.1 + 1) : Int) fun z1 => .lt (w64 (w64 (i.2.1 + 1000) + w64 (1000 * w64 (gP d i.1).1)) : Int) fun z2 => .lt ([(z2, if w64 (0 - w64 (100 * w64 (gP d i.1).2.1)) > w64 (100 * w64 (gP d i.1).2.1) then w64 (0 - w64 (100 * w64 (gP d i.1).2.1)) else w64 (100 * w64 (gP d i.1).2.1), if w64 (0 - w64 (10 * w64 (gP d i.1).2.2.1)) > w64 (10 * w64 (gP d i.1).2.2.1) then w64 (0 - w64 (10 * w64 (gP d i.1).2.2.1)) else w64 (10 * w64 (gP d i.1).2.2.1), 1, w64 (1 + w64 (Int.tmod (gP d i.1).2.2.2.2.2.1 4)), w64 (10 * w64 (gP d i.1).2.2.2.1), ())] : List xV) fun z3 => .xC (xH z2 z1 (if 3 < len d.2.2.1 then 3 else len d.2.2.1 : Int) <| wq ∧ wa ∧ wb ∧ True) <| .xC (xB (xR 176 z3) <| wm ∧ DTl d) <| .ok (.inl ((z1, z2, false, z3, ()))))
     (.need (1 * 48 ≤ 140737488355328) <| .tt <| .lt (w64 (i.1 + 1) : Int) fun z4 => .lt (w64 (w64 (i.2.1 + 1000) + w64 (1000 * w64 (gP d i.1).1)) : Int) fun z5 => .lt ([(z5, if w64 (0 - w64 (100 * w64 (gP d i.1).2.1)) > w64 (100 * w64 (gP d i.1).2.1) then w64 (0 - w64 (100 * w64 (gP d i.1).2.1)) else w64 (100 * w64 (gP d i.1).2.1), if w64 (0 - w64 (10 * w64 (gP d i.1).2.2.1)) > w64 (10 * w64 (gP d i.1).2.2.1) then w64 (0 - w64 (10 * w64 (gP d i.1).2.2.1)) else w64 (10 * w64 (gP d i.1).2.2.1), w64 (1 + w64 (Int.tmod (gP d i.1).2.2.2.2.1 4)), w64 (1 + w64 (Int.tmod (gP d i.1).2.2.2.2.2.1 4)), w64 (10 * w64 (gP d i.1).2.2.2.1), ())] : List xV) fun z6 => .xC (xH z5 z4 (if 3 < len d.2.2.1 then 3 else len d.2.2.1 : Int) <| wq ∧ wa ∧ wb ∧ True) <| .xC (xB (xR 176 z6) <| wm ∧ DTl d) <| .ok (.inl ((z4, z5, false, z6, ())))))
    (.call (abB (w64 (1 + w64 (Int.tmod (gP d i.1).2.2.2.2.1 4)), w64 (1 + w64 (Int.tmod (gP d i.1).2.2.2.2.2.1 4)), ())) Dd1 fun y1 =>
     .ite (y1.1)
     (.need (1 * 48 ≤ 140737488355328) <| .tt <| .lt (w64 (i.1 + 1) : Int) fun z7 => .lt (w64 (w64 (i.2.1 + 1000) + w64 (1000 * w64 (gP d i.1).1)) : Int) fun z8 => .lt ([(z8, w64 (100 * w64 (gP d i.1).2.1), w64 (10 * w64 (gP d i.1).2.2.1), 1, w64 (1 + w64 (Int.tmod (gP d i.1).2.2.2.2.2.1 4)), w64 (10 * w64 (gP d i.1).2.2.2.1), ())] : List xV) fun z9 => .xC (xH z8 z7 (if 3 < len d.2.2.1 then 3 else len d.2.2.1 : Int) <| wq ∧ wa ∧ wb ∧ True) <| .xC (xB (xR 176 z9) <| wm ∧ DTl d) <| .ok (.inl ((z7, z8, false, z9, ()))))
     (.need (1 * 48 ≤ 140737488355328) <| .tt <| .lt (w64 (i.1 + 1) : Int) fun z10 => .lt (w64 (w64 (i.2.1 + 1000) + w64 (1000 * w64 (gP d i.1).1)) : Int) fun z11 => .lt ([(z11, w64 (100 * w64 (gP d i.1).2.1), w64 (10 * w64 (gP d i.1).2.2.1), w64 (1 + w64 (Int.tmod (gP d i.1).2.2.2.2.1 4)), w64 (1 + w64 (Int.tmod (gP d i.1).2.2.2.2.2.1 4)), w64 (10 * w64 (gP d i.1).2.2.2.1), ())] : List xV) fun z12 => .xC (xH z11 z10 (if 3 < len d.2.2.1 then 3 else len d.2.2.1 : Int) <| wq ∧ wa ∧ wb ∧ True) <| .xC (xB (xR 176 z12) <| wm ∧ DTl d) <| .ok (.inl ((z10, z11, false, z12, ()))))))
   (.ite (d.2.2.2.2.1)
    (.call (abB (w64 (1 + w64 (Int.tmod (gP d i.1).2.2.2.2.1 4)), 1, ())) Dd1 fun y2 =>
     .ite (y2.1)
     (.need (1 * 48 ≤ 140737488355328) <| .tt <| .lt (w64 (i.1 + 1) : Int) fun z13 => .lt (w64 (w64 (i.2.1 + 1000) + w64 (1000 * w64 (gP d i.1).1)) : Int) fun z14 => .lt ([(z14, if w64 (0 - w64 (100 * w64 (gP d i.1).2.1)) > w64 (100 * w64 (gP d i.1).2.1) then w64 (0 - w64 (100 * w64 (gP d i.1).2.1)) else w64 (100 * w64 (gP d i.1).2.1), if w64 (0 - w64 (10 * w64 (gP d i.1).2.2.1)) > w64 (10 * w64 (gP d i.1).2.2.1) then w64 (0 - w64 (10 * w64 (gP d i.1).2.2.1)) else w64 (10 * w64 (gP d i.1).2.2.1), 1, 1, w64 (10 * w64 (gP d i.1).2.2.2.1), ())] : List xV) fun z15 => .xC (xH z14 z13 (if 3 < len d.2.2.1 then 3 else len d.2.2.1 : Int) <| wq ∧ wa ∧ wb ∧ True) <| .xC (xB (xR 176 z15) <| wm ∧ DTl d) <| .ok (.inl ((z13, z14, false, z15, ()))))
     (.need (1 * 48 ≤ 140737488355328) <| .tt <| .lt (w64 (i.1 + 1) : Int) fun z16 => .lt (w64 (w64 (i.2.1 + 1000) + w64 (1000 * w64 (gP d i.1).1)) : Int) fun z17 => .lt ([(z17, if w64 (0 - w64 (100 * w64 (gP d i.1).2.1)) > w64 (100 * w64 (gP d i.1).2.1) then w64 (0 - w64 (100 * w64 (gP d i.1).2.1)) else w64 (100 * w64 (gP d i.1).2.1), if w64 (0 - w64 (10 * w64 (gP d i.1).2.2.1)) > w64 (10 * w64 (gP d i.1).2.2.1) then w64 (0 - w64 (10 * w64 (gP d i.1).2.2.1)) else w64 (10 * w64 (gP d i.1).2.2.1), w64 (1 + w64 (Int.tmod (gP d i.1).2.2.2.2.1 4)), 1, w64 (10 * w64 (gP d i.1).2.2.2.1), ())] : List xV) fun z18 => .xC (xH z17 z16 (if 3 < len d.2.2.1 then 3 else len d.2.2.1 : Int) <| wq ∧ wa ∧ wb ∧ True) <| .xC (xB (xR 176 z18) <| wm ∧ DTl d) <| .ok (.inl ((z16, z17, false, z18, ())))))
    (.call (abB (w64 (1 + w64 (Int.tmod (gP d i.1).2.2.2.2.1 4)), 1, ())) Dd1 fun y3 =>
     .ite (y3.1)
     (.need (1 * 48 ≤ 140737488355328) <| .tt <| .lt (w64 (i.1 + 1) : Int) fun z19 => .lt (w64 (w64 (i.2.1 + 1000) + w64 (1000 * w64 (gP d i.1).1)) : Int) fun z20 => .lt ([(z20, w64 (100 * w64 (gP d i.1).2.1), w64 (10 * w64 (gP d i.1).2.2.1), 1, 1, w64 (10 * w64 (gP d i.1).2.2.2.1), ())] : List xV) fun z21 => .xC (xH z20 z19 (if 3 < len d.2.2.1 then 3 else len d.2.2.1 : Int) <| wq ∧ wa ∧ wb ∧ True) <| .xC (xB (xR 176 z21) <| wm ∧ DTl d) <| .ok (.inl ((z19, z20, false, z21, ()))))
     (.need (1 * 48 ≤ 140737488355328) <| .tt <| .lt (w64 (i.1 + 1) : Int) fun z22 => .lt (w64 (w64 (i.2.1 + 1000) + w64 (1000 * w64 (gP d i.1).1)) : Int) fun z23 => .lt ([(z23, w64 (100 * w64 (gP d i.1).2.1), w64 (10 * w64 (gP d i.1).2.2.1), w64 (1 + w64 (Int.tmod (gP d i.1).2.2.2.2.1 4)), 1, w64 (10 * w64 (gP d i.1).2.2.2.1), ())] : List xV) fun z24 => .xC (xH z23 z22 (if 3 < len d.2.2.1 then 3 else len d.2.2.1 : Int) <| wq ∧ wa ∧ wb ∧ True) <| .xC (xB (xR 176 z24) <| wm ∧ DTl d) <| .ok (.inl ((z22, z23, false, z24, ())))))))
  (.ite ((if 3 < len d.2.2.1 then 3 else len d.2.2.1) == 0)
   (aeE d)
   (.ite (d.2.2.2.2.1)
    (.need (asT Int 0 ≤ 1 ∧ 1 ≤ (↑0 : Int)) <| .bad)
    (.bad))))
 (.ite (decide (i.1 < if 3 < len d.2.2.1 then 3 else len d.2.2.1))
  (.need (inb i.1 (len d.2.2.1)) <| .triv (asT Int 4 ≠ 0) zd <| .ite (d.2.2.2.1)
   (.triv (asT Int 4 ≠ 0) zd <| .ite (d.2.2.2.2.1)
    (.call (abB (w64 (1 + w64 (Int.tmod (gP d i.1).2.2.2.2.1 4)), w64 (1 + w64 (Int.tmod (gP d i.1).2.2.2.2.2.1 4)), ())) Dd1 fun y4 =>
     .ite (y4.1)
     (.need ((List.length i.2.2.2.1 + 1) * 48 ≤ 140737488355328) <| .tt <| .lt (w64 (i.1 + 1) : Int) fun z25 => .lt (w64 (w64 (i.2.1 + 1000) + w64 (1000 * w64 (gP d i.1).1)) : Int) fun z26 => .lt (List.take (List.length i.2.2.2.1) i.2.2.2.1 ++ [(z26, if w64 (0 - w64 (100 * w64 (gP d i.1).2.1)) > w64 (100 * w64 (gP d i.1).2.1) then w64 (0 - w64 (100 * w64 (gP d i.1).2.1)) else w64 (100 * w64 (gP d i.1).2.1), if w64 (0 - w64 (10 * w64 (gP d i.1).2.2.1)) > w64 (10 * w64 (gP d i.1).2.2.1) then w64 (0 - w64 (10 * w64 (gP d i.1).2.2.1)) else w64 (10 * w64 (gP d i.1).2.2.1), 1, w64 (1 + w64 (Int.tmod (gP d i.1).2.2.2.2.2.1 4)), w64 (10 * w64 (gP d i.1).2.2.2.1), ())] : List xV) fun z27 => .xC (xH z26 z25 (if 3 < len d.2.2.1 then 3 else len d.2.2.1 : Int) <| wq ∧ wa ∧ wb ∧ True) <| .need ((((176 : TypeId) = 176) ∧ ((z27 : List xV) = z27)) ∧ (true = true) ∧ (((111 : TypeId) = 111) ∧ (((3 : Int) = 3) ∧ (True ∧ ((((11) = (11)) ∧ (((0) = (0)) ∧ ((List.length i.2.2.2.1 + 1 = List.length z27) ∧ ((true) = (true))))) ∧ True)))) ∧ (true = true) ∧ (((111 : TypeId) = 111) ∧ (((0 : Int) = 0) ∧ wM)) ∧ (true = true) ∧ (((28 : TypeId) = 28) ∧ (((d.1 : Int) = d.1) ∧ (((d.2.1 : List Int) = d.2.1) ∧ (((d.2.2.1 : List xV) = d.2.2.1) ∧ (((d.2.2.2.1) = (d.2.2.2.1)) ∧ (((d.2.2.2.2.1) = (d.2.2.2.2.1)) ∧ True)))))) ∧ (true = true) ∧ True) <| .ok (.inl ((z25, z26, false, z27, ()))))
     (.need ((List.length i.2.2.2.1 + 1) * 48 ≤ 140737488355328) <| .tt <| .lt (w64 (i.1 + 1) : Int) fun z28 => .lt (w64 (w64 (i.2.1 + 1000) + w64 (1000 * w64 (gP d i.1).1)) : Int) fun z29 => .lt (List.take (List.length i.2.2.2.1) i.2.2.2.1 ++ [(z29, if w64 (0 - w64 (100 * w64 (gP d i.1).2.1)) > w64 (100 * w64 (gP d i.1).2.1) then w64 (0 - w64 (100 * w64 (gP d i.1).2.1)) else w64 (100 * w64 (gP d i.1).2.1), if w64 (0 - w64 (10 * w64 (gP d i.1).2.2.1)) > w64 (10 * w64 (gP d i.1).2.2.1) then w64 (0 - w64 (10 * w64 (gP d i.1).2.2.1)) else w64 (10 * w64 (gP d i.1).2.2.1), w64 (1 + w64 (Int.tmod (gP d i.1).2.2.2.2.1 4)), w64 (1 + w64 (Int.tmod (gP d i.1).2.2.2.2.2.1 4)), w64 (10 * w64 (gP d i.1).2.2.2.1), ())] : List xV) fun z30 => .xC (xH z29 z28 (if 3 < len d.2.2.1 then 3 else len d.2.2.1 : Int) <| wq ∧ wa ∧ wb ∧ True) <| .need ((((176 : TypeId) = 176) ∧ ((z30 : List xV) = z30)) ∧ (true = true) ∧ (((111 : TypeId) = 111) ∧ (((3 : Int) = 3) ∧ (True ∧ ((((11) = (11)) ∧ (((0) = (0)) ∧ ((List.length i.2.2.2.1 + 1 = List.length z30) ∧ ((true) = (true))))) ∧ True)))) ∧ (true = true) ∧ (((111 : TypeId) = 111) ∧ (((0 : Int) = 0) ∧ wM)) ∧ (true = true) ∧ (((28 : TypeId) = 28) ∧ (((d.1 : Int) = d.1) ∧ (((d.2.1 : List Int) = d.2.1) ∧ (((d.2.2.1 : List xV) = d.2.2.1) ∧ (((d.2.2.2.1) = (d.2.2.2.1)) ∧ (((d.2.2.2.2.1) = (d.2.2.2.2.1)) ∧ True)))))) ∧ (true = true) ∧ True) <| .ok (.inl ((z28, z29, false, z30, ())))))
    (.call (abB (w64 (1 + w64 (Int.tmod (gP d i.1).2.2.2.2.1 4)), w64 (1 + w64 (Int.tmod (gP d i.1).2.2.2.2.2.1 4)), ())) Dd1 fun y5 =>
     .ite (y5.1)
     (.need ((List.length i.2.2.2.1 + 1) * 48 ≤ 140737488355328) <| .tt <| .lt (w64 (i.1 + 1) : Int) fun z31 => .lt (w64 (w64 (i.2.1 + 1000) + w64 (1000 * w64 (gP d i.1).1)) : Int) fun z32 => .lt (List.take (List.length i.2.2.2.1) i.2.2.2.1 ++ [(z32, w64 (100 * w64 (gP d i.1).2.1), w64 (10 * w64 (gP d i.1).2.2.1), 1, w64 (1 + w64 (Int.tmod (gP d i.1).2.2.2.2.2.1 4)), w64 (10 * w64 (gP d i.1).2.2.2.1), ())] : List xV) fun z33 => .xC (xH z32 z31 (if 3 < len d.2.2.1 then 3 else len d.2.2.1 : Int) <| wq ∧ wa ∧ wb ∧ True) <| .need ((((176 : TypeId) = 176) ∧ ((z33 : List xV) = z33)) ∧ (true = true) ∧ (((111 : TypeId) = 111) ∧ (((3 : Int) = 3) ∧ (True ∧ ((((11) = (11)) ∧ (((0) = (0)) ∧ ((List.length i.2.2.2.1 + 1 = List.length z33) ∧ ((true) = (true))))) ∧ True)))) ∧ (true = true) ∧ (((111 : TypeId) = 111) ∧ (((0 : Int) = 0) ∧ wM)) ∧ (true = true) ∧ (((28 : TypeId) = 28) ∧ (((d.1 : Int) = d.1) ∧ (((d.2.1 : List Int) = d.2.1) ∧ (((d.2.2.1 : List xV) = d.2.2.1) ∧ (((d.2.2.2.1) = (d.2.2.2.1)) ∧ (((d.2.2.2.2.1) = (d.2.2.2.2.1)) ∧ True)))))) ∧ (true = true) ∧ True) <| .ok (.inl ((z31, z32, false, z33, ()))))
     (.need ((List.length i.2.2.2.1 + 1) * 48 ≤ 140737488355328) <| .tt <| .lt (w64 (i.1 + 1) : Int) fun z34 => .lt (w64 (w64 (i.2.1 + 1000) + w64 (1000 * w64 (gP d i.1).1)) : Int) fun z35 => .lt (List.take (List.length i.2.2.2.1) i.2.2.2.1 ++ [(z35, w64 (100 * w64 (gP d i.1).2.1), w64 (10 * w64 (gP d i.1).2.2.1), w64 (1 + w64 (Int.tmod (gP d i.1).2.2.2.2.1 4)), w64 (1 + w64 (Int.tmod (gP d i.1).2.2.2.2.2.1 4)), w64 (10 * w64 (gP d i.1).2.2.2.1), ())] : List xV) fun z36 => .xC (xH z35 z34 (if 3 < len d.2.2.1 then 3 else len d.2.2.1 : Int) <| wq ∧ wa ∧ wb ∧ True) <| .need ((((176 : TypeId) = 176) ∧ ((z36 : List xV) = z36)) ∧ (true = true) ∧ (((111 : TypeId) = 111) ∧ (((3 : Int) = 3) ∧ (True ∧ ((((11) = (11)) ∧ (((0) = (0)) ∧ ((List.length i.2.2.2.1 + 1 = List.length z36) ∧ ((true) = (true))))) ∧ True)))) ∧ (true = true) ∧ (((111 : TypeId) = 111) ∧ (((0 : Int) = 0) ∧ wM)) ∧ (true = true) ∧ (((28 : TypeId) = 28) ∧ (((d.1 : Int) = d.1) ∧ (((d.2.1 : List Int) = d.2.1) ∧ (((d.2.2.1 : List xV) = d.2.2.1) ∧ (((d.2.2.2.1) = (d.2.2.2.1)) ∧ (((d.2.2.2.2.1) = (d.2.2.2.2.1)) ∧ True)))))) ∧ (true = true) ∧ True) <| .ok (.inl ((z34, z35, false, z36, ()))))))
   (.ite (d.2.2.2.2.1)
    (.call (abB (w64 (1 + w64 (Int.tmod (gP d i.1).2.2.2.2.1 4)), 1, ())) Dd1 fun y6 =>
     .ite (y6.1)
     (.need ((List.length i.2.2.2.1 + 1) * 48 ≤ 140737488355328) <| .tt <| .lt (w64 (i.1 + 1) : Int) fun z37 => .lt (w64 (w64 (i.2.1 + 1000) + w64 (1000 * w64 (gP d i.1).1)) : Int) fun z38 => .lt (List.take (List.length i.2.2.2.1) i.2.2.2.1 ++ [(z38, if w64 (0 - w64 (100 * w64 (gP d i.1).2.1)) > w64 (100 * w64 (gP d i.1).2.1) then w64 (0 - w64 (100 * w64 (gP d i.1).2.1)) else w64 (100 * w64 (gP d i.1).2.1), if w64 (0 - w64 (10 * w64 (gP d i.1).2.2.1)) > w64 (10 * w64 (gP d i.1).2.2.1) then w64 (0 - w64 (10 * w64 (gP d i.1).2.2.1)) else w64 (10 * w64 (gP d i.1).2.2.1), 1, 1, w64 (10 * w64 (gP d i.1).2.2.2.1), ())] : List xV) fun z39 => .xC (xH z38 z37 (if 3 < len d.2.2.1 then 3 else len d.2.2.1 : Int) <| wq ∧ wa ∧ wb ∧ True) <| .need ((((176 : TypeId) = 176) ∧ ((z39 : List xV) = z39)) ∧ (true = true) ∧ (((111 : TypeId) = 111) ∧ (((3 : Int) = 3) ∧ (True ∧ ((((11) = (11)) ∧ (((0) = (0)) ∧ ((List.length i.2.2.2.1 + 1 = List.length z39) ∧ ((true) = (true))))) ∧ True)))) ∧ (true = true) ∧ (((111 : TypeId) = 111) ∧ (((0 : Int) = 0) ∧ wM)) ∧ (true = true) ∧ (((28 : TypeId) = 28) ∧ (((d.1 : Int) = d.1) ∧ (((d.2.1 : List Int) = d.2.1) ∧ (((d.2.2.1 : List xV) = d.2.2.1) ∧ (((d.2.2.2.1) = (d.2.2.2.1)) ∧ (((d.2.2.2.2.1) = (d.2.2.2.2.1)) ∧ True)))))) ∧ (true = true) ∧ True) <| .ok (.inl ((z37, z38, false, z39, ()))))
     (.need ((List.length i.2.2.2.1 + 1) * 48 ≤ 140737488355328) <| .tt <| .lt (w64 (i.1 + 1) : Int) fun z40 => .lt (w64 (w64 (i.2.1 + 1000) + w64 (1000 * w64 (gP d i.1).1)) : Int) fun z41 => .lt (List.take (List.length i.2.2.2.1) i.2.2.2.1 ++ [(z41, if w64 (0 - w64 (100 * w64 (gP d i.1).2.1)) > w64 (100 * w64 (gP d i.1).2.1) then w64 (0 - w64 (100 * w64 (gP d i.1).2.1)) else w64 (100 * w64 (gP d i.1).2.1), if w64 (0 - w64 (10 * w64 (gP d i.1).2.2.1)) > w64 (10 * w64 (gP d i.1).2.2.1) then w64 (0 - w64 (10 * w64 (gP d i.1).2.2.1)) else w64 (10 * w64 (gP d i.1).2.2.1), w64 (1 + w64 (Int.tmod (gP d i.1).2.2.2.2.1 4)), 1, w64 (10 * w64 (gP d i.1).2.2.2.1), ())] : List xV) fun z42 => .xC (xH z41 z40 (if 3 < len d.2.2.1 then 3 else len d.2.2.1 : Int) <| wq ∧ wa ∧ wb ∧ True) <| .need ((((176 : TypeId) = 176) ∧ ((z42 : List xV) = z42)) ∧ (true = true) ∧ (((111 : TypeId) = 111) ∧ (((3 : Int) = 3) ∧ (True ∧ ((((11) = (11)) ∧ (((0) = (0)) ∧ ((List.length i.2.2.2.1 + 1 = List.length z42) ∧ ((true) = (true))))) ∧ True)))) ∧ (true = true) ∧ (((111 : TypeId) = 111) ∧ (((0 : Int) = 0) ∧ wM)) ∧ (true = true) ∧ (((28 : TypeId) = 28) ∧ (((d.1 : Int) = d.1) ∧ (((d.2.1 : List Int) = d.2.1) ∧ (((d.2.2.1 : List xV) = d.2.2.1) ∧ (((d.2.2.2.1) = (d.2.2.2.1)) ∧ (((d.2.2.2.2.1) = (d.2.2.2.2.1)) ∧ True)))))) ∧ (true = true) ∧ True) <| .ok (.inl ((z40, z41, false, z42, ())))))
    (.call (abB (w64 (1 + w64 (Int.tmod (gP d i.1).2.2.2.2.1 4)), 1, ())) Dd1 fun y7 =>
     .ite (y7.1)
     (.need ((List.length i.2.2.2.1 + 1) * 48 ≤ 140737488355328) <| .tt <| .lt (w64 (i.1 + 1) : Int) fun z43 => .lt (w64 (w64 (i.2.1 + 1000) + w64 (1000 * w64 (gP d i.1).1)) : Int) fun z44 => .lt (List.take (List.length i.2.2.2.1) i.2.2.2.1 ++ [(z44, w64 (100 * w64 (gP d i.1).2.1), w64 (10 * w64 (gP d i.1).2.2.1), 1, 1, w64 (10 * w64 (gP d i.1).2.2.2.1), ())] : List xV) fun z45 => .xC (xH z44 z43 (if 3 < len d.2.2.1 then 3 else len d.2.2.1 : Int) <| wq ∧ wa ∧ wb ∧ True) <| .need ((((176 : TypeId) = 176) ∧ ((z45 : List xV) = z45)) ∧ (true = true) ∧ (((111 : TypeId) = 111) ∧ (((3 : Int) = 3) ∧ (True ∧ ((((11) = (11)) ∧ (((0) = (0)) ∧ ((List.length i.2.2.2.1 + 1 = List.length z45) ∧ ((true) = (true))))) ∧ True)))) ∧ (true = true) ∧ (((111 : TypeId) = 111) ∧ (((0 : Int) = 0) ∧ wM)) ∧ (true = true) ∧ (((28 : TypeId) = 28) ∧ (((d.1 : Int) = d.1) ∧ (((d.2.1 : List Int) = d.2.1) ∧ (((d.2.2.1 : List xV) = d.2.2.1) ∧ (((d.2.2.2.1) = (d.2.2.2.1)) ∧ (((d.2.2.2.2.1) = (d.2.2.2.2.1)) ∧ True)))))) ∧ (true = true) ∧ True) <| .ok (.inl ((z43, z44, false, z45, ()))))
     (.need ((List.length i.2.2.2.1 + 1) * 48 ≤ 140737488355328) <| .tt <| .lt (w64 (i.1 + 1) : Int) fun z46 => .lt (w64 (w64 (i.2.1 + 1000) + w64 (1000 * w64 (gP d i.1).1)) : Int) fun z47 => .lt (List.take (List.length i.2.2.2.1) i.2.2.2.1 ++ [(z47, w64 (100 * w64 (gP d i.1).2.1), w64 (10 * w64 (gP d i.1).2.2.1), w64 (1 + w64 (Int.tmod (gP d i.1).2.2.2.2.1 4)), 1, w64 (10 * w64 (gP d i.1).2.2.2.1), ())] : List xV) fun z48 => .xC (xH z47 z46 (if 3 < len d.2.2.1 then 3 else len d.2.2.1 : Int) <| wq ∧ wa ∧ wb ∧ True) <| .need ((((176 : TypeId) = 176) ∧ ((z48 : List xV) = z48)) ∧ (true = true) ∧ (((111 : TypeId) = 111) ∧ (((3 : Int) = 3) ∧ (True ∧ ((((11) = (11)) ∧ (((0) = (0)) ∧ ((List.length i.2.2.2.1 + 1 = List.length z48) ∧ ((true) = (true))))) ∧ True)))) ∧ (true = true) ∧ (((111 : TypeId) = 111) ∧ (((0 : Int) = 0) ∧ wM)) ∧ (true = true) ∧ (((28 : TypeId) = 28) ∧ (((d.1 : Int) = d.1) ∧ (((d.2.1 : List Int) = d.2.1) ∧ (((d.2.2.1 : List xV) = d.2.2.1) ∧ (((d.2.2.2.1) = (d.2.2.2.1)) ∧ (((d.2.2.2.2.1) = (d.2.2.2.2.1)) ∧ True)))))) ∧ (true = true) ∧ True) <| .ok (.inl ((z46, z47, false, z48, ())))))))
  (.ite ((if 3 < len d.2.2.1 then 3 else len d.2.2.1) == 0)
   (aeE d)
   (.ite (d.2.2.2.2.1)
    (.need (asT Int 0 ≤ 1 ∧ 1 ≤ len i.2.2.2.1) <| .triv (inb (w64 (1 - 1)) (↑1 : Int)) zd <| .ok (.inr (((3, [], List.take 1 (List.set i.2.2.2.1 (0 + Int.toNat (w64 (1 - 1))) (1000000, (List.getD i.2.2.2.1 (0 + Int.toNat (w64 (1 - 1))) (0, 0, 0, 0, 0, 0, ())).2)), ()), ()))))
    (.need (inb (w64 ((if 3 < len d.2.2.1 then 3 else len d.2.2.1) - 1)) (len i.2.2.2.1)) <| .ok (.inr (((3, [], List.take (List.length i.2.2.2.1) (List.set i.2.2.2.1 (0 + Int.toNat (w64 ((if 3 < len d.2.2.1 then 3 else len d.2.2.1) - 1))) (1000000, (List.getD i.2.2.2.1 (0 + Int.toNat (w64 ((if 3 < len d.2.2.1 then 3 else len d.2.2.1) - 1))) (0, 0, 0, 0, 0, 0, ())).2)), ()), ())))))))
def afG (d : Int × List Int × List xV × Bool × Bool × Unit) : TT wO :=
 .loop 0 (.tt <| .lt ([] : List xV) fun z => .xC (xH (0 : Int) (0 : Int) (if 3 < len d.2.2.1 then 3 else len d.2.2.1 : Int) <| wq ∧ wa ∧ wb ∧ True) <| .xC ((xO 111 (3 : Int) <| True ∧ True ∧ True) ∧ DTl d) <| .ok ((0, 0, true, z, ()))) (ahD d)
end
open Go Go.Vg
noncomputable section
abbrev DrT := Int × List Int × List ajC × Bool × Bool × Unit
def ax6 (l : List Int) : Prop := ∀ v ∈ l, inR v 0 65535
def aL3 (d : DrT) : Prop := inR d.1 0 255 ∧ ax6 d.2.1 ∧ ∀ s ∈ d.2.2.1, inR s.1 0 255 ∧ inR s.2.1 (-32768) 32767 ∧ inR s.2.2.1 (-32768) 32767 ∧ inR s.2.2.2.1 (-32768) 32767 ∧ inR s.2.2.2.2.1 0 255 ∧ inR s.2.2.2.2.2.1 0 255
def agH (x : DrT × Unit) : Option (CvT × Unit) := (aiC x.1).toO
def ad8 (x : DrT × Unit) : Option (CvT × Unit) := (afG x.1).toO
end
set_option maxRecDepth 100000
open Go Go.Vg Go.Proofs
noncomputable section
def aDR : LTab := []
def akL (d : Int × List Int × List xV × Bool × Bool × Unit) : TT wO :=
 .triv (asT Int 4 ≠ 0) zd <| .ite (Int.tmod d.1 4 == 0)
 (.ok (((1, [], [], ()), ())))
 (.ite (Int.tmod d.1 4 == 1)
 (.call (ad8 ((d.1, d.2.1, d.2.2.1, d.2.2.2.1, d.2.2.2.2.1, ()), ())) aOT fun y =>
 .ok (((y.1.1, y.1.2.1, y.1.2.2.1, ()), ())))
 (.call (agH ((d.1, d.2.1, d.2.2.1, d.2.2.2.1, d.2.2.2.2.1, ()), ())) aOT fun y1 =>
 .ok (((y1.1.1, y1.1.2.1, y1.1.2.2.1, ()), ()))))
end
noncomputable section
def aaK (x : DrT × Unit) : Option (CvT × Unit) := (akL x.1).toO
end
theorem anB {l : List Int} (h : ax6 l) (k : Nat) : 0 ≤ l.getD k 0 ∧ l.getD k 0 ≤ 65535 := by
 rw [zX]
 rcases zH k l.length with hk | hk
 ·rw [zI hk]; exact h _ (yi hk)
 ·rw [yC hk]; decide
theorem axL {l : List Int} {v : Int} (h : ax6 l) (hv : 0 ≤ v ∧ v ≤ 65535) : ax6 (l ++ [v]) := by
 intro w hw
 rcases zx.mp hw with hw | hw
 ·exact h w hw
 ·rw [zG.mp hw]; exact hv
theorem aJW {l : List Int} {v : Int} {k : Nat} (h : ax6 l) (hv : 0 ≤ v ∧ v ≤ 65535) : ax6 (l.set k v) := by
 intro w hw
 rcases List.mem_or_eq_of_mem_set hw with hw | hw
 ·exact h w hw
 ·rw [hw]; exact hv
theorem aHJ {l : List Int} {k : Nat} (h : ax6 l) : ax6 (l.take k) := fun w hw => h w (yx hw)
theorem aFL {A : Type} {R : Int × Int × List Int × Unit → Option ((Int × Int × List Int × Unit) ⊕ (A ⊕ (CvT × Unit)))} (l : List Int) (hl : 2 ≤ l.length ∧ l.length ≤ 8) (he : ax6 l)
  (hs : ∀ (k : Nat) (a : Int) (s : List Int), k < l.length → s.length = l.length → ax6 s → 0 ≤ a → a ≤ 65535 → R ((k : Int), a, s, ()) = some (.inl (((k + 1 : Nat) : Int), a + 1 + Int.tmod (s.getD k 0) (Int.tdiv 65535 l.length), s.set k (a + Int.tmod (s.getD k 0) (Int.tdiv 65535 l.length)), ())))
  (hd : ∀ (a : Int) (s : List Int), s.length = l.length → R ((l.length : Int), a, s, ()) = some (.inr (.inr ((2, s.take l.length, [], ()), ())))) :
  ∃ t, adW R (0, 0, l, ()) = some (.inr ((2, t, [], ()), ())) ∧ ae4 t := by
 obtain ⟨n, hn⟩ : ∃ n : Nat, n = l.length := ⟨_, rfl⟩
 rw [← hn] at hl hs hd
 have hq : Int.tdiv 65535 (n : Int) = 65535 / (n : Int) := yB zc
 have hq1 : (n : Int) * (65535 / (n : Int)) ≤ 65535 := by have := Int.ediv_mul_le 65535 (b := (n : Int)) zc; rw [Int.mul_comm]; omega
 have hq0 : 1 ≤ 65535 / (n : Int) := by
  rw [xq zc]; omega
 rw [hq] at hs
 obtain ⟨q, hqq⟩ : ∃ q : Int, q = 65535 / (n : Int) := ⟨_, rfl⟩
 rw [← hqq] at hs hq1 hq0
 suffices H : ∃ a, adW R (0, 0, l, ()) = some a ∧ ∃ t, a = .inr ((2, t, [], ()), ()) ∧ ae4 t by
  obtain ⟨a, h1, t, rfl, h2⟩ := H
  exact ⟨t, h1, h2⟩
 refine af6 (R := R) (fun i => ∃ k : Nat, k ≤ n ∧ i.1 = (k : Int) ∧ 0 ≤ i.2.1 ∧ i.2.1 ≤ (k : Int) * q ∧ i.2.2.1.length = n ∧ ax6 i.2.2.1) (fun i => ((n : Int) - i.1).toNat) (fun a => ∃ t, a = .inr ((2, t, [], ()), ()) ∧ ae4 t) ?_ (0, 0, l, ()) ⟨0, by omega, rfl, by simp, by simp, hn.symm, he⟩
 rintro ⟨i, a, s, u⟩ ⟨k, h1, h2, h3, h4, h5, h6⟩
 simp only at h2 h3 h4 h5 h6
 subst h2
 rcases zH k n with hk | hk
 ·left
  have hg := anB h6 k
  have hm : Int.tmod (s.getD k 0) q = s.getD k 0 % q := zU hg.1
  have m0 := yW (s.getD k 0) (b := q) zc
  have m1 := yJ (s.getD k 0) (b := q) zc
  have hkn : ((k : Int) + 1) * q ≤ (n : Int) * q := yX zc zc
  have hk1 : ((k : Int) + 1) * q = (k : Int) * q + q := by rw [Int.add_mul, Int.one_mul]
  refine ⟨_, hs k a s hk h5 h6 h3 zc, ⟨k + 1, hk, rfl, ?_, ?_, ?_, ?_⟩, ?_⟩
  ·simp only [hm]; omega
  ·simp only [hm]; rw [Int.natCast_add]; show _ ≤ ((k : Int) + 1) * q; omega
  ·simp only [yu, h5]
  ·simp only [hm]; exact aJW h6 ⟨by omega, by omega⟩
  ·simp only; omega
 ·right
  obtain rfl : k = n := zc
  exact ⟨_, hd a s h5, s.take k, rfl, by rw [zQ]; omega, by rw [zQ]; omega, aHJ h6⟩
theorem s9 {p : Prop} (h : p := by first | omega | ((try simp only [aaB, inb, inc, ge_iff_le, gt_iff_lt, zz, asT, ne_eq, zu, zQ, yb, yN, Nat.min_self, DTl]) <;> (first | omega | (refine ⟨?_, ?_⟩ <;> omega) | simp))) : p := h
theorem zb {α : Type} {x y : TT α} {r : Option α} (k : y.toO = r) (h : x.toO = y.toO := by first | exact uV rfl | exact uB rfl | exact uN s9 rfl) : x.toO = r := h.trans k
theorem aHN (d : DrT) (j : Bool × List Int × Unit) (b : Bool) (l : List Int) (hl : 2 ≤ l.length ∧ l.length ≤ 8) (he : ax6 l) :
  ∃ t, adW (fun i => (agV d j (b, l, ()) i).toO) (0, 0, l, ()) = some (.inr ((2, t, [], ()), ())) ∧ ae4 t := by
 have hq : Int.tdiv 65535 (l.length : Int) = 65535 / (l.length : Int) := yB zc
 have hq0 : 1 ≤ 65535 / (l.length : Int) := by rw [xq zc]; omega
 have hq1 : 65535 / (l.length : Int) ≤ 65535 := Int.ediv_le_self _ zc
 refine aFL l hl he ?_ ?_
 ·intro k a s hk hs hes h0 h1
  have hg := anB hes k
  have hm : Int.tmod (s.getD k 0) (Int.tdiv 65535 (l.length : Int)) = s.getD k 0 % (65535 / (l.length : Int)) := by rw [hq]; exact zU hg.1
  have m0 := yW (s.getD k 0) (b := 65535 / (l.length : Int)) zc
  have m1 := yJ (s.getD k 0) (b := 65535 / (l.length : Int)) zc
  have e1 : w64 (Int.tdiv 65535 (l.length : Int)) = Int.tdiv 65535 (l.length : Int) := aaD (by rw [hq]; omega)
  have e2 : w64 ((k : Int) + 1) = ((k + 1 : Nat) : Int) := by rw [aaD (x := (k : Int) + 1) zc]; omega
  have e3 : w64 (a + 1) = a + 1 := aaD zc
  have e4 : w64 (a + 1 + Int.tmod (s.getD k 0) (Int.tdiv 65535 (l.length : Int))) = a + 1 + Int.tmod (s.getD k 0) (Int.tdiv 65535 (l.length : Int)) := aaD (by rw [hm]; omega)
  have e5 : w64 (a + 1 + Int.tmod (s.getD k 0) (Int.tdiv 65535 (l.length : Int)) - 1) = a + Int.tmod (s.getD k 0) (Int.tdiv 65535 (l.length : Int)) := by rw [aaD (x := a + 1 + Int.tmod (s.getD k 0) (Int.tdiv 65535 (l.length : Int)) - 1) (by rw [hm]; omega)]; omega
  simp only [agV, aaB, e1, e2, e3, zw, zz, e4, e5]
  refine uT (zl zc) ?_
  refine uN ⟨by omega, by omega⟩ ?_
  refine uN (by rw [hq]; omega) ?_
  refine uN ⟨by omega, by omega⟩ ?_
  refine uB (uB (uB ?_))
  repeat refine uV ?_
  simp only [abQ, e5]
 ·intro a s hs
  simp only [agV, aaB]
  refine uF (zk zc) ?_
  rfl
theorem aHM (d : DrT) (j : Bool × List Int × Unit) (l : List Int) (hl : 2 ≤ l.length ∧ l.length ≤ 8) (he : ax6 l) :
  ∃ t, adW (fun i => (agU d j (l, ()) i).toO) (0, 0, l, ()) = some (.inr ((2, t, [], ()), ())) ∧ ae4 t := by
 have hq : Int.tdiv 65535 (l.length : Int) = 65535 / (l.length : Int) := yB zc
 have hq0 : 1 ≤ 65535 / (l.length : Int) := by rw [xq zc]; omega
 have hq1 : 65535 / (l.length : Int) ≤ 65535 := Int.ediv_le_self _ zc
 refine aFL l hl he ?_ ?_
 ·intro k a s hk hs hes h0 h1
  have hg := anB hes k
  have hm : Int.tmod (s.getD k 0) (Int.tdiv 65535 (l.length : Int)) = s.getD k 0 % (65535 / (l.length : Int)) := by rw [hq]; exact zU hg.1
  have m0 := yW (s.getD k 0) (b := 65535 / (l.length : Int)) zc
  have m1 := yJ (s.getD k 0) (b := 65535 / (l.length : Int)) zc
  have e1 : w64 (Int.tdiv 65535 (l.length : Int)) = Int.tdiv 65535 (l.length : Int) := aaD (by rw [hq]; omega)
  have e2 : w64 ((k : Int) + 1) = ((k + 1 : Nat) : Int) := by rw [aaD (x := (k : Int) + 1) zc]; omega
  have e3 : w64 (a + 1) = a + 1 := aaD zc
  have e4 : w64 (a + 1 + Int.tmod (s.getD k 0) (Int.tdiv 65535 (l.length : Int))) = a + 1 + Int.tmod (s.getD k 0) (Int.tdiv 65535 (l.length : Int)) := aaD (by rw [hm]; omega)
  have e5 : w64 (a + 1 + Int.tmod (s.getD k 0) (Int.tdiv 65535 (l.length : Int)) - 1) = a + Int.tmod (s.getD k 0) (Int.tdiv 65535 (l.length : Int)) := by rw [aaD (x := a + 1 + Int.tmod (s.getD k 0) (Int.tdiv 65535 (l.length : Int)) - 1) (by rw [hm]; omega)]; omega
  simp only [agU, aaB, e1, e2, e3, zw, zz, e4, e5]
  refine uT (zl zc) ?_
  refine uN ⟨by omega, by omega⟩ ?_
  refine uN (by rw [hq]; omega) ?_
  refine uN ⟨by omega, by omega⟩ ?_
  refine uB (uB (uB ?_))
  repeat refine uV ?_
  simp only [abQ, e5]
 ·intro a s hs
  simp only [agU, aaB]
  refine uF (zk zc) ?_
  rfl
theorem aHO (d : DrT) (b : Bool) (l : List Int) (hl : l.length ≤ 8) (he : ax6 l) (hb : b = true → l = []) :
  ∃ t, (agW d (b, l, ())).toO = some ((2, t, [], ()), ()) ∧ ae4 t := by
 cases b
 ·suffices H : ∃ a, adW (fun i => (ajL d (false, l, ()) i).toO) (l, ()) = some a ∧ ∃ t, a = ((2, t, [], ()), ()) ∧ ae4 t by
   obtain ⟨a, h1, t, rfl, h2⟩ := H
   refine ⟨t, ?_, h2⟩
   simp only [agW]
   refine uF rfl ?_
   exact uO (l, ()) (uB rfl) h1
  refine af6 (fun i => i.1.length ≤ 8 ∧ ax6 i.1) (fun i => 2 - i.1.length) _ ?_ (l, ()) ⟨hl, he⟩
  rintro ⟨l, u⟩ ⟨h1, h2⟩
  simp only at h1 h2
  simp only [ajL, aaB, zB]
  rcases zH l.length 2 with hk | hk
  ·left
   have e1 : w64 (65535 * (l.length : Int)) = 65535 * (l.length : Int) := aaD zc
   refine ⟨(l ++ [65535 * (l.length : Int)], ()), ?_, ⟨by rw [zu]; simp only [yb, yN]; omega, axL h2 zc⟩, by simp only [zu, yb, yN]; omega⟩
   refine uT (zl zc) ?_
   simp only [e1]
   repeat refine zb ?_
   rfl
  ·right
   rcases (yw d.2.2.2.2.1).symm with hd | hd
   ·refine ⟨_, uF (zk zc) (uF hd ?_), l, rfl, hk, by omega, h2⟩
    repeat refine zb ?_
    rfl
   ·obtain ⟨t, h3, h4⟩ := aHM d (false, l, ()) l ⟨hk, h1⟩ h2
    refine ⟨_, uF (zk zc) (uT hd ?_), t, rfl, h4⟩
    repeat refine zb ?_
    refine uO (0, 0, l, ()) ?_ ?_
    ·repeat refine zb ?_
     rfl
    ·exact h3
 ·suffices H : ∃ a, adW (fun i => (ajM d (true, l, ()) i).toO) (true, [], ()) = some a ∧ ∃ t, a = ((2, t, [], ()), ()) ∧ ae4 t by
   obtain ⟨a, h1, t, rfl, h2⟩ := H
   refine ⟨t, ?_, h2⟩
   simp only [agW]
   refine uT rfl ?_
   exact uO (true, [], ()) rfl h1
  refine af6 (fun i => i.2.1.length ≤ 8 ∧ ax6 i.2.1 ∧ (i.1 = true → i.2.1 = [])) (fun i => 2 - i.2.1.length) _ ?_ (true, [], ()) ⟨by simp, (by intro v hv; cases hv), fun _ => rfl⟩
  rintro ⟨b, l, u⟩ ⟨h1, h2, h5⟩
  simp only at h1 h2 h5
  simp only [ajM, aaB, zB]
  cases b
  ·rcases zH l.length 2 with hk | hk
   ·left
    have e1 : w64 (65535 * (l.length : Int)) = 65535 * (l.length : Int) := aaD zc
    refine ⟨(false, l ++ [65535 * (l.length : Int)], ()), ?_, ⟨by rw [zu]; simp only [yb, yN]; omega, axL h2 zc, by intro h; cases h⟩, by simp only [zu, yb, yN]; omega⟩
    refine uF rfl (uT (zl zc) ?_)
    simp only [e1]
    repeat refine zb ?_
    rfl
   ·right
    rcases (yw d.2.2.2.2.1).symm with hd | hd
    ·refine ⟨_, uF rfl (uF (zk zc) (uF hd ?_)), l, rfl, hk, by omega, h2⟩
     repeat refine zb ?_
     rfl
    ·obtain ⟨t, h3, h4⟩ := aHN d (true, ‹List Int›, ()) false l ⟨hk, h1⟩ h2
     refine ⟨_, uF rfl (uF (zk zc) (uT hd ?_)), t, rfl, h4⟩
     repeat refine zb ?_
     refine uO (0, 0, l, ()) ?_ ?_
     ·repeat refine zb ?_
      rfl
     ·exact h3
  ·left
   have := h5 rfl
   subst this
   refine ⟨(false, [0], ()), ?_, ⟨by simp, by intro v hv; rw [zG.mp hv]; decide, by intro h; cases h⟩, by simp⟩
   refine uT rfl ?_
   repeat refine zb ?_
   rfl
theorem aHL (d : DrT) (hd : aL3 d) : ∃ t, agH (d, ()) = some ((2, t, [], ()), ()) ∧ ae4 t := by
 suffices H : ∃ a, adW (fun i => (ajN d i).toO) (0, true, [], ()) = some a ∧ ∃ b l, a = .inl (b, l, ()) ∧ l.length ≤ 8 ∧ ax6 l ∧ (b = true → l = []) by
  obtain ⟨a, h1, b, l, rfl, h2, h3, h4⟩ := H
  obtain ⟨t, h5, h6⟩ := aHO d b l h2 h3 h4
  refine ⟨t, ?_, h6⟩
  simp only [agH, aiC]
  exact uL (b, l, ()) (uO (0, true, [], ()) rfl h1) h5
 refine af6 (fun i => ∃ k : Nat, k ≤ 8 ∧ i.1 = (k : Int) ∧ i.2.2.1.length = k ∧ ax6 i.2.2.1 ∧ (i.2.1 = true → i.2.2.1 = [] )) (fun i => (8 - i.1).toNat) _ ?_ _ ⟨0, by omega, rfl, rfl, (by intro v hv; cases hv), fun _ => rfl⟩
 rintro ⟨i, b, l, u⟩ ⟨k, h1, h2, h3, h4, h5⟩
 simp only at h2 h3 h4 h5
 subst h2
 simp only [ajN, afZ, aaB, zB, aaI]
 have hg := anB hd.2.1 k
 have e0 : w64 (d.2.1.getD k 0) = d.2.1.getD k 0 := aaD zc
 have e2 : w64 ((k : Int) + 1) = ((k + 1 : Nat) : Int) := by rw [aaD (x := (k : Int) + 1) zc]; omega
 simp only [e0, e2]
 by_cases c1 : (k : Int) < d.2.1.length
 ·by_cases c2 : (k : Int) < 8
  ·left
   refine ⟨(((k + 1 : Nat) : Int), false, l ++ [d.2.1.getD k 0], ()), ?_, ⟨k + 1, by omega, rfl, by simp [h3], axL h4 hg, by intro h; cases h⟩, by simp only; omega⟩
   cases b
   ·refine uF rfl (uT (zl c1) (uT (zl c2) ?_))
    repeat refine zb ?_
    rfl
   ·have := h5 rfl
    subst this
    refine uT rfl (uT (zl c1) (uT (zl c2) ?_))
    repeat refine zb ?_
    rfl
  ·right
   cases b
   ·refine ⟨_, uF rfl (uT (zl c1) (uF (zk c2) ?_)), false, l, rfl, by omega, h4, by intro h; cases h⟩
    repeat refine zb ?_
    rfl
   ·refine ⟨_, uT rfl (uT (zl c1) (uF (zk c2) ?_)), true, [], rfl, by simp, (by intro v hv; cases hv), fun _ => rfl⟩
    repeat refine zb ?_
    rfl
 ·right
  cases b
  ·refine ⟨_, uF rfl (uF (zk c1) ?_), false, l, rfl, by omega, h4, by intro h; cases h⟩
   repeat refine zb ?_
   rfl
  ·refine ⟨_, uT rfl (uF (zk c1) ?_), true, [], rfl, by simp, (by intro v hv; cases hv), fun _ => rfl⟩
   repeat refine zb ?_
   rfl
def aMk : Int → List ajC → Int → Prop
 | last, [], t => t = last
 | last, s :: r, t => ahM last s ∧ aMk s.1 r t
theorem aCV : ∀ (l : List ajC) (last t : Int) (s : ajC), aMk last l t → ahM t s → aMk last (l ++ [s]) s.1
 | [], last, t, s, h, hs => by
  have : t = last := h
  subst this; exact ⟨hs, rfl⟩
 | x :: r, last, t, s, h, hs => ⟨h.1, aCV r x.1 t s h.2 hs⟩
theorem aCU : ∀ (l : List ajC) (last t : Int), aMk last l t → 1 ≤ l.length → t < 1000000 → agT last (l.set (l.length - 1) (1000000, (l.getD (l.length - 1) (0, 0, 0, 0, 0, 0, ())).2))
 | [], _, _, _, h, _ => absurd h zd
 | [s], last, t, h, _, ht => by
  have h2 : t = s.1 := h.2
  obtain ⟨h3, h4⟩ := h.1
  exact ⟨⟨h3, ⟨by have := h4.1; omega, by show (1000000 : Int) ≤ 1000000; omega⟩⟩, rfl⟩
 | s :: x :: r, last, t, h, _, ht => by
  have := aCU (x :: r) s.1 t h.2 zf ht
  simp only [yb, Nat.add_sub_cancel] at this ⊢
  exact ⟨h.1, by simpa using this⟩
theorem aqH {a b : Int} (ha : inR a 1 36) (hb : inR b 1 12) : abB (a, b, ()) = some (!decide (Nat.gcd a.natAbs b.natAbs = 1), ()) := by
 unfold abB
 rw [if_pos ⟨ha, hb⟩]
theorem aCe (d : DrT) (hd : aL3 d) : ∃ l, ad8 (d, ()) = some ((3, [], l, ()), ()) ∧ adK l := by
 suffices H : ∃ a, adW (fun i => (ahD d i).toO) (0, 0, true, [], ()) = some a ∧ ∃ l, a = ((3, [], l, ()), ()) ∧ adK l by
  obtain ⟨a, h1, l, rfl, h2⟩ := H
  refine ⟨l, ?_, h2⟩
  simp only [ad8, afG]
  exact uO (0, 0, true, [], ()) (uB rfl) h1
 obtain ⟨n, hn⟩ : ∃ n : Nat, n = (if 3 < d.2.2.1.length then 3 else d.2.2.1.length) := ⟨_, rfl⟩
 have hnz : (if 3 < len d.2.2.1 then 3 else len d.2.2.1) = (n : Int) := by
  rw [hn]
  by_cases h : 3 < d.2.2.1.length
  ·rw [if_pos h]; exact (if_pos (by rw [aaB]; omega)).trans rfl
  ·rw [if_neg h]; exact (if_neg (by rw [aaB]; omega)).trans rfl
 have hn3 : n ≤ 3 := by rw [hn]; split <;> omega
 have hnl : n ≤ d.2.2.1.length := by rw [hn]; split <;> omega
 clear hn
 refine af6 (fun i : Int × Int × Bool × List ajC × Unit => ∃ k : Nat, k ≤ n ∧ i.1 = (k : Int) ∧ i.2.2.2.1.length = k ∧ (i.2.2.1 = true → i.2.2.2.1 = []) ∧ (i.2.2.1 = false → 1 ≤ k) ∧ 0 ≤ i.2.1 ∧ i.2.1 ≤ 256000 * (k : Int) ∧ aMk 0 i.2.2.2.1 i.2.1) (fun i => (3 - i.1).toNat) _ ?_ _ ⟨0, by omega, rfl, rfl, fun _ => rfl, (by intro h; cases h), xj _, (by show (0 : Int) ≤ _; omega), rfl⟩
 rintro ⟨i, t, b, l, u⟩ ⟨k, h1, h2, h3, h4, h5, h6, h7, h8⟩
 simp only at h2 h3 h4 h5 h6 h7 h8
 subst h2
 simp only [ahD, aeE, gP, hnz, aaI, zB]
 rcases zH k n with hk | hk
 ·left
  have hmem : d.2.2.1.getD k (0, 0, 0, 0, 0, 0, ()) ∈ d.2.2.1 := by
   rw [zX, zI zc]; exact yi _
  obtain ⟨p, hp⟩ : ∃ p, p = d.2.2.1.getD k (0, 0, 0, 0, 0, 0, ()) := ⟨_, rfl⟩
  have hpb := hd.2.2 p (by rw [hp]; exact hmem)
  simp only [← hp]
  clear hp hmem
  obtain ⟨w, m, a, o, nu, de, uu⟩ := p
  obtain ⟨b1, b2, b3, b4, b5, b6⟩ := hpb
  simp only [inR] at b1 b2 b3 b4 b5 b6 ⊢
  have q1 : w64 w = w := aaD zc
  have q2 : w64 m = m := aaD zc
  have q3 : w64 a = a := aaD zc
  have q4 : w64 o = o := aaD zc
  have q5 : Int.tmod nu 4 = nu % 4 := zU zc
  have q6 : Int.tmod de 4 = de % 4 := zU zc
  have q7 : w64 (nu % 4) = nu % 4 := aaD zc
  have q8 : w64 (de % 4) = de % 4 := aaD zc
  have q9 : w64 (1 + nu % 4) = 1 + nu % 4 := aaD zc
  have q10 : w64 (1 + de % 4) = 1 + de % 4 := aaD zc
  have q11 : w64 (t + 1000) = t + 1000 := aaD zc
  have q12 : w64 (1000 * w) = 1000 * w := aaD zc
  have q13 : w64 (t + 1000 + 1000 * w) = t + 1000 + 1000 * w := aaD zc
  have q14 : w64 (100 * m) = 100 * m := aaD zc
  have q15 : w64 (10 * a) = 10 * a := aaD zc
  have q16 : w64 (10 * o) = 10 * o := aaD zc
  have q17 : w64 (0 - 100 * m) = 0 - 100 * m := aaD zc
  have q18 : w64 (0 - 10 * a) = 0 - 10 * a := aaD zc
  have q19 : w64 ((k : Int) + 1) = ((k + 1 : Nat) : Int) := by rw [aaD (x := (k : Int) + 1) zc]; omega
  simp only [q1, q2, q3, q4, q5, q6, q7, q8, q9, q10, q11, q12, q13, q14, q15, q16, q17, q18, q19]
  have inv : ∀ M A N D : Int, inR M (-100000000) 100000000 → inR A (-100000000) 100000000 → inR N 1 36 → inR D 1 12 → Nat.gcd N.natAbs D.natAbs = 1 →
    (∃ k' : Nat, k' ≤ n ∧ ((k + 1 : Nat) : Int) = (k' : Int) ∧ (l ++ [((t + 1000 + 1000 * w, M, A, N, D, 10 * o, ()) : ajC)]).length = k' ∧ ((false = true) → l ++ [((t + 1000 + 1000 * w, M, A, N, D, 10 * o, ()) : ajC)] = []) ∧ (false = false → 1 ≤ k') ∧ 0 ≤ t + 1000 + 1000 * w ∧ t + 1000 + 1000 * w ≤ 256000 * (k' : Int) ∧ aMk 0 (l ++ [((t + 1000 + 1000 * w, M, A, N, D, 10 * o, ()) : ajC)]) (t + 1000 + 1000 * w)) := by
   intro M A N D c1 c2 c3 c4 c5
   refine ⟨k + 1, hk, rfl, by simp [h3], (by intro h; cases h), (by intro _; omega), by omega, by omega, ?_⟩
   exact aCV l 0 t (t + 1000 + 1000 * w, M, A, N, D, 10 * o, ()) h8 ⟨⟨c1, c2, ⟨by show -100000000 ≤ 10 * o; omega, by show 10 * o ≤ 100000000; omega⟩, c3, c4, c5⟩, ⟨by show t + 1 ≤ t + 1000 + 1000 * w; omega, by show t + 1000 + 1000 * w ≤ 1000000; omega⟩⟩
  have n1 : inR (1 : Int) 1 36 := zd
  have n2 : inR (1 : Int) 1 12 := zd
  have n3 : inR (1 + nu % 4) 1 36 := ⟨by omega, by omega⟩
  have n4 : inR (1 + de % 4) 1 12 := ⟨by omega, by omega⟩
  have n5 : inR (100 * m) (-100000000) 100000000 := ⟨by omega, by omega⟩
  have n6 : inR (10 * a) (-100000000) 100000000 := ⟨by omega, by omega⟩
  have n7 : inR (if 0 - 100 * m > 100 * m then 0 - 100 * m else 100 * m) (-100000000) 100000000 := by split <;> exact ⟨by omega, by omega⟩
  have n8 : inR (if 0 - 10 * a > 10 * a then 0 - 10 * a else 10 * a) (-100000000) 100000000 := by split <;> exact ⟨by omega, by omega⟩
  have g1 : ∀ D : Int, Nat.gcd (1 : Int).natAbs D.natAbs = 1 := fun D => Nat.gcd_one_left _
  have g2 : ∀ N : Int, Nat.gcd N.natAbs (1 : Int).natAbs = 1 := fun N => Nat.gcd_one_right _
  rcases (yw d.2.2.2.1).symm with hr | hr <;> rcases (yw d.2.2.2.2.1).symm with hi | hi <;> by_cases g : Nat.gcd (1 + nu % 4).natAbs (1 + de % 4).natAbs = 1
  all_goals
   cases b
   ·apply Exists.intro
    refine ⟨?_, ?_, ?_⟩
    ·refine uF rfl (uT (zl zc) (uN ⟨by omega, by rw [aaB]; omega⟩ ?_))
     first | refine uT hr ?_ | refine uF hr ?_
     first | refine uT hi ?_ | refine uF hi ?_
     first | refine uC _ (aqH n3 n4) ?_ | refine uC _ (aqH n3 n2) ?_
     first | refine uF (congrArg Bool.not (zl g)) ?_ | refine uF (congrArg Bool.not (zl (g2 _))) ?_ | refine uT (congrArg Bool.not (zk g)) ?_
     repeat refine zb ?_
     rfl
    ·exact inv _ _ _ _ zj zj zj zj (by first | exact g | exact g2 _ | exact g1 _)
    ·show (3 - ((k + 1 : Nat) : Int)).toNat < (3 - (k : Int)).toNat; omega
   ·have := h4 rfl
    subst this
    apply Exists.intro
    refine ⟨?_, ?_, ?_⟩
    ·refine uT rfl (uT (zl zc) (uN ⟨by omega, by rw [aaB]; omega⟩ ?_))
     first | refine uT hr ?_ | refine uF hr ?_
     first | refine uT hi ?_ | refine uF hi ?_
     first | refine uC _ (aqH n3 n4) ?_ | refine uC _ (aqH n3 n2) ?_
     first | refine uF (congrArg Bool.not (zl g)) ?_ | refine uF (congrArg Bool.not (zl (g2 _))) ?_ | refine uT (congrArg Bool.not (zk g)) ?_
     repeat refine zb ?_
     rfl
    ·exact inv _ _ _ _ zj zj zj zj (by first | exact g | exact g2 _ | exact g1 _)
    ·show (3 - ((k + 1 : Nat) : Int)).toNat < (3 - (k : Int)).toNat; omega
 ·right
  obtain rfl : k = n := zc
  have e0 : w64 (1 - 1) = 0 := aaD zc
  cases b
  ·have h5 := h5 rfl
   rcases (yw d.2.2.2.2.1).symm with hi | hi
   ·have e1 : w64 ((k : Int) - 1) = ((k - 1 : Nat) : Int) := by rw [aaD (x := (k : Int) - 1) zc]; omega
    refine ⟨_, uF rfl (uF (zk zc) (uF (beq_eq_false_iff_ne.mpr zc) (uF hi (uN ?_ rfl)))), _, rfl, ?_⟩
    ·rw [e1, aaB]; exact ⟨by omega, by omega⟩
    ·rw [e1, zz, zw, ← h3, zq (by rw [yu]; omega)]
     refine ⟨by rw [yu]; omega, by rw [yu]; omega, aCU l 0 t h8 zc zc⟩
   ·refine ⟨_, uF rfl (uF (zk zc) (uF (beq_eq_false_iff_ne.mpr zc) (uT hi (uN ?_ rfl)))), _, rfl, ?_⟩
    ·rw [aaB]; exact ⟨by simp only [asT]; omega, by omega⟩
    ·rw [e0]
     obtain ⟨s, r, rfl⟩ : ∃ s r, l = s :: r := by
      cases l with
      | nil => simp at h3; omega
      | cons s r => exact ⟨s, r, rfl⟩
     show adK [((1000000, s.2) : ajC)]
     exact ⟨zm 1, by show 1 ≤ 4; omega, ⟨h8.1.1, ⟨by show (0 : Int) + 1 ≤ 1000000; omega, by show (1000000 : Int) ≤ 1000000; omega⟩⟩, rfl⟩
  ·have := h4 rfl
   subst this
   have : k = 0 := h3.symm
   subst this
   rcases (yw d.2.2.2.2.1).symm with hi | hi
   ·refine ⟨_, uT rfl (uF (zk zc) (uT rfl (uF hi rfl))), _, rfl, ?_⟩
    rw [e0]; decide
   ·refine ⟨_, uT rfl (uF (zk zc) (uT rfl (uT hi rfl))), _, rfl, ?_⟩
    rw [e0]; decide
theorem aKf (d : DrT) (hd : aL3 d) : ∃ c, aaK (d, ()) = some (c, ()) ∧ acK c := by
 obtain ⟨k, ta, pa, ro, ri, u⟩ := d
 obtain ⟨l1, e1, o1⟩ := aHL _ hd
 obtain ⟨l2, e2, o2⟩ := aCe _ hd
 simp only [aaK, akL]
 by_cases c0 : Int.tmod k 4 = 0
 ·exact ⟨(1, [], [], ()), uT (zr.mpr c0) rfl, Or.inl ⟨rfl, rfl, rfl⟩⟩
 ·by_cases c1 : Int.tmod k 4 = 1
  ·refine ⟨(3, [], l2, ()), uF (beq_eq_false_iff_ne.mpr c0) (uT (zr.mpr c1) (uC _ e2 ?_)), Or.inr (Or.inr ⟨rfl, rfl, o2⟩)⟩
   repeat refine zb ?_
   rfl
  ·refine ⟨(2, l1, [], ()), uF (beq_eq_false_iff_ne.mpr c0) (uF (beq_eq_false_iff_ne.mpr c1) (uC _ e1 ?_)), Or.inr (Or.inl ⟨rfl, o1, rfl⟩)⟩
   repeat refine zb ?_
   rfl
theorem awH (d : DrT) (y) (h : agH (d, ()) = some y) : (aiC d).toO = some y := h
theorem aq1 (d : DrT) (y) (h : ad8 (d, ()) = some y) : (afG d).toO = some y := h
theorem ayQ (d : DrT) (y) (h : aaK (d, ()) = some y) : (akL d).toO = some y := h
def aA6 : Int → List ajC → Prop
 | last, [] => last = 1000000
 | last, s :: r => (ag0 s ∧ last < s.1) ∧ aA6 s.1 r
theorem aCO : ∀ (l : List ajC) (last : Int), aA6 last l → last ≤ 1000000
 | [], _, h => by have : _ = _ := h; omega
 | _ :: r, _, h => by have := aCO r _ h.2; have := h.1.2; omega
theorem ajG : ∀ (l : List ajC) (last : Int), aA6 last l ↔ agT last l
 | [], _ => Iff.rfl
 | s :: r, last => by
  constructor
  ·intro h
   have := aCO r _ h.2
   exact ⟨⟨h.1.1, by have := h.1.2; omega, this⟩, (ajG r _).1 h.2⟩
  ·intro h
   exact ⟨⟨h.1.1, by have := h.1.2.1; omega⟩, (ajG r _).2 h.2⟩
theorem aDH {last : Int} {s : ajC} {r : List ajC} : aA6 last (s :: r) ↔ (ag0 s ∧ last < s.1) ∧ aA6 s.1 r := Iff.rfl
theorem ayO (c : CvT) (y) (h : aeR (c, ()) = some y) : (anU c).toO = some y := by
 unfold aeR at h
 split at h
 case isFalse => cases h
 case isTrue hp =>
 injection h with h
 subst h
 obtain ⟨kind, tab, l, u0⟩ := c
 obtain ⟨hs1, hs2⟩ := hp
 dsimp only at hs1 hs2
 unfold anU
 dsimp only
 by_cases k1 : kind = 1
 ·subst k1
  have hd : decide (acK (1, tab, l, u0)) = decide (tab = [] ∧ l = []) := decide_eq_decide.2 ⟨fun h => by
   rcases h with h | h | h
   ·exact h.2
   ·exact absurd h.1 (by decide : ¬ (1 : Int) = 2)
   ·exact absurd h.1 (by decide : ¬ (1 : Int) = 3), fun h => Or.inl ⟨rfl, h⟩⟩
  rw [hd]
  refine uT rfl ?_
  simp only [aiL]
  by_cases a1 : tab = []
  ·refine uT (zl a1) ?_
   rw [abQ]
   by_cases a2 : l = []
   ·rw [zl a2, zl (show tab = [] ∧ l = [] from ⟨a1, a2⟩)]
   ·rw [zk a2, zk (fun h : tab = [] ∧ l = [] => a2 h.2)]
  ·refine uF (zk a1) ?_
   rw [abQ, zk (fun h : tab = [] ∧ l = [] => a1 h.1)]
 refine uF (beq_eq_false_iff_ne.2 k1) ?_
 by_cases k2 : kind = 2
 ·subst k2
  have hd : decide (acK (2, tab, l, u0)) = decide (ae4 tab ∧ l = []) := decide_eq_decide.2 ⟨fun h => by
   rcases h with h | h | h
   ·exact absurd h.1 (by decide : ¬ (2 : Int) = 1)
   ·exact h.2
   ·exact absurd h.1 (by decide : ¬ (2 : Int) = 3), fun h => Or.inr (Or.inl ⟨rfl, h⟩)⟩
  rw [hd]
  refine uT rfl (uO (0, ()) rfl ?_)
  refine abA (fun i : Int × Unit => ∃ k : Nat, k ≤ tab.length ∧ i = ((k : Int), ()) ∧ ∀ v ∈ tab.take k, inR v 0 65535) (fun i => ((tab.length : Int) - i.1).toNat) (fun _ => (decide (ae4 tab ∧ l = []), ())) ?_ _ ⟨0, by omega, rfl, by simp⟩
  rintro i ⟨k, h3, rfl, h4⟩
  simp only [aq4, aaI]
  rcases zH k tab.length with hk | hk
  ·have e : tab.getD k 0 = tab[k] := by simp [hk]
   rw [e]
   by_cases c : inR tab[k] 0 65535
   ·left
    refine ⟨(((k + 1 : Nat) : Int), ()), ?_, ⟨k + 1, by omega, rfl, ?_⟩, by simp only; omega, ze⟩
    ·refine uT sd (uN sd (uC _ (acR _ _ _) (uF (by rw [zl c]; rfl) ?_)))
     rw [aaD (x := (k : Int) + 1) zc]
     rfl
    ·intro v hv
     rw [zR hk] at hv
     rcases zx.1 hv with hv | hv
     ·exact h4 v hv
     ·rw [zG.1 hv]; exact c
   ·right
    rw [zk (fun h : ae4 tab ∧ l = [] => c (h.1.2.2 _ (yi hk)))]
    exact uT sd (uN sd (uC _ (acR _ _ _) (uT (by rw [zk c]; rfl) rfl)))
  ·right
   rw [zq hk] at h4
   refine uF sd (uC _ (acR _ _ _) ?_)
   by_cases c1 : inR (len tab) 2 17
   ·refine uT (zl c1) ?_
    rw [abQ, aiL]
    have ht : ae4 tab := ⟨by have := c1.1; rw [aaB] at this; omega, by have := c1.2; rw [aaB] at this; omega, h4⟩
    by_cases c2 : l = []
    ·rw [zl c2, zl (show ae4 tab ∧ l = [] from ⟨ht, c2⟩)]
    ·rw [zk c2, zk (fun h : ae4 tab ∧ l = [] => c2 h.2)]
   ·refine uF (zk c1) ?_
    rw [abQ, zk (fun h : ae4 tab ∧ l = [] => c1 ⟨by have := h.1.1; rw [aaB]; omega, by have := h.1.2.1; rw [aaB]; omega⟩)]
 refine uF (beq_eq_false_iff_ne.2 k2) ?_
 by_cases k3 : kind = 3
 ·subst k3
  have hd : decide (acK (3, tab, l, u0)) = decide (tab = [] ∧ adK l) := decide_eq_decide.2 ⟨fun h => by
   rcases h with h | h | h
   ·exact absurd h.1 (by decide : ¬ (3 : Int) = 1)
   ·exact absurd h.1 (by decide : ¬ (3 : Int) = 2)
   ·exact h.2, fun h => Or.inr (Or.inr ⟨rfl, h⟩)⟩
  rw [hd]
  refine uT rfl (uO (0, 0, ()) rfl ?_)
  refine abA (fun i : Int × Int × Unit => ∃ k : Nat, k ≤ l.length ∧ i.1 = (k : Int) ∧ (aA6 0 l ↔ aA6 i.2.1 (l.drop k))) (fun i => ((l.length : Int) - i.1).toNat) (fun _ => (decide (tab = [] ∧ adK l), ())) ?_ _ ⟨0, by omega, rfl, Iff.rfl⟩
  rintro ⟨i, last, u⟩ ⟨k, h3, h4, h6⟩
  dsimp only at h4 h6
  subst h4
  simp only [aq3, aaI]
  rcases zH k l.length with hk | hk
  ·have e : l.getD k zs = l[k] := by simp [hk]
   rw [yj hk, aDH] at h6
   have hv : ag9 (((l.getD k zs).1, (l.getD k zs).2.1, (l.getD k zs).2.2.1, (l.getD k zs).2.2.2.1, (l.getD k zs).2.2.2.2.1, (l.getD k zs).2.2.2.2.2.1, ()), ()) = some (decide (ag0 l[k]), ()) := by
    rw [← e]; rfl
   by_cases c : ag0 l[k]
   ·by_cases c2 : last < l[k].1
    ·left
     refine ⟨(((k + 1 : Nat) : Int), l[k].1, ()), ?_, ⟨k + 1, by omega, rfl, ⟨fun h => (h6.1 h).2, fun h => h6.2 ⟨⟨c, c2⟩, h⟩⟩⟩, by dsimp only; omega, ze⟩
     refine uT sd (uN sd (uC _ hv (uF (by rw [zl c]; rfl) (uF (zk (by rw [e]; omega)) ?_))))
     rw [aaD (x := (k : Int) + 1) zc, e]
     rfl
    ·right
     rw [zk (fun h : tab = [] ∧ adK l => c2 (h6.1 ((ajG _ _).2 h.2.2.2)).1.2)]
     exact uT sd (uN sd (uC _ hv (uF (by rw [zl c]; rfl) (uT (zl (by rw [e]; omega)) rfl))))
   ·right
    rw [zk (fun h : tab = [] ∧ adK l => c (h6.1 ((ajG _ _).2 h.2.2.2)).1.1)]
    exact uT sd (uN sd (uC _ hv (uT (by rw [zk c]; rfl) rfl)))
  ·right
   have hkl : k = l.length := zc
   subst hkl
   rw [List.drop_length] at h6
   have h7 : agT 0 l ↔ last = 1000000 := by rw [← ajG]; exact h6
   refine uF sd (uC _ (acR _ _ _) ?_)
   by_cases c1 : inR (len l) 1 4
   ·refine uT (zl c1) ?_
    by_cases c2 : last = 1000000
    ·refine uT (zr.2 c2) ?_
     have hs : adK l := ⟨by have := c1.1; rw [aaB] at this; omega, by have := c1.2; rw [aaB] at this; omega, h7.2 c2⟩
     rw [abQ, aiL]
     by_cases c3 : tab = []
     ·rw [zl c3, zl (show tab = [] ∧ adK l from ⟨c3, hs⟩)]
     ·rw [zk c3, zk (fun h : tab = [] ∧ adK l => c3 h.1)]
    ·refine uF (beq_eq_false_iff_ne.2 c2) ?_
     rw [abQ, zk (fun h : tab = [] ∧ adK l => c2 (h7.1 h.2.2.2))]
   ·refine uF (zk c1) ?_
    rw [abQ, zk (fun h : tab = [] ∧ adK l => c1 ⟨by have := h.2.1; rw [aaB]; omega, by have := h.2.2.1; rw [aaB]; omega⟩)]
 ·refine uF (beq_eq_false_iff_ne.2 k3) ?_
  rw [abQ, zk (fun h : acK (kind, tab, l, u0) => by
   rcases h with h | h | h
   ·exact k1 h.1
   ·exact k2 h.1
   ·exact k3 h.1)]
theorem ayP (c : CvT) (y) (h : ah0 (c, ()) = some y) : (anV c).toO = some y := by
 unfold ah0 at h
 split at h
 case isFalse => cases h
 case isTrue hp =>
 injection h with h
 subst h
 obtain ⟨kind, tab, l, u0⟩ := c
 unfold anV
 dsimp only
 refine uC _ (ao6 (c := (kind, tab, l, ())) hp) ?_
 by_cases hr : acK (kind, tab, l, ())
 case neg =>
  rw [zk (fun h : agC (kind, tab, l, u0) => hr h.1)]
  exact uT (by rw [zk hr]; rfl) rfl
 have hlen : l.length ≤ 4 := by
  rcases hr with h | h | h
  ·rw [show l = [] from h.2.2]; simp
  ·rw [show l = [] from h.2.2]; simp
  ·exact h.2.2.2.1
 have hd : decide (agC (kind, tab, l, u0)) = decide (∀ s ∈ l, s.2.2.2.2.1 = 1) := decide_eq_decide.2 ⟨fun h => h.2, fun h => ⟨hr, h⟩⟩
 rw [hd]
 refine uF (by rw [zl hr]; rfl) (uO (0, ()) rfl ?_)
 refine abA (fun i : Int × Unit => ∃ k : Nat, k ≤ l.length ∧ i.1 = (k : Int) ∧ ∀ s ∈ l.take k, s.2.2.2.2.1 = 1) (fun i => ((l.length : Int) - i.1).toNat) (fun _ => (decide (∀ s ∈ l, s.2.2.2.2.1 = 1), ())) ?_ _ ⟨0, by omega, rfl, by simp⟩
 rintro ⟨i, u⟩ ⟨k, h1, h2, h3⟩
 dsimp only at h2
 subst h2
 simp only [aq5, aaI]
 rcases zH k l.length with hk | hk
 ·have e : l.getD k zs = l[k] := by simp [hk]
  by_cases c : l[k].2.2.2.2.1 = 1
  ·left
   refine ⟨(((k + 1 : Nat) : Int), ()), ?_, ⟨k + 1, by omega, rfl, ?_⟩, by dsimp only; omega, ze⟩
   ·refine uT sd (uN sd (uF ?_ ?_))
    ·rw [e, c]; rfl
    ·rw [aaD (x := (k : Int) + 1) zc]
     rfl
   ·intro s hs
    rw [zR hk] at hs
    rcases zx.1 hs with hs | hs
    ·exact h3 s hs
    ·rw [zG.1 hs]; exact c
  ·right
   rw [zk (fun h : ∀ s ∈ l, s.2.2.2.2.1 = 1 => c (h _ (yi hk)))]
   refine uT sd (uN sd (uT ?_ rfl))
   rw [e]; simpa using c
 ·right
  rw [zq hk] at h3
  rw [zl h3]
  exact uF sd rfl
theorem aj2 {α : Type} {d : α} {a b : List α} (hl : a.length = b.length) (h : ∀ j, j < a.length → a.getD j d = b.getD j d) : a = b := by
 refine List.ext_getElem hl (fun i h1 h2 => ?_)
 have := h i h1
 simpa [h1, h2] using this
theorem aMD {a b : ajC} : a = b ↔ a.1 = b.1 ∧ a.2.1 = b.2.1 ∧ a.2.2.1 = b.2.2.1 ∧ a.2.2.2.1 = b.2.2.2.1 ∧ a.2.2.2.2.1 = b.2.2.2.2.1 ∧ a.2.2.2.2.2.1 = b.2.2.2.2.2.1 := by
 obtain ⟨a1, a2, a3, a4, a5, a6, a7⟩ := a
 obtain ⟨b1, b2, b3, b4, b5, b6, b7⟩ := b
 constructor
 ·intro h; cases h; exact ⟨rfl, rfl, rfl, rfl, rfl, rfl⟩
 ·rintro ⟨h1, h2, h3, h4, h5, h6⟩
  dsimp only at h1 h2 h3 h4 h5 h6
  subst h1 h2 h3 h4 h5 h6; rfl
theorem aBf (a b : CvT) (y) (h : akD (a, b, ()) = some y) : (aq2 a b).toO = some y := by
 unfold akD at h
 split at h
 case isFalse => cases h
 case isTrue hp =>
 injection h with h
 subst h
 obtain ⟨k1, t1, s1, u1⟩ := a
 obtain ⟨k2, t2, s2, u2⟩ := b
 obtain ⟨p1, p2⟩ := hp
 dsimp only at p1 p2 ⊢
 unfold aq2
 dsimp only
 by_cases c1 : k1 = k2
 case neg =>
  rw [aaJ (fun h => c1 (by injection h with h _))]
  exact uR _ (uT (by simpa using c1) rfl)
 by_cases c2 : t1.length = t2.length
 case neg =>
  rw [aaJ (fun h => c2 (by injection h with _ h; injection h with h _; rw [h]))]
  exact uR _ (uF (by simpa using c1) (uT (by simp only [aaB, yf]; omega) rfl))
 by_cases c3 : s1.length = s2.length
 case neg =>
  rw [aaJ (fun h => c3 (by injection h with _ h; injection h with _ h; injection h with h _; rw [h]))]
  exact uR _ (uF (by simpa using c1) (uF (by simp only [aaB, bne_eq_false_iff_eq]; omega) (uT (by simp only [aaB, yf]; omega) rfl)))
 refine uL (false, ()) (uF (by simpa using c1) (uF (by simp only [aaB, bne_eq_false_iff_eq]; omega) (uF (by simp only [aaB, bne_eq_false_iff_eq]; omega) rfl))) ?_
 unfold auW
 refine uO (0, ()) rfl ?_
 refine abA (fun i : Int × Unit => ∃ k : Nat, k ≤ t1.length ∧ i.1 = (k : Int) ∧ ∀ j, j < k → t1.getD j 0 = t2.getD j 0) (fun i => ((t1.length : Int) - i.1).toNat) (fun _ => (eqb (k1, t1, s1, u1) (k2, t2, s2, u2), ())) ?_ _ ⟨0, by omega, rfl, fun j hj => by omega⟩
 rintro ⟨i, u⟩ ⟨k, h1, h2, h3⟩
 dsimp only at h2
 subst h2
 simp only [auV, aaI]
 rcases zH k t1.length with hk | hk
 ·by_cases c : t1.getD k 0 = t2.getD k 0
  ·left
   refine ⟨(((k + 1 : Nat) : Int), ()), ?_, ⟨k + 1, by omega, rfl, fun j hj => ?_⟩, by dsimp only; omega, ze⟩
   ·refine uT sd (uN sd (uN sd (uF (by rw [c]; simp) ?_)))
    rw [aaD (x := (k : Int) + 1) zc]; rfl
   ·rcases zH j k with g | g
    ·exact h3 j g
    ·obtain rfl : j = k := zc
     exact c
  ·right
   rw [aaJ (fun h => c (by injection h with _ h; injection h with h _; rw [h]))]
   exact uT sd (uN sd (uN sd (uT (by simpa using c) rfl)))
 ·right
  obtain rfl : k = t1.length := zc
  have ht : t1 = t2 := aj2 c2 h3
  refine uF sd (uO (0, ()) rfl ?_)
  refine abA (fun i : Int × Unit => ∃ k : Nat, k ≤ s1.length ∧ i.1 = (k : Int) ∧ ∀ j, j < k → s1.getD j zs = s2.getD j zs) (fun i => ((s1.length : Int) - i.1).toNat) (fun _ => Sum.inr (eqb (k1, t1, s1, u1) (k2, t2, s2, u2), ())) ?_ _ ⟨0, by omega, rfl, fun j hj => by omega⟩
  rintro ⟨i, u⟩ ⟨k, h1, h2, h3⟩
  dsimp only at h2
  subst h2
  simp only [auU, aaI]
  rcases zH k s1.length with hk | hk
  ·by_cases c : s1.getD k zs = s2.getD k zs
   ·left
    refine ⟨(((k + 1 : Nat) : Int), ()), ?_, ⟨k + 1, by omega, rfl, fun j hj => ?_⟩, by dsimp only; omega, ze⟩
    ·refine uT sd (uN sd (uN sd (uF (by rw [c]; simp) ?_)))
     rw [aaD (x := (k : Int) + 1) zc]; rfl
    ·rcases zH j k with g | g
     ·exact h3 j g
     ·obtain rfl : j = k := zc
      exact c
   ·right
    rw [aaJ (fun h => c (by injection h with _ h; injection h with _ h; injection h with h _; rw [h]))]
    refine uT sd (uN sd (uN sd (uT ?_ rfl)))
    rw [aMD] at c
    generalize s1.getD k zs = x at c
    generalize s2.getD k zs = z at c
    obtain ⟨x1, x2, x3, x4, x5, x6, x7⟩ := x
    obtain ⟨z1, z2, z3, z4, z5, z6, z7⟩ := z
    dsimp only at c ⊢
    rw [zT]
    split
    ·rename_i e1
     split
     ·rename_i e2
      split
      ·rename_i e3
       split
       ·rename_i e4
        split
        ·rename_i e5
         split
         ·rename_i e6
          exact absurd ⟨zr.1 e1, zr.1 e2, zr.1 e3, zr.1 e4, zr.1 e5, zr.1 e6⟩ c
         ·rfl
        ·rfl
       ·rfl
      ·rfl
     ·rfl
    ·rfl
  ·right
   obtain rfl : k = s1.length := zc
   have hs : s1 = s2 := aj2 c3 h3
   refine uF sd ?_
   rw [abQ, ab2 (by rw [c1, ht, hs])]
noncomputable def aNL (off : Int) (y : Rat) : Option Rat := (aNZ (y + mkRat off 1000000)).map aNm
theorem aFM {c : CvT} (h : acK c) : shC c := by
 rcases h with ⟨h1, h2, h3⟩ | ⟨h1, h2, h3⟩ | ⟨h1, h2, h3⟩
 ·unfold shC; rw [h2, h3]; exact ⟨by simp, by simp⟩
 ·unfold shC; rw [h3]; exact ⟨by have := h2.2.1; omega, by simp⟩
 ·unfold shC; rw [h2]; exact ⟨by simp, by have := h3.2.1; omega⟩
theorem aAR (c : CvT) : akF (c, ()) = some (decide (agC c), ()) := rfl
theorem apN {k : IntKind} {x a b : Int} (h : k.min ≤ x ∧ x ≤ k.max) (ha : k.min = a := by rfl) (hb : k.max = b := by rfl) : inR x a b := by subst ha; subst hb; exact h
theorem aFe (g : GrT) : ah3 ((g.1, g.2.1, g.2.2.1, ()), ()) = some (decide (auE g), ()) := rfl
theorem aAP {l : List CvT} (h : shL l ∧ ∀ c ∈ l, shC c) : acM (l, ()) = some (decide (ai8 l), ()) := if_pos h
theorem aFd {x : ElT} (h : shE x) : aeU ((x.1, x.2.1, x.2.2.1, x.2.2.2.1, (x.2.2.2.2.1.1, x.2.2.2.2.1.2.1, x.2.2.2.2.1.2.2.1, ()), x.2.2.2.2.2.1, x.2.2.2.2.2.2.1, x.2.2.2.2.2.2.2.1, ()), ()) = some (decide (ad1 x.2.2.1 x.2.2.2.1), ()) := if_pos h
theorem aCy {g : GrT} (h : shG g) : acZ ((g.1, g.2.1, g.2.2.1, ()), ()) = some (decide (afY g), ()) := if_pos h
theorem aCx {p : List OpT} (i o : Int) (h : shL p) : acY (p, i, o, ()) = some ((aeC p i o).isSome, ()) := if_pos h
theorem aqE (n : Int) : (n == 0) = decide (n = 0) := (afF (by rw [zr])).symm
theorem awP (x : ElT) (y) (h : adH (x, ()) = some y) : (alY x).toO = some y := by
 unfold adH at h
 split at h
 case isFalse => cases h
 case isTrue hl =>
 have hx : shE x := hl
 obtain ⟨a1, a2, a3, a4, a5⟩ := hl
 injection h with h
 subst h
 dsimp only at a1 a2 a3 a4 a5 ⊢
 unfold alY ahE ahF ahG
 simp only [aFe, aAP a1, aFd hx, aCy a4, aCx _ _ a5]
 have k1 : x.1 = 1 ∨ x.1 = 2 ∨ x.1 = 3 ∨ x.1 = 4 ∨ (x.1 ≠ 1 ∧ x.1 ≠ 2 ∧ x.1 ≠ 3 ∧ x.1 ≠ 4) := zc
 rcases k1 with k | k | k | k | ⟨e1, e2, e3, e4⟩
 ·simp only [k, show ((1 : Int) == 1) = true from rfl, show ((1 : Int) == 2) = false from rfl, show ((1 : Int) == 3) = false from rfl, show ((1 : Int) == 4) = false from rfl]
  repeat' (first | (refine uC _ rfl ?_) | (refine (adZ ..).trans ?_; split))
  all_goals simp_all [abQ, abK, aJu, aJt, am6, adZ, aqE]
 ·simp only [k, show ((2 : Int) == 1) = false from rfl, show ((2 : Int) == 2) = true from rfl, show ((2 : Int) == 3) = false from rfl, show ((2 : Int) == 4) = false from rfl]
  repeat' (first | (refine uC _ rfl ?_) | (refine (adZ ..).trans ?_; split))
  all_goals simp_all [abQ, abK, aJu, aJt, am6, adZ, aqE]
 ·simp only [k, show ((3 : Int) == 1) = false from rfl, show ((3 : Int) == 2) = false from rfl, show ((3 : Int) == 3) = true from rfl, show ((3 : Int) == 4) = false from rfl]
  repeat' (first | (refine uC _ rfl ?_) | (refine (adZ ..).trans ?_; split))
  all_goals simp_all [abQ, abK, aJu, aJt, am6, adZ, aqE]
 ·simp only [k, show ((4 : Int) == 1) = false from rfl, show ((4 : Int) == 2) = false from rfl, show ((4 : Int) == 3) = false from rfl, show ((4 : Int) == 4) = true from rfl]
  repeat' (first | (refine uC _ rfl ?_) | (refine (adZ ..).trans ?_; split))
  all_goals simp_all [abQ, abK, aJu, aJt, am6, adZ, aqE]
 ·simp only [beq_eq_false_iff_ne.2 e1, beq_eq_false_iff_ne.2 e2, beq_eq_false_iff_ne.2 e3, beq_eq_false_iff_ne.2 e4]
  repeat' (first | (refine uC _ rfl ?_) | (refine (adZ ..).trans ?_; split))
  all_goals simp_all [abQ, abK]
theorem amT {x : ElT} (h : shE x) : adH ((x.1, x.2.1, x.2.2.1, x.2.2.2.1, (x.2.2.2.2.1.1, x.2.2.2.2.1.2.1, x.2.2.2.2.1.2.2.1, ()), x.2.2.2.2.2.1, x.2.2.2.2.2.2.1, x.2.2.2.2.2.2.2.1, ()), ()) = some (decide (abK x), ()) := if_pos h
theorem ao7 {x : ElT} (h : shE x) : aeY ((x.1, x.2.1, x.2.2.1, x.2.2.2.1, (x.2.2.2.2.1.1, x.2.2.2.2.1.2.1, x.2.2.2.2.1.2.2.1, ()), x.2.2.2.2.2.1, x.2.2.2.2.2.2.1, x.2.2.2.2.2.2.2.1, ()), ()) = some (if abK x then 0 else 130, ()) := if_pos h
theorem aAo (x : ElT) (y) (h : aeX (x, ()) = some y) : (aoP x).toO = some y := by
 unfold aeX at h
 split at h
 case isFalse => cases h
 case isTrue hl =>
 injection h with h
 subst h
 have hl' : x.2.1.length ≤ 1000000000000 := hl.1.1
 unfold aoP
 refine uC _ (ao7 hl) ?_
 by_cases c : abK x
 case neg =>
  rw [if_neg c]
  refine uF rfl ?_
  rw [zk (fun h : afE x => c h.1)]; rfl
 rw [if_pos c]
 refine uT rfl (uV (uV (uV (uV (uO (0, ()) rfl ?_)))))
 refine (aa9 (n := x.2.1.length) (bad := (false, ())) (good := (true, ())) (fun k => decide (agC (x.2.1.getD k (0, [], [], ())))) (fun k hk hp => ?_) (fun k hk hp => ?_) ?_).trans ?_
 ·simp only [amK, aaI]
  refine uT sd (uN sd (uV (uV (uC _ (aAR (x.2.1.getD k (0, [], [], ()))) (uF (nF (of_decide_eq_true hp)) (uV (uB (uV (uV ?_)))))))))
  rw [amU hk hl']; rfl
 ·simp only [amK, aaI]
  refine uT sd (uN sd (uV (uV (uC _ (aAR (x.2.1.getD k (0, [], [], ()))) (uT (nT (of_decide_eq_false hp)) ?_)))))
  rw [zl (show ((k : Int) ≥ 0) by omega)]; rfl
 ·exact uF sd rfl
 ·rw [agA (adG x.2.1 (0, [], [], ()) agC)]
  by_cases d : ∀ c ∈ x.2.1, agC c
  ·rw [if_pos d, zl (show afE x from ⟨c, d⟩)]
  ·rw [if_neg d, zk (fun h : afE x => d h.2)]
theorem avZ {c : CvT} (h : shC c) : ah0 (c, ()) = some (decide (agC c), ()) := if_pos h
theorem awQ (x : ElT) (y) (h : agK (x, ()) = some y) : (alZ x).toO = some y := by
 unfold agK aeX at h
 split at h
 case isFalse => cases h
 case isTrue hl =>
 injection h with h
 subst h
 have hl' : x.2.1.length ≤ 1000000000000 := hl.1.1
 have hc := hl.1.2
 unfold alZ
 refine uC _ (amT hl) ?_
 by_cases c : abK x
 case neg =>
  refine uT (nT c) ?_
  rw [zk (fun h : afE x => c h.1)]; rfl
 refine uF (nF c) (uO (0, ()) rfl ?_)
 refine (aa9 (n := x.2.1.length) (bad := (false, ())) (good := (true, ())) (fun k => decide (agC (x.2.1.getD k (0, [], [], ())))) (fun k hk hp => ?_) (fun k hk hp => ?_) ?_).trans ?_
 ·simp only [ajR, aaI]
  refine uT sd (uN sd (uC _ (avZ (hc _ (acB _ hk))) (uF (nF (of_decide_eq_true hp)) (uV (uB (uV (uV ?_)))))))
  rw [amU hk hl']; rfl
 ·simp only [ajR, aaI]
  exact uT sd (uN sd (uC _ (avZ (hc _ (acB _ hk))) (uT (nT (of_decide_eq_false hp)) rfl)))
 ·exact uF sd rfl
 ·rw [agA (adG x.2.1 (0, [], [], ()) agC)]
  by_cases d : ∀ c ∈ x.2.1, agC c
  ·rw [if_pos d, zl (show afE x from ⟨c, d⟩)]
  ·rw [if_neg d, zk (fun h : afE x => d h.2)]
theorem aCQ {x : ElT} (h : abK x) (k : x.1 = 2) : 0 < x.2.2.1.length := by
 rcases h with ⟨a, -⟩ | ⟨-, -, -, -, b, -⟩ | ⟨a, -⟩ | ⟨a, -⟩
 ·omega
 ·omega
 ·omega
 ·omega
theorem aEP (x : ElT) (y) (h : ai3 (x, ()) = some y) : (axK x).toO = some y := by
 unfold ai3 at h
 split at h
 case isFalse => cases h
 case isTrue hl =>
 injection h with h
 subst h
 unfold axK
 refine uC _ (ao7 hl) ?_
 dsimp only
 by_cases c : abK x
 case neg => rw [if_neg c, if_neg c]; exact uT rfl rfl
 rw [if_pos c, if_pos c]
 refine uF rfl ?_
 unfold aEF
 by_cases k1 : x.1 = 1
 ·rw [if_pos k1]; exact uT (zr.2 k1) rfl
 rw [if_neg k1]
 refine uF (beq_eq_false_iff_ne.2 k1) ?_
 by_cases k2 : x.1 = 2
 ·rw [if_pos k2]; exact uT (zr.2 k2) (uN ⟨xj _, by rw [aaB]; have := aCQ c k2; omega⟩ rfl)
 rw [if_neg k2]
 refine uF (beq_eq_false_iff_ne.2 k2) ?_
 by_cases k3 : x.1 = 3
 ·rw [if_pos k3]; exact uT (zr.2 k3) rfl
 rw [if_neg k3]
 exact uF (beq_eq_false_iff_ne.2 k3) rfl
theorem aBn (x : ElT) (y) (h : akE (x, ()) = some y) : (aq9 x).toO = some y := by
 unfold akE ai3 at h
 split at h
 case isFalse => cases h
 case isTrue hl =>
 injection h with h
 subst h
 unfold aq9
 refine uC _ (amT hl) ?_
 dsimp only
 by_cases c : abK x
 case neg => rw [if_neg c]; exact uT (nT c) rfl
 rw [if_pos c]
 refine uF (nF c) ?_
 unfold aEF
 by_cases k1 : x.1 = 1
 ·rw [if_pos k1]; exact uT (zr.2 k1) rfl
 rw [if_neg k1]
 refine uF (beq_eq_false_iff_ne.2 k1) ?_
 by_cases k2 : x.1 = 2
 ·rw [if_pos k2]; exact uT (zr.2 k2) (uN ⟨xj _, by rw [aaB]; have := aCQ c k2; omega⟩ rfl)
 rw [if_neg k2]
 refine uF (beq_eq_false_iff_ne.2 k2) ?_
 by_cases k3 : x.1 = 3
 ·rw [if_pos k3]; exact uT (zr.2 k3) rfl
 rw [if_neg k3]
 exact uF (beq_eq_false_iff_ne.2 k3) rfl
theorem aCc (x : ElT) (y) (h : ae9 (x, ()) = some y) : (asM x).toO = some y := by
 unfold ae9 at h
 split at h
 case isFalse => cases h
 case isTrue hl =>
 injection h with h
 subst h
 unfold asM
 refine uC _ (ao7 hl) ?_
 dsimp only
 by_cases c : abK x
 case neg => rw [if_neg c, if_neg c]; exact uT rfl rfl
 rw [if_pos c, if_pos c]
 refine uF rfl ?_
 unfold aiJ
 by_cases k1 : x.1 = 1
 ·rw [if_pos k1]; exact uT (zr.2 k1) rfl
 rw [if_neg k1]
 refine uF (beq_eq_false_iff_ne.2 k1) ?_
 by_cases k2 : x.1 = 2
 ·rw [if_pos k2]; exact uT (zr.2 k2) rfl
 rw [if_neg k2]
 refine uF (beq_eq_false_iff_ne.2 k2) ?_
 by_cases k3 : x.1 = 3
 ·rw [if_pos k3]; exact uT (zr.2 k3) rfl
 rw [if_neg k3]
 exact uF (beq_eq_false_iff_ne.2 k3) rfl
theorem ay0 (x : ElT) (y) (h : acV (x, ()) = some y) : (an2 x).toO = some y := by
 unfold acV ae9 at h
 split at h
 case isFalse => cases h
 case isTrue hl =>
 injection h with h
 subst h
 unfold an2
 refine uC _ (amT hl) ?_
 dsimp only
 by_cases c : abK x
 case neg => rw [if_neg c]; exact uT (nT c) rfl
 rw [if_pos c]
 refine uF (nF c) ?_
 unfold aiJ
 by_cases k1 : x.1 = 1
 ·rw [if_pos k1]; exact uT (zr.2 k1) rfl
 rw [if_neg k1]
 refine uF (beq_eq_false_iff_ne.2 k1) ?_
 by_cases k2 : x.1 = 2
 ·rw [if_pos k2]; exact uT (zr.2 k2) rfl
 rw [if_neg k2]
 refine uF (beq_eq_false_iff_ne.2 k2) ?_
 by_cases k3 : x.1 = 3
 ·rw [if_pos k3]; exact uT (zr.2 k3) rfl
 rw [if_neg k3]
 exact uF (beq_eq_false_iff_ne.2 k3) rfl
theorem aDw {a b : CvT} (h : shC a) : anK (a, b, ()) = some (eqb a b, ()) := if_pos h
theorem aAO {a b : CvT} (h : shC a) : akD (a, b, ()) = some (eqb a b, ()) := if_pos h
theorem aKc {a b : GrT} (h : shG a) : ai2 ((a.1, a.2.1, a.2.2.1, ()), (b.1, b.2.1, b.2.2.1, ()), ()) = some (eqb a b, ()) := if_pos h
theorem aFg {a b : GrT} (h : shG a) : ah6 ((a.1, a.2.1, a.2.2.1, ()), (b.1, b.2.1, b.2.2.1, ()), ()) = some (eqb a b, ()) := if_pos h
theorem aMd {a b : List OpT} (h : shL a) : amR (a, b, ()) = some (eqb a b, ()) := if_pos h
theorem aFf {a b : List OpT} (h : shL a) : ah5 (a, b, ()) = some (eqb a b, ()) := if_pos h
theorem eT {p : Bool} (h : p = false) : (!p) = true := by rw [h]; rfl
theorem eF {p : Bool} (h : p = true) : (!p) = false := by rw [h]; rfl
theorem aK7 {α : Type} {a b : α} (c : Bool) (h1 : c = true → a = b) (h2 : a = b → c = true) : (c, ()) = (eqb a b, ()) := by rw [asD ⟨h1, h2⟩]
theorem aCb (a b : ElT) (y) (h : agN (a, b, ()) = some y) : (asL a b).toO = some y := by
 unfold agN at h
 split at h
 case isFalse => cases h
 case isTrue hl =>
 injection h with h
 subst h
 obtain ⟨k, cs, rs, of, gr, pg, ci, co, u⟩ := a
 obtain ⟨k', cs', rs', of', gr', pg', ci', co', u'⟩ := b
 obtain ⟨⟨l1, hc⟩, ⟨l2, hr⟩, l3, l4, l5⟩ := hl
 dsimp only at l1 l2 l3 l4 l5 hc hr ⊢
 have l1' : cs.length ≤ 1000000000000 := l1
 have l2' : rs.length ≤ 1000000000000 := l2
 unfold asL
 dsimp only
 by_cases c1 : k = k'
 case neg => exact uF (beq_eq_false_iff_ne.2 c1) (by rw [aaJ (fun h => c1 (congrArg (fun z : ElT => z.1) h))]; rfl)
 by_cases c2 : ci = ci'
 case neg => exact uT (zr.2 c1) (uF (beq_eq_false_iff_ne.2 c2) (by rw [aaJ (fun h => c2 (congrArg (fun z : ElT => z.2.2.2.2.2.2.1) h))]; rfl))
 by_cases c3 : co = co'
 case neg => exact uT (zr.2 c1) (uT (zr.2 c2) (uF (beq_eq_false_iff_ne.2 c3) (by rw [aaJ (fun h => c3 (congrArg (fun z : ElT => z.2.2.2.2.2.2.2.1) h))]; rfl)))
 refine uT (zr.2 c1) (uT (zr.2 c2) (uT (zr.2 c3) (uV (uV ?_))))
 by_cases c4 : cs.length = cs'.length
 case neg => exact uT (yf.2 (by rw [aaB, aaB]; omega)) (by rw [aaJ (fun h => c4 (congrArg (fun z : ElT => z.2.1.length) h))]; rfl)
 refine uF (bne_eq_false_iff_eq.2 (by rw [aaB, aaB]; omega)) (uO (0, ()) rfl ?_)
 refine (aa9 (n := cs.length) (bad := (false, ())) (good := (decide (rs.length = rs'.length) && (eqb rs rs' && (eqb of of' && (eqb gr gr' && eqb pg pg'))), ())) (fun j => eqb (cs.getD j (0, [], [], ())) (cs'.getD j (0, [], [], ()))) (fun j hj hp => ?_) (fun j hj hp => ?_) ?_).trans ?_
 ·simp only [akW, aaI]
  refine uT sd (uN sd (uN sd (uC _ (aDw (hc _ (acB _ hj))) (uF (eF hp) (uV (uB (uV (uV ?_))))))))
  rw [amU hj l1']; rfl
 ·simp only [akW, aaI]
  exact uT sd (uN sd (uN sd (uC _ (aDw (hc _ (acB _ hj))) (uT (eT hp) rfl))))
 ·simp only [akW, aaI]
  refine uF sd (uV (uV ?_))
  by_cases d : rs.length = rs'.length
  case neg => exact uT (yf.2 (by rw [aaB, aaB]; omega)) (by rw [zk d]; rfl)
  rw [zl d]
  refine uF (bne_eq_false_iff_eq.2 (by rw [aaB, aaB]; omega)) (uO (0, ()) rfl ?_)
  refine (aa9 (n := rs.length) (bad := .inr (false, ())) (good := .inr (eqb of of' && (eqb gr gr' && eqb pg pg'), ())) (fun j => eqb (rs.getD j []) (rs'.getD j [])) (fun j hj hp => ?_) (fun j hj hp => ?_) ?_).trans ?_
  ·simp only [akV, aaI]
   refine uT sd (uN sd (uN sd (uV (uV (uC _ (atH (hr _ (acB _ hj))) (uF (eF hp) (uV (uB (uV (uV ?_))))))))))
   rw [amU hj l2']; rfl
  ·simp only [akV, aaI]
   exact uT sd (uN sd (uN sd (uV (uV (uC _ (atH (hr _ (acB _ hj))) (uT (eT hp) rfl))))))
  ·simp only [akV, aaI]
   refine uF sd (uC _ (atH l3) ?_)
   cases e1 : eqb of of' with
   | false => exact uF rfl rfl
   | true =>
    refine uT rfl (uC _ (aKc l4) ?_)
    cases e2 : eqb gr gr' with
    | false => exact uF rfl rfl
    | true => exact uT rfl (uC _ (aMd l5) rfl)
  ·rw [aiR _ d]
   cases e : eqb rs rs' <;> rfl
 ·rw [aiR _ c4]
  subst c1 c2 c3
  have key : (eqb cs cs' && (decide (rs.length = rs'.length) && (eqb rs rs' && (eqb of of' && (eqb gr gr' && eqb pg pg')))), ()) = (eqb (k, cs, rs, of, gr, pg, ci, co, u) (k, cs', rs', of', gr', pg', ci, co, u'), ()) := by
   refine aK7 _ (fun h => ?_) (fun h => ?_)
   ·simp only [zn, eqb_iff, zC] at h
    obtain ⟨rfl, -, rfl, rfl, rfl, rfl⟩ := h
    rfl
   ·injection h with _ h
    injection h with h1 h
    injection h with h2 h
    injection h with h3 h
    injection h with h4 h
    injection h with h5 h
    subst h1 h2 h3 h4 h5
    simp [ab2 rfl]
  rw [← key]
  cases eqb cs cs' <;> rfl
theorem ayZ (a b : ElT) (y) (h : ah4 (a, b, ()) = some y) : (an1 a b).toO = some y := by
 unfold ah4 agN at h
 split at h
 case isFalse => cases h
 case isTrue hl =>
 injection h with h
 subst h
 obtain ⟨k, cs, rs, of, gr, pg, ci, co, u⟩ := a
 obtain ⟨k', cs', rs', of', gr', pg', ci', co', u'⟩ := b
 obtain ⟨⟨l1, hc⟩, ⟨l2, hr⟩, l3, l4, l5⟩ := hl
 dsimp only at l1 l2 l3 l4 l5 hc hr ⊢
 have l1' : cs.length ≤ 1000000000000 := l1
 have l2' : rs.length ≤ 1000000000000 := l2
 unfold an1
 dsimp only
 by_cases c1 : k = k'
 case neg => exact uT (yf.2 c1) (by rw [aaJ (fun h => c1 (congrArg (fun z : ElT => z.1) h))]; rfl)
 refine uF (bne_eq_false_iff_eq.2 c1) ?_
 by_cases c2 : ci = ci'
 case neg => exact uT (yf.2 c2) (by rw [aaJ (fun h => c2 (congrArg (fun z : ElT => z.2.2.2.2.2.2.1) h))]; rfl)
 refine uF (bne_eq_false_iff_eq.2 c2) ?_
 by_cases c3 : co = co'
 case neg => exact uT (yf.2 c3) (by rw [aaJ (fun h => c3 (congrArg (fun z : ElT => z.2.2.2.2.2.2.2.1) h))]; rfl)
 refine uF (bne_eq_false_iff_eq.2 c3) ?_
 by_cases c4 : cs.length = cs'.length
 case neg => exact uT (yf.2 (by rw [aaB, aaB]; omega)) (by rw [aaJ (fun h => c4 (congrArg (fun z : ElT => z.2.1.length) h))]; rfl)
 refine uF (bne_eq_false_iff_eq.2 (by rw [aaB, aaB]; omega)) ?_
 by_cases c5 : rs.length = rs'.length
 case neg => exact uT (yf.2 (by rw [aaB, aaB]; omega)) (by rw [aaJ (fun h => c5 (congrArg (fun z : ElT => z.2.2.1.length) h))]; rfl)
 refine uF (bne_eq_false_iff_eq.2 (by rw [aaB, aaB]; omega)) (uC _ (ah9 l3) ?_)
 by_cases c6 : of = of'
 case neg => exact uT (eT (aaJ c6)) (by rw [aaJ (fun h => c6 (congrArg (fun z : ElT => z.2.2.2.1) h))]; rfl)
 refine uF (eF (ab2 c6)) (uC _ (aFg l4) ?_)
 by_cases c7 : gr = gr'
 case neg => exact uT (eT (aaJ c7)) (by rw [aaJ (fun h => c7 (congrArg (fun z : ElT => z.2.2.2.2.1) h))]; rfl)
 refine uF (eF (ab2 c7)) (uC _ (aFf l5) ?_)
 by_cases c8 : pg = pg'
 case neg => exact uT (eT (aaJ c8)) (by rw [aaJ (fun h => c8 (congrArg (fun z : ElT => z.2.2.2.2.2.1) h))]; rfl)
 refine uF (eF (ab2 c8)) (uO (0, ()) rfl ?_)
 refine (aa9 (n := cs.length) (bad := (false, ())) (good := (eqb rs rs', ())) (fun j => eqb (cs.getD j (0, [], [], ())) (cs'.getD j (0, [], [], ()))) (fun j hj hp => ?_) (fun j hj hp => ?_) ?_).trans ?_
 ·simp only [aiF, aaI]
  refine uT sd (uN sd (uN sd (uC _ (aAO (hc _ (acB _ hj))) (uF (eF hp) (uV (uB (uV (uV ?_))))))))
  rw [amU hj l1']; rfl
 ·simp only [aiF, aaI]
  exact uT sd (uN sd (uN sd (uC _ (aAO (hc _ (acB _ hj))) (uT (eT hp) rfl))))
 ·simp only [aiF, aaI]
  refine uF sd (uO (0, ()) rfl ?_)
  refine (aa9 (n := rs.length) (bad := .inr (false, ())) (good := .inr (true, ())) (fun j => eqb (rs.getD j []) (rs'.getD j [])) (fun j hj hp => ?_) (fun j hj hp => ?_) ?_).trans ?_
  ·simp only [alX, aaI]
   refine uT sd (uN sd (uN sd (uC _ (ah9 (hr _ (acB _ hj))) (uF (eF hp) (uV (uB (uV (uV ?_))))))))
   rw [amU hj l2']; rfl
  ·simp only [alX, aaI]
   exact uT sd (uN sd (uN sd (uC _ (ah9 (hr _ (acB _ hj))) (uT (eT hp) rfl))))
  ·exact uF sd rfl
  ·rw [aiR _ c5]
   cases e : eqb rs rs' <;> rfl
 ·rw [aiR _ c4]
  subst c1 c2 c3 c6 c7 c8
  have key : (eqb cs cs' && eqb rs rs', ()) = (eqb (k, cs, rs, of, gr, pg, ci, co, u) (k, cs', rs', of, gr, pg, ci, co, u'), ()) := by
   refine aK7 _ (fun h => ?_) (fun h => ?_)
   ·simp only [zn, eqb_iff] at h
    obtain ⟨rfl, rfl⟩ := h
    rfl
   ·injection h with _ h
    injection h with h1 h
    injection h with h2 h
    subst h1 h2
    simp [ab2 rfl]
  rw [← key]
  cases eqb cs cs' <;> rfl
set_option maxRecDepth 100000
open Go Go.Vg Go.Proofs
noncomputable section
def aH2 : LTab := [(50, 30, 38912, ⟨0, (Int) × (Int) × (Int) × Unit, .dat (.s 16) xW <| .dat (.s 4) xW <| .dat (.c 23 0) xW <| .nil, [15, 14, 1], [28, 27, 24, 23, 0], 0⟩)]
def aoV (l : ChT × Unit) (i : (Int) × (Int) × (Int) × Unit) : TT (wG ⊕ wD) :=
 .ite (decide (i.1 < len l.1.2.1))
 (.need (inb i.1 (len l.1.2.1)) <| .call (ai3 ((rE (gE l.1.2.1 i.1)), ())) Dz0 fun y =>
 .ite (y.2.1 != 0)
 (.ok (.inr ((0, false, ()))))
 (.ite (y.1 != i.2.1)
 (.ok (.inr ((0, false, ()))))
 (.call (ae9 ((rE (gE l.1.2.1 i.1)), ())) Dz0 fun y1 =>
 .call (ae9 ((rE (gE l.1.2.1 i.1)), ())) Dz0 fun y2 =>
 .ite (y2.2.1 != 0)
 (.ok (.inr ((y1.1, true, ()))))
 (.tt <| .lt (w64 (i.1 + 1) : Int) fun z1 => .xC (xJ y2.1 z1 (len l.1.2.1) l.1.2.1 <| (xR 27 true) ∧ True) <| .xC (xB (xF 89 l.1.1 l.1.2.1) <| xB (xS (LoopState.ready : LoopState) (none : Option Code) 55 (#[32, 33] : Array Tmp) (atP (ai9 Tryz.f25) [1, 0, 1, 1, 1, 0, 1, 0, 0]) (atP (ai9 Tryz.f25) [1, 0, 1, 1, 1, 0, 1, 0, 1]) <| (xK (50 : FuncId) <| (xQ (((l.1.1, l.1.2.1, ()), ()) : ChT × Unit)) ∧ True) ∧ (xK (((l.1.1, l.1.2.1, ()), ()) : ChT × Unit) <| (xI 24 0 true) ∧ ((xI 23 0 true) ∧ (xK l.1.1 <| wb ∧ (wb ∧ (xU (decide (len l.1.2.1 > 8)) (decide (len l.1.2.1 > 8)) false (len l.1.2.1) l.1.2.1 <| (xI 0 1 true) ∧ (wb ∧ (xJ (decide (l.1.1 > 4)) (decide (l.1.1 > 4)) false l.1.1 <| wb ∧ (wb ∧ (xO (decide (l.1.1 < 1)) l.1.1 <| wb ∧ (wb ∧ (xO false (0 : Int) <| wb ∧ xQ l)))))))))))) <| xB (xL 4 true) <| xB (xL 3 y1.1) <| xB (xF 89 l.1.1 l.1.2.1) True) <| .ok (.inl ((z1, y2.1, y1.1, ())))))))
 (.ok (.inr ((i.2.2.1, true, ()))))
def as0 (l : ChT × Unit) : TT wD :=
 .ite (decide (l.1.1 < 1))
 (.ok ((0, false, ())))
 (.ite (decide (l.1.1 > 4))
 (.ok ((0, false, ())))
 (.ite (decide (len l.1.2.1 > 8))
 (.ok ((0, false, ())))
 (.tt <| .tt <| .loop 0 (.tt <| .lt (l.1.1 : Int) fun z => .xC (xJ z (0 : Int) (len l.1.2.1) l.1.2.1 <| (xR 27 true) ∧ True) <| .xC (xB (xF 89 z l.1.2.1) <| xB (xS (LoopState.ready : LoopState) (none : Option Code) 55 (#[32, 33] : Array Tmp) (atP (ai9 Tryz.f25) [1, 0, 1, 1, 1, 0, 1, 0, 0]) (atP (ai9 Tryz.f25) [1, 0, 1, 1, 1, 0, 1, 0, 1]) <| (xK (50 : FuncId) <| (xQ (((z, l.1.2.1, ()), ()) : ChT × Unit)) ∧ True) ∧ (xK (((z, l.1.2.1, ()), ()) : ChT × Unit) <| (xI 24 0 true) ∧ ((xI 23 0 true) ∧ (xK z <| wb ∧ (wb ∧ (xU (decide (len l.1.2.1 > 8)) (decide (len l.1.2.1 > 8)) false (len l.1.2.1) l.1.2.1 <| (xI 0 1 true) ∧ (wb ∧ (xJ (decide (z > 4)) (decide (z > 4)) false z <| wb ∧ (wb ∧ (xO (decide (z < 1)) z <| wb ∧ (wb ∧ (xO false (0 : Int) <| wb ∧ xQ l)))))))))))) <| xB (xL 4 true) <| xB (xL 3 z) <| xB (xF 89 z l.1.2.1) True) <| .ok ((0, z, z, ()))) (aoV l))))
def aH4 : LTab := []
def aAB (c : ChT) : TT xX :=
 .call (agO (((c.1, c.2.1, ()), ()), ())) Dz1 fun y =>
 .ite (!y.2.1)
 (.ok ((0, 140, ())))
 (.ok ((y.1, 0, ())))
def aEV : LTab := []
def avR (c : ChT) : TT wu :=
 .call (aeA ((c.1, c.2.1, ()), ())) Dz0 fun y =>
 .ok ((y.2.1, ()))
def aH3 : LTab := [(32, 58, 22528, ⟨0, (Int) × Unit, .dat (.s 17) xW <| .nil, [16, 15, 1, 2], [1, 0], 0⟩)]
def aoW (a : ChT) (b : ChT) (i : (Int) × Unit) : TT wd :=
 .ite (decide (i.1 < len a.2.1))
 (.need (inb i.1 (len a.2.1)) <| .need (inb i.1 (len b.2.1)) <| .call (agN ((rE (gE a.2.1 i.1)), (rE (gE b.2.1 i.1)), ())) Dz2 fun y =>
 .ite (!y.1)
 (.ok (.inr ((false, ()))))
 (.tt <| .lt (w64 (i.1 + 1) : Int) fun z => .xC (xJ z (len a.2.1) a.2.1 b.2.1 <| (xK (33 : FuncId) <| True ∧ True) ∧ True) <| .xC (xB (xF 49 b.1 b.2.1) <| xB (xF 49 a.1 a.2.1) True) <| .ok (.inl ((z, ())))))
 (.ok (.inr ((true, ()))))
def as1 (a : ChT) (b : ChT) : TT wi :=
 .ite (a.1 == b.1)
 (.tt <| .tt <| .ite (len a.2.1 != len b.2.1)
 (.ok ((false, ())))
 (.loop 0 (.tt <| .xC (xJ (0 : Int) (len a.2.1) a.2.1 b.2.1 <| (xK (33 : FuncId) <| True ∧ True) ∧ True) <| .xC (xB (xF 49 b.1 b.2.1) <| xB (xF 49 a.1 a.2.1) True) <| .ok ((0, ()))) (aoW a b)))
 (.ok ((false, ())))
end
end Go.Vs
