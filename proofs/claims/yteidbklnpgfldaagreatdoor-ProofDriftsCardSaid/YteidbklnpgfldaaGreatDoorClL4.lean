/-
  Trees of what the functions compute, and their laws. Own work; no condition.
-/
import Derived.Test.YteidbklnpgfldaaGreatDoorClL3
import Derived.Test.YteidbklnpgfldaaGreatDoorProg
set_option linter.unusedVariables false
set_option linter.unusedSimpArgs false
set_option maxRecDepth 100000
namespace Go.Vs
open Go Go.Vg Go.Proofs
noncomputable section
abbrev qa0 (first : List PtT) (second : List PtT) (y : Bool × Unit) : Prop := Qq (LoopState.exhausted : LoopState) ∧ Qq (none : Option Code) ∧ Qq 142 ∧ Qq (#[28, 29] : Array Tmp) ∧ Qq (aqQ (agU Tryz.f10) [1, 1, 1, 1, 0, 1, 0, 0]) ∧ Qq (aqQ (agU Tryz.f10) [1, 1, 1, 1, 0, 1, 0, 1]) ∧ (Qq (42 : FuncId) ∧ True ∧ (Qq 13 ∧ Qq 0 ∧ Qq true) ∧ (Qq 12 ∧ Qq 0 ∧ Qq true) ∧ True) ∧ Qq second ∧ Qq first ∧ (Qq 9 ∧ Qq 0 ∧ Qq true) ∧ (Qq 8 ∧ Qq 0 ∧ Qq true) ∧ (Qq 7 ∧ Qq 0 ∧ Qq true) ∧ Qq y.1 ∧ Qq second ∧ Qq first ∧ Qq (0 : Int) ∧ (Qq 2 ∧ Qq 0 ∧ Qq true) ∧ (Qq 1 ∧ Qq 0 ∧ Qq true) ∧ (Qq 0 ∧ Qq 0 ∧ Qq true) ∧ Qq first ∧ Qq second ∧ True
abbrev qa1  : Prop := Qq (50 : TypeId) ∧ Qq (0 : Int) ∧ Qq ([] : List UInt8) ∧ Qq ([] : List UInt8) ∧ Qq ([] : List UInt8) ∧ Qq ([] : List UInt8) ∧ Qq ([] : List UInt8) ∧ Qq ([] : List UInt8) ∧ Qq ([] : List UInt8) ∧ Qq ([] : List UInt8) ∧ Qq ([] : List UInt8) ∧ Qq ([] : List UInt8) ∧ Qq (0 : Int) ∧ True
abbrev qa2 (first : List PtT) (second : List PtT) (y : Bool × Unit) : Prop := Qq (LoopState.ready : LoopState) ∧ Qq (none : Option Code) ∧ Qq 142 ∧ Qq (#[28, 29] : Array Tmp) ∧ Qq (aqQ (agU Tryz.f10) [1, 1, 1, 1, 0, 1, 0, 0]) ∧ Qq (aqQ (agU Tryz.f10) [1, 1, 1, 1, 0, 1, 0, 1]) ∧ (Qq (42 : FuncId) ∧ True ∧ (Qq 13 ∧ Qq 0 ∧ Qq true) ∧ (Qq 12 ∧ Qq 0 ∧ Qq true) ∧ True) ∧ Qq second ∧ Qq first ∧ (Qq 9 ∧ Qq 0 ∧ Qq true) ∧ (Qq 8 ∧ Qq 0 ∧ Qq true) ∧ (Qq 7 ∧ Qq 0 ∧ Qq true) ∧ Qq y.1 ∧ Qq second ∧ Qq first ∧ Qq (0 : Int) ∧ (Qq 2 ∧ Qq 0 ∧ Qq true) ∧ (Qq 1 ∧ Qq 0 ∧ Qq true) ∧ (Qq 0 ∧ Qq 0 ∧ Qq true) ∧ Qq first ∧ Qq second ∧ True
abbrev qa3 (i1 : Int × Bool × (List (List Int) × List Int × List Int × Unit) × Unit) : Prop := Qq (33 : TypeId) ∧ (Qq 29 ∧ Qq 0 ∧ Qq (List.length i1.2.2.1.2.2.1) ∧ Qq true) ∧ True
abbrev qa4 (i1 : Int × Bool × (List (List Int) × List Int × List Int × Unit) × Unit) : Prop := Qq (33 : TypeId) ∧ (Qq 28 ∧ Qq 0 ∧ Qq (List.length i1.2.2.1.2.1) ∧ Qq true) ∧ True
abbrev qa5 (i1 : Int × Bool × (List (List Int) × List Int × List Int × Unit) × Unit) : Prop := Qq (68 : TypeId) ∧ (Qq 27 ∧ Qq 0 ∧ Qq (List.length i1.2.2.1.1) ∧ Qq true) ∧ True
abbrev qa6 (i1 : Int × Bool × (List (List Int) × List Int × List Int × Unit) × Unit) (y1 : Int × Int × Unit) : Prop := Qq (50 : TypeId) ∧ Qq (len i1.2.2.1.2.2.1) ∧ Qq ((List.headD zF3 ([], [], ())).1 : List UInt8) ∧ Qq ((List.headD zF3 ([], [], ())).2.1 : List UInt8) ∧ Qq ((List.headD (List.tail zF3) ([], [], ())).1 : List UInt8) ∧ Qq ((List.headD (List.tail zF3) ([], [], ())).2.1 : List UInt8) ∧ Qq ((List.headD (List.tail (List.tail zF3)) ([], [], ())).1 : List UInt8) ∧ Qq ((List.headD (List.tail (List.tail zF3)) ([], [], ())).2.1 : List UInt8) ∧ Qq ([] : List UInt8) ∧ Qq ([] : List UInt8) ∧ Qq ([] : List UInt8) ∧ Qq ([] : List UInt8) ∧ Qq (List.getD i1.2.2.1.2.2.1 (0 + Int.toNat y1.2.1) 0) ∧ True
abbrev qa7 (i1 : Int × Bool × (List (List Int) × List Int × List Int × Unit) × Unit) (y1 : Int × Int × Unit) (y2 : (List UInt8 × List UInt8 × Unit) × Int × Unit) : Prop := Qq (50 : TypeId) ∧ Qq (len i1.2.2.1.2.2.1) ∧ Qq y2.1.1 ∧ Qq y2.1.2.1 ∧ Qq ((List.headD (List.tail zF3) ([], [], ())).1 : List UInt8) ∧ Qq ((List.headD (List.tail zF3) ([], [], ())).2.1 : List UInt8) ∧ Qq ((List.headD (List.tail (List.tail zF3)) ([], [], ())).1 : List UInt8) ∧ Qq ((List.headD (List.tail (List.tail zF3)) ([], [], ())).2.1 : List UInt8) ∧ Qq ([] : List UInt8) ∧ Qq ([] : List UInt8) ∧ Qq ([] : List UInt8) ∧ Qq ([] : List UInt8) ∧ Qq (List.getD i1.2.2.1.2.2.1 (0 + Int.toNat y1.2.1) 0) ∧ True
abbrev qa8 (i1 : Int × Bool × (List (List Int) × List Int × List Int × Unit) × Unit) (y1 : Int × Int × Unit) (y2 : (List UInt8 × List UInt8 × Unit) × Int × Unit) (y3 : (List UInt8 × List UInt8 × Unit) × Int × Unit) : Prop := Qq (50 : TypeId) ∧ Qq (len i1.2.2.1.2.2.1) ∧ Qq y2.1.1 ∧ Qq y2.1.2.1 ∧ Qq y3.1.1 ∧ Qq y3.1.2.1 ∧ Qq ((List.headD (List.tail (List.tail zF3)) ([], [], ())).1 : List UInt8) ∧ Qq ((List.headD (List.tail (List.tail zF3)) ([], [], ())).2.1 : List UInt8) ∧ Qq ([] : List UInt8) ∧ Qq ([] : List UInt8) ∧ Qq ([] : List UInt8) ∧ Qq ([] : List UInt8) ∧ Qq (List.getD i1.2.2.1.2.2.1 (0 + Int.toNat y1.2.1) 0) ∧ True
abbrev qa9 (i1 : Int × Bool × (List (List Int) × List Int × List Int × Unit) × Unit) (y1 : Int × Int × Unit) (y2 : (List UInt8 × List UInt8 × Unit) × Int × Unit) (y3 : (List UInt8 × List UInt8 × Unit) × Int × Unit) (y4 : (List UInt8 × List UInt8 × Unit) × Int × Unit) : Prop := Qq (50 : TypeId) ∧ Qq (len i1.2.2.1.2.2.1) ∧ Qq y2.1.1 ∧ Qq y2.1.2.1 ∧ Qq y3.1.1 ∧ Qq y3.1.2.1 ∧ Qq y4.1.1 ∧ Qq y4.1.2.1 ∧ Qq ([] : List UInt8) ∧ Qq ([] : List UInt8) ∧ Qq ([] : List UInt8) ∧ Qq ([] : List UInt8) ∧ Qq (List.getD i1.2.2.1.2.2.1 (0 + Int.toNat y1.2.1) 0) ∧ True
def aEP : LTab := [(42, 42, 23555, ⟨0, (Int) × (List vN) × Unit, .dat (.s 14) vC <| .dict 18 (KK.str) vC <| .nil, [13, 12, 4, 0, 2], [18, 17, 13, 12, 9, 8, 7, 2, 1, 0], 0⟩), (42, 94, 27651, ⟨1, (Int) × Bool × ((List (List Int)) × (List Int) × (List Int) × Unit) × Unit, .dat (.s 26) vC <| .nilG [(.c 9 0), (.c 8 0), (.c 7 0)] (.app (.c 9 0) 27 34 (Ty.arr 3 vC) <| .app (.c 8 0) 28 3 vC <| .app (.c 7 0) 29 3 vC <| .nil) <| .nil, [25, 24, 4, 0], [18, 17, 13, 12, 9, 8, 7, 2, 1, 0], 3⟩), (27, 58, 63488, ⟨2, (Int) × (Int) × Unit, .dat (.s 10) vC <| .dat (.s 5) vC <| .nil, [9, 8, 4, 1], [54, 49, 29, 28, 27, 18, 17, 13, 12, 9, 8, 7, 2, 1, 0], 0⟩), (27, 58, 83968, ⟨3, (Int) × (Int) × Unit, .dat (.s 10) vC <| .dat (.s 5) vC <| .nil, [9, 8, 4, 1], [74, 54, 49, 29, 28, 27, 18, 17, 13, 12, 9, 8, 7, 2, 1, 0], 0⟩), (27, 58, 104448, ⟨4, (Int) × (Int) × Unit, .dat (.s 10) vC <| .dat (.s 5) vC <| .nil, [9, 8, 4, 1], [94, 74, 54, 49, 29, 28, 27, 18, 17, 13, 12, 9, 8, 7, 2, 1, 0], 0⟩), (30, 58, 121856, ⟨5, (Int) × (Int) × Unit, .dat (.s 10) vC <| .dat (.s 5) vC <| .nil, [9, 8, 4, 1], [94, 74, 54, 49, 29, 28, 27, 18, 17, 13, 12, 9, 8, 7, 2, 1, 0], 0⟩), (5, 4010922, 888888888, uS), (10, 16042, 888888888, uS), (10, 16378, 888888888, uS), (11, 260682, 888888888, uS), (1000017, 106, 888888888, uS), (10, 4192870, 777777777, uS)]
def ah7 (first : List PtT) (second : List PtT) (y : Bool × Unit) (i : Int × List vN × Unit) (i1 : Int × Bool × uh × Unit) (y1 : Int × Int × Unit) (i2 : Int × Int × Unit) (y2 : vD × Int × Unit) (i3 : Int × Int × Unit) (y3 : vD × Int × Unit) (i4 : Int × Int × Unit) (y4 : vD × Int × Unit) (i5 : (Int) × (Int) × Unit) : TT (vJ ⊕ (vJ ⊕ (vJ ⊕ (vJ ⊕ vE)))) :=
 .ite (decide (i5.1 < len i1.2.2.1.2.1))
 (.need (inb i5.1 (len i1.2.2.1.2.1)) <| .tt <| .tt <| .tt <| .lt (w64 (i5.1 + 1) : Int) fun z17 => .lt (w64 (i5.2.1 + List.getD i1.2.2.1.2.1 (0 + Int.toNat i5.1) 0) : Int) fun z18 => .wV (ve z18 z17 (len i1.2.2.1.2.1) <| (vo 28 0 (List.length i1.2.2.1.2.1) true) ∧ (wY (0 : Int) <| (wY (31 : FuncId) <| True ∧ True) ∧ True)) <| .wV (wU (vu 3 (w64 (w64 (0 + 1) + 1))) <| wU (vu 3 (w64 (0 + 1))) <| wU ul <| wU (qa9 i1 y1 y2 y3 y4) <| wU (vq 3 i1.2.2.1.2.2.1) <| wU (vq 3 i1.2.2.1.2.1) <| wU (vq 34 i1.2.2.1.1) <| wU (vq (KK.str : KK) i.2.1) <| wU (qa0 first second y) <| wU (vu 29 second) <| wU (vu 29 first) <| wU (qa5 i1) <| wU (qa4 i1) <| wU (qa3 i1) <| wU (qa1) <| wU (vu 29 second) <| wU (vu 29 first) True) <| .ok (.inl ((z17, z18, ()))))
 (.call (ahY (i5.2.1, w64 (w64 (len i1.2.2.1.2.2.1 * 100) * 100), ())) Df2 fun y5 =>
 .ite (y5.2.1 != 0)
 (.ok (.inr (.inr (.inr (.inr (.inr (.inr ((zSh, y5.2.1, ())))))))))
 (.call (ahY (y1.1, 10000, ())) Df2 fun y6 =>
 .ite (y6.2.1 != 0)
 (.ok (.inr (.inr (.inr (.inr (.inr (.inr ((zSh, y6.2.1, ())))))))))
 (.ok (.inr (.inr (.inr (.inr (.inr (.inr (((len i1.2.2.1.2.2.1, (u3 (t3 y2.1 y3.1 y4.1)), (y5.1.1, y5.1.2.1, ()), (y6.1.1, y6.1.2.1, ()), List.getD i1.2.2.1.2.2.1 (0 + Int.toNat y1.2.1) 0, ()), 0, ())))))))))))
def ah8 (first : List PtT) (second : List PtT) (y : Bool × Unit) (i : Int × List vN × Unit) (i1 : Int × Bool × uh × Unit) (y1 : Int × Int × Unit) (i2 : Int × Int × Unit) (y2 : vD × Int × Unit) (i3 : Int × Int × Unit) (y3 : vD × Int × Unit) (i4 : (Int) × (Int) × Unit) : TT (vJ ⊕ (vJ ⊕ (vJ ⊕ vE))) :=
 .ite (decide (i4.1 < len i1.2.2.1.1))
 (.need (inb i4.1 (len i1.2.2.1.1)) <| .tt <| .tt <| .triv (inb (w64 (w64 (0 + 1) + 1)) (↑3 : Int)) zc <| .tt <| .lt (w64 (i4.1 + 1) : Int) fun z15 => .lt (w64 (i4.2.1 + List.headD (List.tail (List.tail (l3 (List.getD i1.2.2.1.1 (0 + Int.toNat i4.1) (List.replicate 3 0))))) 0) : Int) fun z16 => .wV (ve z16 z15 (len i1.2.2.1.1) <| (vo 27 0 (List.length i1.2.2.1.1) true) ∧ (wY (0 : Int) <| (wY (28 : FuncId) <| True ∧ (wX 94 0 true) ∧ True) ∧ True)) <| .wV (wU (vu 3 (w64 (w64 (0 + 1) + 1))) <| wU (vu 3 (w64 (0 + 1))) <| wU ul <| wU (qa8 i1 y1 y2 y3) <| wU (vq 3 i1.2.2.1.2.2.1) <| wU (vq 3 i1.2.2.1.2.1) <| wU (vq 34 i1.2.2.1.1) <| wU (vq (KK.str : KK) i.2.1) <| wU (qa0 first second y) <| wU (vu 29 second) <| wU (vu 29 first) <| wU (qa5 i1) <| wU (qa4 i1) <| wU (qa3 i1) <| wU (qa1) <| wU (vu 29 second) <| wU (vu 29 first) True) <| .ok (.inl ((z15, z16, ()))))
 (.triv (acC (AV.d vC (asT Int (w64 (w64 (0 + 1) + 1)))) (AV.d vC (asT Int (w64 (w64 (0 + 1) + 1))))) rfl <| .triv (acC (AV.d vC (asT Int i4.2.1)) (AV.d vC (asT Int i4.2.1))) rfl <| .triv (acC (AV.d vC (asT Int (len i1.2.2.1.2.2.1))) (AV.d vC (asT Int (len i1.2.2.1.2.2.1)))) rfl <| .triv (acC (AV.d vC (asT Int (w64 (len i1.2.2.1.2.2.1 * 100)))) (AV.d vC (asT Int (w64 (len i1.2.2.1.2.2.1 * 100))))) rfl <| .call (ahY (i4.2.1, w64 (len i1.2.2.1.2.2.1 * 100), ())) Df2 fun y4 =>
 .triv (inb (w64 (w64 (0 + 1) + 1)) (↑3 : Int)) zc <| .triv (acC (AV.d vC (asT Int (w64 (w64 (0 + 1) + 1)))) (AV.d vC (asT Int (w64 (w64 (0 + 1) + 1))))) rfl <| .triv (acC (AV.tup [AV.d vG (asT vD y4.1), AV.d vC (asT Int y4.2.1)]) (AV.tup [AV.d vG (asT vD y4.1), AV.d vC (asT Int y4.2.1)])) rfl <| .triv (acC (AV.d vG (asT vD y4.1)) (AV.d vG (asT vD y4.1))) rfl <| .triv (acC (AV.d vC (asT Int y4.2.1)) (AV.d vC (asT Int y4.2.1))) rfl <| .triv (inb (w64 (w64 (0 + 1) + 1)) (↑3 : Int)) zc <| .triv (acC (AV.d vC (asT Int y4.2.1)) (AV.d vC (asT Int y4.2.1))) rfl <| .ite (y4.2.1 != 0)
 (.ok (.inr (.inr (.inr (.inr (.inr ((zSh, y4.2.1, ()))))))))
 (.tt <| .tt <| .loop 5 (.tt <| .wV (ve (0 : Int) (0 : Int) (len i1.2.2.1.2.1) <| (vo 28 0 (List.length i1.2.2.1.2.1) true) ∧ (wY (0 : Int) <| (wY (31 : FuncId) <| True ∧ True) ∧ True)) <| .wV (wU (vu 3 (w64 (w64 (0 + 1) + 1))) <| wU (vu 3 (w64 (0 + 1))) <| wU ul <| wU (qa9 i1 y1 y2 y3 y4) <| wU (vq 3 i1.2.2.1.2.2.1) <| wU (vq 3 i1.2.2.1.2.1) <| wU (vq 34 i1.2.2.1.1) <| wU (vq (KK.str : KK) i.2.1) <| wU (qa0 first second y) <| wU (vu 29 second) <| wU (vu 29 first) <| wU (qa5 i1) <| wU (qa4 i1) <| wU (qa3 i1) <| wU (qa1) <| wU (vu 29 second) <| wU (vu 29 first) True) <| .ok ((0, 0, ()))) (ah7 first second y i i1 y1 i2 y2 i3 y3 i4 y4)))
def ah9 (first : List PtT) (second : List PtT) (y : Bool × Unit) (i : Int × List vN × Unit) (i1 : Int × Bool × uh × Unit) (y1 : Int × Int × Unit) (i2 : Int × Int × Unit) (y2 : vD × Int × Unit) (i3 : (Int) × (Int) × Unit) : TT (vJ ⊕ (vJ ⊕ vE)) :=
 .ite (decide (i3.1 < len i1.2.2.1.1))
 (.need (inb i3.1 (len i1.2.2.1.1)) <| .tt <| .tt <| .triv (inb (w64 (0 + 1)) (↑3 : Int)) zc <| .tt <| .lt (w64 (i3.1 + 1) : Int) fun z13 => .lt (w64 (i3.2.1 + List.headD (List.tail (l3 (List.getD i1.2.2.1.1 (0 + Int.toNat i3.1) (List.replicate 3 0)))) 0) : Int) fun z14 => .wV (ve z14 z13 (len i1.2.2.1.1) <| (vo 27 0 (List.length i1.2.2.1.1) true) ∧ (wY (0 : Int) <| (wY (28 : FuncId) <| True ∧ (wX 74 0 true) ∧ True) ∧ True)) <| .wV (wU (vu 3 (w64 (0 + 1))) <| wU ul <| wU (qa7 i1 y1 y2) <| wU (vq 3 i1.2.2.1.2.2.1) <| wU (vq 3 i1.2.2.1.2.1) <| wU (vq 34 i1.2.2.1.1) <| wU (vq (KK.str : KK) i.2.1) <| wU (qa0 first second y) <| wU (vu 29 second) <| wU (vu 29 first) <| wU (qa5 i1) <| wU (qa4 i1) <| wU (qa3 i1) <| wU (qa1) <| wU (vu 29 second) <| wU (vu 29 first) True) <| .ok (.inl ((z13, z14, ()))))
 (.triv (acC (AV.d vC (asT Int (w64 (0 + 1)))) (AV.d vC (asT Int (w64 (0 + 1))))) rfl <| .triv (acC (AV.d vC (asT Int i3.2.1)) (AV.d vC (asT Int i3.2.1))) rfl <| .triv (acC (AV.d vC (asT Int (len i1.2.2.1.2.2.1))) (AV.d vC (asT Int (len i1.2.2.1.2.2.1)))) rfl <| .triv (acC (AV.d vC (asT Int (w64 (len i1.2.2.1.2.2.1 * 100)))) (AV.d vC (asT Int (w64 (len i1.2.2.1.2.2.1 * 100))))) rfl <| .call (ahY (i3.2.1, w64 (len i1.2.2.1.2.2.1 * 100), ())) Df2 fun y3 =>
 .triv (inb (w64 (0 + 1)) (↑3 : Int)) zc <| .triv (acC (AV.d vC (asT Int (w64 (0 + 1)))) (AV.d vC (asT Int (w64 (0 + 1))))) rfl <| .triv (acC (AV.tup [AV.d vG (asT vD y3.1), AV.d vC (asT Int y3.2.1)]) (AV.tup [AV.d vG (asT vD y3.1), AV.d vC (asT Int y3.2.1)])) rfl <| .triv (acC (AV.d vG (asT vD y3.1)) (AV.d vG (asT vD y3.1))) rfl <| .triv (acC (AV.d vC (asT Int y3.2.1)) (AV.d vC (asT Int y3.2.1))) rfl <| .triv (inb (w64 (0 + 1)) (↑3 : Int)) zc <| .triv (acC (AV.d vC (asT Int y3.2.1)) (AV.d vC (asT Int y3.2.1))) rfl <| .ite (y3.2.1 != 0)
 (.ok (.inr (.inr (.inr (.inr ((zSh, y3.2.1, ())))))))
 (.tt <| .tt <| .loop 4 (.tt <| .wV (ve (0 : Int) (0 : Int) (len i1.2.2.1.1) <| (vo 27 0 (List.length i1.2.2.1.1) true) ∧ (wY (0 : Int) <| (wY (28 : FuncId) <| True ∧ (wX 94 0 true) ∧ True) ∧ True)) <| .wV (wU (vu 3 (w64 (w64 (0 + 1) + 1))) <| wU (vu 3 (w64 (0 + 1))) <| wU ul <| wU (qa8 i1 y1 y2 y3) <| wU (vq 3 i1.2.2.1.2.2.1) <| wU (vq 3 i1.2.2.1.2.1) <| wU (vq 34 i1.2.2.1.1) <| wU (vq (KK.str : KK) i.2.1) <| wU (qa0 first second y) <| wU (vu 29 second) <| wU (vu 29 first) <| wU (qa5 i1) <| wU (qa4 i1) <| wU (qa3 i1) <| wU (qa1) <| wU (vu 29 second) <| wU (vu 29 first) True) <| .ok ((0, 0, ()))) (ah8 first second y i i1 y1 i2 y2 i3 y3)))
def aiA (first : List PtT) (second : List PtT) (y : Bool × Unit) (i : Int × List vN × Unit) (i1 : Int × Bool × uh × Unit) (y1 : Int × Int × Unit) (i2 : (Int) × (Int) × Unit) : TT (vJ ⊕ vE) :=
 .ite (decide (i2.1 < len i1.2.2.1.1))
 (.need (inb i2.1 (len i1.2.2.1.1)) <| .tt <| .tt <| .triv (asT Int 0 ≤ 0 ∧ 0 < (↑3 : Int)) zc <| .tt <| .lt (w64 (i2.1 + 1) : Int) fun z11 => .lt (w64 (i2.2.1 + List.headD (l3 (List.getD i1.2.2.1.1 (0 + Int.toNat i2.1) (List.replicate 3 0))) 0) : Int) fun z12 => .wV (ve z12 z11 (len i1.2.2.1.1) <| (vo 27 0 (List.length i1.2.2.1.1) true) ∧ (wY (0 : Int) <| (wY (28 : FuncId) <| True ∧ (wX 54 0 true) ∧ True) ∧ True)) <| .wV (wU ul <| wU (qa6 i1 y1) <| wU (vq 3 i1.2.2.1.2.2.1) <| wU (vq 3 i1.2.2.1.2.1) <| wU (vq 34 i1.2.2.1.1) <| wU (vq (KK.str : KK) i.2.1) <| wU (qa0 first second y) <| wU (vu 29 second) <| wU (vu 29 first) <| wU (qa5 i1) <| wU (qa4 i1) <| wU (qa3 i1) <| wU (qa1) <| wU (vu 29 second) <| wU (vu 29 first) True) <| .ok (.inl ((z11, z12, ()))))
 (.triv (acC (AV.d vC (asT Int 0)) (AV.d vC (asT Int 0))) rfl <| .triv (acC (AV.d vC (asT Int i2.2.1)) (AV.d vC (asT Int i2.2.1))) rfl <| .triv (acC (AV.d vC (asT Int (len i1.2.2.1.2.2.1))) (AV.d vC (asT Int (len i1.2.2.1.2.2.1)))) rfl <| .triv (acC (AV.d vC (asT Int (w64 (len i1.2.2.1.2.2.1 * 100)))) (AV.d vC (asT Int (w64 (len i1.2.2.1.2.2.1 * 100))))) rfl <| .call (ahY (i2.2.1, w64 (len i1.2.2.1.2.2.1 * 100), ())) Df2 fun y2 =>
 .triv (asT Int 0 ≤ 0 ∧ 0 < (↑3 : Int)) zc <| .triv (acC (AV.d vC (asT Int 0)) (AV.d vC (asT Int 0))) rfl <| .triv (acC (AV.tup [AV.d vG (asT vD y2.1), AV.d vC (asT Int y2.2.1)]) (AV.tup [AV.d vG (asT vD y2.1), AV.d vC (asT Int y2.2.1)])) rfl <| .triv (acC (AV.d vG (asT vD y2.1)) (AV.d vG (asT vD y2.1))) rfl <| .triv (acC (AV.d vC (asT Int y2.2.1)) (AV.d vC (asT Int y2.2.1))) rfl <| .triv (asT Int 0 ≤ 0 ∧ 0 < (↑3 : Int)) zc <| .triv (acC (AV.d vC (asT Int y2.2.1)) (AV.d vC (asT Int y2.2.1))) rfl <| .ite (y2.2.1 != 0)
 (.ok (.inr (.inr (.inr ((zSh, y2.2.1, ()))))))
 (.tt <| .tt <| .loop 3 (.tt <| .wV (ve (0 : Int) (0 : Int) (len i1.2.2.1.1) <| (vo 27 0 (List.length i1.2.2.1.1) true) ∧ (wY (0 : Int) <| (wY (28 : FuncId) <| True ∧ (wX 74 0 true) ∧ True) ∧ True)) <| .wV (wU (vu 3 (w64 (0 + 1))) <| wU ul <| wU (qa7 i1 y1 y2) <| wU (vq 3 i1.2.2.1.2.2.1) <| wU (vq 3 i1.2.2.1.2.1) <| wU (vq 34 i1.2.2.1.1) <| wU (vq (KK.str : KK) i.2.1) <| wU (qa0 first second y) <| wU (vu 29 second) <| wU (vu 29 first) <| wU (qa5 i1) <| wU (qa4 i1) <| wU (qa3 i1) <| wU (qa1) <| wU (vu 29 second) <| wU (vu 29 first) True) <| .ok ((0, 0, ()))) (ah9 first second y i i1 y1 i2 y2)))
def aiB (first : List PtT) (second : List PtT) (y : Bool × Unit) (i : Int × List (List UInt8 × Int) × Unit) (i1 : (Int) × Bool × ((List (List Int)) × (List Int) × (List Int) × Unit) × Unit) : TT vE :=
 .ite (i1.2.1)
 (.ite (decide (i1.1 < len first))
 (.need (inb i1.1 (len first)) <| .ite (ayW KK.str (kP first i1.1) i.2.1)
 (.need (inb (apU KK.str 0 (kP first i1.1) i.2.1) (len second)) <| .triv (asT Int 0 ≤ 0 ∧ 0 < (↑3 : Int)) zc <| .need (inb i1.1 (len first)) <| .triv (asT Int 0 ≤ 0 ∧ 0 < (↑3 : Int)) zc <| .triv (asT Int 0 ≤ 0 ∧ 0 < (↑3 : Int)) zc <| .need (inb (apU KK.str 0 (kP first i1.1) i.2.1) (len second)) <| .triv (inb (w64 (0 + 1)) (↑3 : Int)) zc <| .need (inb i1.1 (len first)) <| .triv (inb (w64 (0 + 1)) (↑3 : Int)) zc <| .triv (inb (w64 (0 + 1)) (↑3 : Int)) zc <| .need (inb (apU KK.str 0 (kP first i1.1) i.2.1) (len second)) <| .triv (inb (w64 (w64 (0 + 1) + 1)) (↑3 : Int)) zc <| .need (inb i1.1 (len first)) <| .triv (inb (w64 (w64 (0 + 1) + 1)) (↑3 : Int)) zc <| .triv (inb (w64 (w64 (0 + 1) + 1)) (↑3 : Int)) zc <| .need (1 * 8 ≤ 140737488355328) <| .need (1 * 24 ≤ 140737488355328) <| .triv (asT Int 0 ≤ 0 ∧ 0 < (↑3 : Int)) zc <| .triv (asT Int 0 ≤ 0 ∧ 0 < (↑3 : Int)) zc <| .triv (asT Int 0 ≤ 1 ∧ 1 < (↑3 : Int)) zc <| .triv (asT Int 0 ≤ 1 ∧ 1 < (↑3 : Int)) zc <| .triv (asT Int 0 ≤ 2 ∧ 2 < (↑3 : Int)) zc <| .triv (asT Int 0 ≤ 2 ∧ 2 < (↑3 : Int)) zc <| .need (1 * 8 ≤ 140737488355328) <| .tt <| .lt (w64 (i1.1 + 1) : Int) fun z3 => .lt (([[List.headD (dL first second i.2.1 i1.1) 0, List.headD (List.tail (dL first second i.2.1 i1.1)) 0, List.headD (List.tail (List.tail (dL first second i.2.1 i1.1))) 0]], [w64 (w64 (w64 (dP first second i.2.1 i1.1 0 * dP first second i.2.1 i1.1 0) + w64 (dP first second i.2.1 i1.1 (w64 (0 + 1)) * dP first second i.2.1 i1.1 (w64 (0 + 1)))) + w64 (dP first second i.2.1 i1.1 (w64 (w64 (0 + 1) + 1)) * dP first second i.2.1 i1.1 (w64 (w64 (0 + 1) + 1))))], [i1.1], ()) : List (List Int) × List Int × List Int × Unit) fun z4 => .wV (ve z3 (len first) first <| uG ∧ uH ∧ True) <| .wV (wU (vq 3 ([i1.1] : List Int)) <| wU (vq 3 ([w64 (w64 (w64 (dP first second i.2.1 i1.1 0 * dP first second i.2.1 i1.1 0) + w64 (dP first second i.2.1 i1.1 (w64 (0 + 1)) * dP first second i.2.1 i1.1 (w64 (0 + 1)))) + w64 (dP first second i.2.1 i1.1 (w64 (w64 (0 + 1) + 1)) * dP first second i.2.1 i1.1 (w64 (w64 (0 + 1) + 1))))] : List Int)) <| wU (vq 34 ([[List.headD (dL first second i.2.1 i1.1) 0, List.headD (List.tail (dL first second i.2.1 i1.1)) 0, List.headD (List.tail (List.tail (dL first second i.2.1 i1.1))) 0]] : List (List Int))) <| wU (vq (KK.str : KK) i.2.1) <| wU (qa2 first second y) <| wU (vu 29 second) <| wU (vu 29 first) <| wU (wY 68 <| (vo 27 0 1 true) ∧ True) <| wU (wY 33 <| (vo 28 0 1 true) ∧ True) <| wU (wY 33 <| (vo 29 0 1 true) ∧ True) <| wU (qa1) <| wU (vu 29 second) <| wU (vu 29 first) True) <| .ok (.inl ((z3, false, z4, ()))))
 (.tt <| .lt (w64 (i1.1 + 1) : Int) fun z5 => .lt (([], [], [], ()) : List (List Int) × List Int × List Int × Unit) fun z6 => .wV (ve z5 (len first) first <| uG ∧ uH ∧ True) <| .wV (wU (vq (KK.str : KK) i.2.1) <| wU (qa2 first second y) <| wU (vu 29 second) <| wU (vu 29 first) <| wU uA <| wU ud <| wU ud <| wU (qa1) <| wU (vu 29 second) <| wU (vu 29 first) True) <| .ok (.inl ((z5, true, z6, ())))))
 (.ok (.inr (.inr ((zSh, 4, ()))))))
 (.ite (decide (i1.1 < len first))
 (.need (inb i1.1 (len first)) <| .ite (ayW KK.str (kP first i1.1) i.2.1)
 (.need (inb (apU KK.str 0 (kP first i1.1) i.2.1) (len second)) <| .triv (asT Int 0 ≤ 0 ∧ 0 < (↑3 : Int)) zc <| .need (inb i1.1 (len first)) <| .triv (asT Int 0 ≤ 0 ∧ 0 < (↑3 : Int)) zc <| .triv (asT Int 0 ≤ 0 ∧ 0 < (↑3 : Int)) zc <| .need (inb (apU KK.str 0 (kP first i1.1) i.2.1) (len second)) <| .triv (inb (w64 (0 + 1)) (↑3 : Int)) zc <| .need (inb i1.1 (len first)) <| .triv (inb (w64 (0 + 1)) (↑3 : Int)) zc <| .triv (inb (w64 (0 + 1)) (↑3 : Int)) zc <| .need (inb (apU KK.str 0 (kP first i1.1) i.2.1) (len second)) <| .triv (inb (w64 (w64 (0 + 1) + 1)) (↑3 : Int)) zc <| .need (inb i1.1 (len first)) <| .triv (inb (w64 (w64 (0 + 1) + 1)) (↑3 : Int)) zc <| .triv (inb (w64 (w64 (0 + 1) + 1)) (↑3 : Int)) zc <| .need ((List.length i1.2.2.1.2.2.1 + 1) * 8 ≤ 140737488355328) <| .need ((List.length i1.2.2.1.1 + 1) * 24 ≤ 140737488355328) <| .triv (asT Int 0 ≤ 0 ∧ 0 < (↑3 : Int)) zc <| .triv (asT Int 0 ≤ 0 ∧ 0 < (↑3 : Int)) zc <| .triv (asT Int 0 ≤ 1 ∧ 1 < (↑3 : Int)) zc <| .triv (asT Int 0 ≤ 1 ∧ 1 < (↑3 : Int)) zc <| .triv (asT Int 0 ≤ 2 ∧ 2 < (↑3 : Int)) zc <| .triv (asT Int 0 ≤ 2 ∧ 2 < (↑3 : Int)) zc <| .need ((List.length i1.2.2.1.2.1 + 1) * 8 ≤ 140737488355328) <| .tt <| .lt (w64 (i1.1 + 1) : Int) fun z7 => .lt ((List.take (List.length i1.2.2.1.1) i1.2.2.1.1 ++ [[List.headD (dL first second i.2.1 i1.1) 0, List.headD (List.tail (dL first second i.2.1 i1.1)) 0, List.headD (List.tail (List.tail (dL first second i.2.1 i1.1))) 0]], List.take (List.length i1.2.2.1.2.1) i1.2.2.1.2.1 ++ [w64 (w64 (w64 (dP first second i.2.1 i1.1 0 * dP first second i.2.1 i1.1 0) + w64 (dP first second i.2.1 i1.1 (w64 (0 + 1)) * dP first second i.2.1 i1.1 (w64 (0 + 1)))) + w64 (dP first second i.2.1 i1.1 (w64 (w64 (0 + 1) + 1)) * dP first second i.2.1 i1.1 (w64 (w64 (0 + 1) + 1))))], List.take (List.length i1.2.2.1.2.2.1) i1.2.2.1.2.2.1 ++ [i1.1], ()) : List (List Int) × List Int × List Int × Unit) fun z8 => .wV (ve z7 (len first) first <| uG ∧ uH ∧ True) <| .need ((((3 : TypeId) = 3) ∧ ((List.take (List.length i1.2.2.1.2.2.1) i1.2.2.1.2.2.1 ++ [i1.1] : List Int) = List.take (List.length i1.2.2.1.2.2.1) i1.2.2.1.2.2.1 ++ [i1.1])) ∧ (true = true) ∧ (((3 : TypeId) = 3) ∧ ((List.take (List.length i1.2.2.1.2.1) i1.2.2.1.2.1 ++ [w64 (w64 (w64 (dP first second i.2.1 i1.1 0 * dP first second i.2.1 i1.1 0) + w64 (dP first second i.2.1 i1.1 (w64 (0 + 1)) * dP first second i.2.1 i1.1 (w64 (0 + 1)))) + w64 (dP first second i.2.1 i1.1 (w64 (w64 (0 + 1) + 1)) * dP first second i.2.1 i1.1 (w64 (w64 (0 + 1) + 1))))] : List Int) = List.take (List.length i1.2.2.1.2.1) i1.2.2.1.2.1 ++ [w64 (w64 (w64 (dP first second i.2.1 i1.1 0 * dP first second i.2.1 i1.1 0) + w64 (dP first second i.2.1 i1.1 (w64 (0 + 1)) * dP first second i.2.1 i1.1 (w64 (0 + 1)))) + w64 (dP first second i.2.1 i1.1 (w64 (w64 (0 + 1) + 1)) * dP first second i.2.1 i1.1 (w64 (w64 (0 + 1) + 1))))])) ∧ (true = true) ∧ (((34 : TypeId) = 34) ∧ ((List.take (List.length i1.2.2.1.1) i1.2.2.1.1 ++ [[List.headD (dL first second i.2.1 i1.1) 0, List.headD (List.tail (dL first second i.2.1 i1.1)) 0, List.headD (List.tail (List.tail (dL first second i.2.1 i1.1))) 0]] : List (List Int)) = List.take (List.length i1.2.2.1.1) i1.2.2.1.1 ++ [[List.headD (dL first second i.2.1 i1.1) 0, List.headD (List.tail (dL first second i.2.1 i1.1)) 0, List.headD (List.tail (List.tail (dL first second i.2.1 i1.1))) 0]])) ∧ (true = true) ∧ (((KK.str : KK) = KK.str) ∧ ((i.2.1 : List vN) = i.2.1)) ∧ (true = true) ∧ (((LoopState.ready : LoopState) = LoopState.ready) ∧ (((none : Option Code) = none) ∧ (((142) = (142)) ∧ (((#[28, 29] : Array Tmp) = #[28, 29]) ∧ (((aqQ (agU Tryz.f10) [1, 1, 1, 1, 0, 1, 0, 0]) = (aqQ (agU Tryz.f10) [1, 1, 1, 1, 0, 1, 0, 0])) ∧ (((aqQ (agU Tryz.f10) [1, 1, 1, 1, 0, 1, 0, 1]) = (aqQ (agU Tryz.f10) [1, 1, 1, 1, 0, 1, 0, 1])) ∧ ((((42 : FuncId) = 42) ∧ (True ∧ ((((13) = (13)) ∧ (((0) = (0)) ∧ ((true) = (true)))) ∧ ((((12) = (12)) ∧ (((0) = (0)) ∧ ((true) = (true)))) ∧ True)))) ∧ (((second) = (second)) ∧ (((first) = (first)) ∧ ((((9) = (9)) ∧ (((0) = (0)) ∧ ((true) = (true)))) ∧ ((((8) = (8)) ∧ (((0) = (0)) ∧ ((true) = (true)))) ∧ ((((7) = (7)) ∧ (((0) = (0)) ∧ ((true) = (true)))) ∧ (((y.1) = (y.1)) ∧ (((second) = (second)) ∧ (((first) = (first)) ∧ (((0 : Int) = 0) ∧ ((((2) = (2)) ∧ (((0) = (0)) ∧ ((true) = (true)))) ∧ ((((1) = (1)) ∧ (((0) = (0)) ∧ ((true) = (true)))) ∧ ((((0) = (0)) ∧ (((0) = (0)) ∧ ((true) = (true)))) ∧ (((first) = (first)) ∧ (((second) = (second)) ∧ True))))))))))))))))))))) ∧ (true = true) ∧ (((29 : TypeId) = 29) ∧ (((second) = (second)) ∧ True)) ∧ (true = true) ∧ (((29 : TypeId) = 29) ∧ (((first) = (first)) ∧ True)) ∧ (true = true) ∧ (((68 : TypeId) = 68) ∧ ((((27) = (27)) ∧ (((0) = (0)) ∧ ((List.length i1.2.2.1.1 + 1 = List.length (List.take (List.length i1.2.2.1.1) i1.2.2.1.1 ++ [[List.headD (dL first second i.2.1 i1.1) 0, List.headD (List.tail (dL first second i.2.1 i1.1)) 0, List.headD (List.tail (List.tail (dL first second i.2.1 i1.1))) 0]])) ∧ ((true) = (true))))) ∧ True)) ∧ (true = true) ∧ (((33 : TypeId) = 33) ∧ ((((28) = (28)) ∧ (((0) = (0)) ∧ ((List.length i1.2.2.1.2.1 + 1 = List.length (List.take (List.length i1.2.2.1.2.1) i1.2.2.1.2.1 ++ [w64 (w64 (w64 (dP first second i.2.1 i1.1 0 * dP first second i.2.1 i1.1 0) + w64 (dP first second i.2.1 i1.1 (w64 (0 + 1)) * dP first second i.2.1 i1.1 (w64 (0 + 1)))) + w64 (dP first second i.2.1 i1.1 (w64 (w64 (0 + 1) + 1)) * dP first second i.2.1 i1.1 (w64 (w64 (0 + 1) + 1))))])) ∧ ((true) = (true))))) ∧ True)) ∧ (true = true) ∧ (((33 : TypeId) = 33) ∧ ((((29) = (29)) ∧ (((0) = (0)) ∧ ((List.length i1.2.2.1.2.2.1 + 1 = List.length (List.take (List.length i1.2.2.1.2.2.1) i1.2.2.1.2.2.1 ++ [i1.1])) ∧ ((true) = (true))))) ∧ True)) ∧ (true = true) ∧ (((50 : TypeId) = 50) ∧ (((0 : Int) = 0) ∧ ((([] : List UInt8) = []) ∧ ((([] : List UInt8) = []) ∧ ((([] : List UInt8) = []) ∧ ((([] : List UInt8) = []) ∧ ((([] : List UInt8) = []) ∧ ((([] : List UInt8) = []) ∧ ((([] : List UInt8) = []) ∧ ((([] : List UInt8) = []) ∧ ((([] : List UInt8) = []) ∧ ((([] : List UInt8) = []) ∧ (((0 : Int) = 0) ∧ True))))))))))))) ∧ (true = true) ∧ (((29 : TypeId) = 29) ∧ (((second) = (second)) ∧ True)) ∧ (true = true) ∧ (((29 : TypeId) = 29) ∧ (((first) = (first)) ∧ True)) ∧ (true = true) ∧ True) <| .ok (.inl ((z7, false, z8, ()))))
 (.tt <| .lt (w64 (i1.1 + 1) : Int) fun z9 => .lt ((i1.2.2.1.1, i1.2.2.1.2.1, i1.2.2.1.2.2.1, ()) : List (List Int) × List Int × List Int × Unit) fun z10 => .wV (ve z9 (len first) first <| uG ∧ uH ∧ True) <| .wV (wU (vq 3 i1.2.2.1.2.2.1) <| wU (vq 3 i1.2.2.1.2.1) <| wU (vq 34 i1.2.2.1.1) <| wU (vq (KK.str : KK) i.2.1) <| wU (qa2 first second y) <| wU (vu 29 second) <| wU (vu 29 first) <| wU (qa5 i1) <| wU (qa4 i1) <| wU (qa3 i1) <| wU (qa1) <| wU (vu 29 second) <| wU (vu 29 first) True) <| .ok (.inl ((z9, false, z10, ())))))
 (.ite (len i1.2.2.1.2.2.1 == 0)
 (.ok (.inr (.inr ((zSh, 4, ())))))
 (.call (afE (List.take (List.length i1.2.2.1.2.1) i1.2.2.1.2.1, ())) Df3 fun y1 =>
 .need (inb y1.2.1 (len i1.2.2.1.2.2.1)) <| .tt <| .tt <| .loop 2 (.tt <| .wV (ve (0 : Int) (0 : Int) (len i1.2.2.1.1) <| (vo 27 0 (List.length i1.2.2.1.1) true) ∧ (wY (0 : Int) <| (wY (28 : FuncId) <| True ∧ (wX 54 0 true) ∧ True) ∧ True)) <| .wV (wU ul <| wU (qa6 i1 y1) <| wU (vq 3 i1.2.2.1.2.2.1) <| wU (vq 3 i1.2.2.1.2.1) <| wU (vq 34 i1.2.2.1.1) <| wU (vq (KK.str : KK) i.2.1) <| wU (qa0 first second y) <| wU (vu 29 second) <| wU (vu 29 first) <| wU (qa5 i1) <| wU (qa4 i1) <| wU (qa3 i1) <| wU (qa1) <| wU (vu 29 second) <| wU (vu 29 first) True) <| .ok ((0, 0, ()))) (aiA first second y i i1 y1))))
def alD (first : List PtT) (second : List PtT) (y : Bool × Unit) (i : (Int) × (List vN) × Unit) : TT (uQ ⊕ vZ) :=
 .ite (decide (i.1 < len second))
 (.need (inb i.1 (len second)) <| .tt <| .lt (w64 (i.1 + 1) : Int) fun z => .lt (aF4 KK.str (kP second i.1) i.1 i.2.1 : List vN) fun z1 => .wV (ve z (len second) second <| uG ∧ uH ∧ (wX 12 0 true) ∧ True) <| .wV (wU (vq (KK.str : KK) z1) <| wU (qa2 first second y) <| wU (vu 29 second) <| wU (vu 29 first) <| wU uA <| wU ud <| wU ud <| wU (qa1) <| wU (vu 29 second) <| wU (vu 29 first) True) <| .ok (.inl ((z, z1, ()))))
 (.loop 1 (.tt <| .lt (([], [], [], ()) : List (List Int) × List Int × List Int × Unit) fun z2 => .wV (ve (0 : Int) (len first) first <| uG ∧ uH ∧ True) <| .wV (wU (vq (KK.str : KK) i.2.1) <| wU (qa2 first second y) <| wU (vu 29 second) <| wU (vu 29 first) <| wU uA <| wU ud <| wU ud <| wU (qa1) <| wU (vu 29 second) <| wU (vu 29 first) True) <| .ok ((0, true, z2, ()))) (aiB first second y i))
def au3 (first : List PtT) (second : List PtT) : TT vZ :=
 .call (ae1 (first, second, ())) Df0 fun y =>
 .ite (y.1)
 (.ok ((zSh, 310, ())))
 (.tt <| .tt <| .tt <| .tt <| .loop 0 (.tt <| .wV (ve (0 : Int) (len second) second <| uG ∧ uH ∧ (wX 12 0 true) ∧ True) <| .wV (wU (vq (KK.str : KK) ([] : List vN)) <| wU (qa2 first second y) <| wU (vu 29 second) <| wU (vu 29 first) <| wU uA <| wU ud <| wU ud <| wU (qa1) <| wU (vu 29 second) <| wU (vu 29 first) True) <| .ok ((0, [], ()))) (alD first second y))
abbrev qb0  : Prop := Qq (50 : TypeId) ∧ Qq (0 : Int) ∧ Qq ([] : List UInt8) ∧ Qq ([] : List UInt8) ∧ Qq ([] : List UInt8) ∧ Qq ([] : List UInt8) ∧ Qq ([] : List UInt8) ∧ Qq ([] : List UInt8) ∧ Qq ([] : List UInt8) ∧ Qq ([] : List UInt8) ∧ Qq ([] : List UInt8) ∧ Qq ([] : List UInt8) ∧ Qq (0 : Int) ∧ True
def aBU : LTab := [(11, 1018, 20480, ⟨0, (Int) × (Int) × (Int) × (Int) × (Int) × (Int) × (Int) × Unit, .dat (.s 12) vC <| .dat (.s 11) vC <| .dat (.s 10) vC <| .dat (.s 9) vC <| .dat (.c 15 0) vC <| .dat (.c 15 1) vC <| .dat (.c 15 2) vC <| .nil, [8, 6, 5, 4, 0, 1], [15, 0], 0⟩), (5, 4010922, 888888888, uS), (10, 16042, 888888888, uS), (10, 16378, 888888888, uS), (11, 260682, 888888888, uS), (1000017, 106, 888888888, uS)]
def agH (first : List PtT) (second : List PtT) (y : List (List Int) × Int × Unit) (i : (Int) × (Int) × (Int) × (Int) × (Int) × (Int) × (Int) × Unit) : TT (((Int) × (Int) × (Int) × (Int) × (Int) × (Int) × (Int) × Unit) ⊕ vZ) :=
 .ite (decide (i.1 < len y.1))
 (.need (inb i.1 (len y.1)) <| .triv (asT Int 0 ≤ 1 ∧ 1 < (↑2 : Int)) zc <| .need (inb (pJ y.1 i.1 1) (len second)) <| .triv (asT Int 0 ≤ 0 ∧ 0 < (↑3 : Int)) zc <| .need (inb i.1 (len y.1)) <| .triv (asT Int 0 ≤ 0 ∧ 0 < (↑2 : Int)) zc <| .need (inb (pJ y.1 i.1 0) (len first)) <| .triv (asT Int 0 ≤ 0 ∧ 0 < (↑3 : Int)) zc <| .triv (asT Int 0 ≤ 0 ∧ 0 < (↑3 : Int)) zc <| .triv (asT Int 0 ≤ 0 ∧ 0 < (↑3 : Int)) zc <| .need (inb i.1 (len y.1)) <| .triv (asT Int 0 ≤ 1 ∧ 1 < (↑2 : Int)) zc <| .need (inb (pJ y.1 i.1 1) (len second)) <| .triv (inb (w64 (0 + 1)) (↑3 : Int)) zc <| .need (inb i.1 (len y.1)) <| .triv (asT Int 0 ≤ 0 ∧ 0 < (↑2 : Int)) zc <| .need (inb (pJ y.1 i.1 0) (len first)) <| .triv (inb (w64 (0 + 1)) (↑3 : Int)) zc <| .triv (inb (w64 (0 + 1)) (↑3 : Int)) zc <| .triv (inb (w64 (0 + 1)) (↑3 : Int)) zc <| .need (inb i.1 (len y.1)) <| .triv (asT Int 0 ≤ 1 ∧ 1 < (↑2 : Int)) zc <| .need (inb (pJ y.1 i.1 1) (len second)) <| .triv (inb (w64 (w64 (0 + 1) + 1)) (↑3 : Int)) zc <| .need (inb i.1 (len y.1)) <| .triv (asT Int 0 ≤ 0 ∧ 0 < (↑2 : Int)) zc <| .need (inb (pJ y.1 i.1 0) (len first)) <| .triv (inb (w64 (w64 (0 + 1) + 1)) (↑3 : Int)) zc <| .triv (inb (w64 (w64 (0 + 1) + 1)) (↑3 : Int)) zc <| .triv (inb (w64 (w64 (0 + 1) + 1)) (↑3 : Int)) zc <| .ite (decide (w64 (w64 (w64 (0 + w64 (eQ first second (pJ y.1 i.1 1) (pJ y.1 i.1 0) 0 * eQ first second (pJ y.1 i.1 1) (pJ y.1 i.1 0) 0)) + w64 (eQ first second (pJ y.1 i.1 1) (pJ y.1 i.1 0) (w64 (0 + 1)) * eQ first second (pJ y.1 i.1 1) (pJ y.1 i.1 0) (w64 (0 + 1)))) + w64 (eQ first second (pJ y.1 i.1 1) (pJ y.1 i.1 0) (w64 (w64 (0 + 1) + 1)) * eQ first second (pJ y.1 i.1 1) (pJ y.1 i.1 0) (w64 (w64 (0 + 1) + 1)))) > i.2.2.1))
 (.need (inb i.1 (len y.1)) <| .triv (asT Int 0 ≤ 0 ∧ 0 < (↑2 : Int)) zc <| .tt <| .lt (w64 (i.1 + 1) : Int) fun z => .lt (pJ y.1 i.1 0 : Int) fun z1 => .lt (w64 (w64 (w64 (0 + w64 (eQ first second (pJ y.1 i.1 1) z1 0 * eQ first second (pJ y.1 i.1 1) z1 0)) + w64 (eQ first second (pJ y.1 i.1 1) z1 (w64 (0 + 1)) * eQ first second (pJ y.1 i.1 1) z1 (w64 (0 + 1)))) + w64 (eQ first second (pJ y.1 i.1 1) z1 (w64 (w64 (0 + 1) + 1)) * eQ first second (pJ y.1 i.1 1) z1 (w64 (w64 (0 + 1) + 1)))) : Int) fun z2 => .lt (w64 (i.2.2.2.1 + z2) : Int) fun z3 => .lt (w64 (i.2.2.2.2.1 + eQ first second (pJ y.1 i.1 1) z1 0) : Int) fun z4 => .lt (w64 (i.2.2.2.2.2.1 + eQ first second (pJ y.1 i.1 1) z1 (w64 (0 + 1))) : Int) fun z5 => .lt (w64 (i.2.2.2.2.2.2.1 + eQ first second (pJ y.1 i.1 1) z1 (w64 (w64 (0 + 1) + 1))) : Int) fun z6 => .wV (wW z3 z2 z1 z <| (wX 15 0 true) ∧ (vt y.1 (0 : Int) <| vM ∧ vu first second)) <| .wV (wU (vh 34 z4 z5 z6) <| wU (qb0) True) <| .ok (.inl ((z, z1, z2, z3, z4, z5, z6, ()))))
 (.tt <| .lt (w64 (i.1 + 1) : Int) fun z7 => .lt (i.2.1 : Int) fun z8 => .lt (i.2.2.1 : Int) fun z9 => .lt (w64 (i.2.2.2.1 + w64 (w64 (w64 (0 + w64 (eQ first second (pJ y.1 i.1 1) (pJ y.1 i.1 0) 0 * eQ first second (pJ y.1 i.1 1) (pJ y.1 i.1 0) 0)) + w64 (eQ first second (pJ y.1 i.1 1) (pJ y.1 i.1 0) (w64 (0 + 1)) * eQ first second (pJ y.1 i.1 1) (pJ y.1 i.1 0) (w64 (0 + 1)))) + w64 (eQ first second (pJ y.1 i.1 1) (pJ y.1 i.1 0) (w64 (w64 (0 + 1) + 1)) * eQ first second (pJ y.1 i.1 1) (pJ y.1 i.1 0) (w64 (w64 (0 + 1) + 1))))) : Int) fun z10 => .lt (w64 (i.2.2.2.2.1 + eQ first second (pJ y.1 i.1 1) (pJ y.1 i.1 0) 0) : Int) fun z11 => .lt (w64 (i.2.2.2.2.2.1 + eQ first second (pJ y.1 i.1 1) (pJ y.1 i.1 0) (w64 (0 + 1))) : Int) fun z12 => .lt (w64 (i.2.2.2.2.2.2.1 + eQ first second (pJ y.1 i.1 1) (pJ y.1 i.1 0) (w64 (w64 (0 + 1) + 1))) : Int) fun z13 => .wV (wW z10 z9 z8 z7 <| (wX 15 0 true) ∧ (vt y.1 (0 : Int) <| vM ∧ vu first second)) <| .wV (wU (vh 34 z11 z12 z13) <| wU (qb0) True) <| .ok (.inl ((z7, z8, z9, z10, z11, z12, z13, ())))))
 (.triv (asT Int 0 ≤ 0 ∧ 0 < (↑3 : Int)) zc <| .call (agX (i.2.2.2.2.1, w64 (100 * len y.1), ())) Df4 fun y1 =>
 .triv (asT Int 0 ≤ 1 ∧ 1 < (↑3 : Int)) zc <| .call (agX (i.2.2.2.2.2.1, w64 (100 * len y.1), ())) Df4 fun y2 =>
 .triv (asT Int 0 ≤ 2 ∧ 2 < (↑3 : Int)) zc <| .call (agX (i.2.2.2.2.2.2.1, w64 (100 * len y.1), ())) Df4 fun y3 =>
 .call (agX (i.2.2.2.1, w64 (10000 * len y.1), ())) Df4 fun y4 =>
 .call (agX (i.2.2.1, 10000, ())) Df4 fun y5 =>
 .ok (.inr (((len y.1, (u3 (u3 (t3 y1.1 y2.1 y3.1))), (y4.1.1, y4.1.2.1, ()), (y5.1.1, y5.1.2.1, ()), i.2.1, ()), 0, ()))))
def aq3 (first : List PtT) (second : List PtT) : TT vZ :=
 .call (af6 (first, second, ())) Df5 fun y =>
 .ite (y.2.1 != 0)
 (.ok ((zSh, y.2.1, ())))
 (.ite (len y.1 == 0)
 (.ok ((zSh, 4, ())))
 (.loop 0 (.tt <| .wV (wW (0 : Int) (-1 : Int) (0 : Int) (0 : Int) <| (wX 15 0 true) ∧ (vt y.1 (0 : Int) <| vM ∧ vu first second)) <| .wV (wU (vh 34 (0 : Int) (0 : Int) (0 : Int)) <| wU (qb0) True) <| .ok ((0, 0, -1, 0, 0, 0, 0, ()))) (agH first second y)))
end
open Go Go.Vg
theorem arL (l : List Int) (y) (h : afE (l, ()) = some y) : (amB l).toO = some y := by
 obtain ⟨h1, rfl⟩ := ae5 h
 dsimp only at h1 ⊢
 refine uO (0, 0, 0, ()) rfl ?_
 refine acO (n := l.length) (fun k => ((k : Int), ((aeU l k).2 : Int), (aeU l k).1, ())) (fun k hk => ?_) ?_
 ·unfold ag1
  refine uT (zm (by rw [aaB]; dsimp only; omega)) (uN (abJ zh (by rw [aaB]; dsimp only; omega)) ?_)
  simp only [aNt 0 0 hk, abC (show k ≤ 1000000 by omega)]
  by_cases h0 : k = 0
  ·subst h0
   exact uT rfl rfl
  ·refine uF (by simpa using h0) ?_
   by_cases c : (aeU l k).1 < l.getD k 0
   ·rw [show aeU l (k + 1) = (l.getD k 0, k) from if_pos (Or.inr c)]
    exact uT (zm c) rfl
   ·rw [show aeU l (k + 1) = aeU l k from if_neg (fun h => h.elim h0 c)]
    exact uF (zk c) rfl
 ·unfold ag1
  exact uF (zk (by rw [aaB]; dsimp only; omega)) rfl
theorem aFZ {l : List Int} (h : l.length ≤ 1000000) : afE (l, ()) = some ((ai6 l).1, ((ai6 l).2 : Int), ()) := if_pos h
theorem aEB (n d : Int) (y) (h : agX (n, d, ()) = some y) : (aDx n d).toO = some y := by
 obtain ⟨hp, rfl⟩ := ae5 h
 exact uC (fx (mkRat n d.toNat), 0, ()) (by unfold atP; exact aSj hp.1 hp.2.1 hp.2.2) rfl
theorem anB {n : Int} {d : Nat} (h : ae4 n) (h1 : 0 < d) (h2 : d ≤ 9223372036854775807) : agX (n, (d : Int), ()) = some (fx (mkRat n d), ()) := if_pos ⟨h, by dsimp only; omega, by dsimp only [ae4]; omega⟩
theorem aIW : ∀ {s t : List Int}, s.length = t.length → eqD.eqL (fun x y => x == y) s t = eqb s t
 | [], [], _ => (ap9 rfl).symm
 | a :: s, b :: t, h => by
  have ih := aIW (s := s) (t := t) (by simpa using h)
  show (match a == b with | true => eqD.eqL (fun x y => x == y) s t | false => false) = _
  rw [ih]
  by_cases c : a = b
  ·subst c
   rw [beq_self_eq_true]
   unfold eqb
   by_cases e : s = t
   ·rw [if_pos e, if_pos (by rw [e])]
   ·rw [if_neg e, if_neg (fun h => e (List.cons.inj h).2)]
  ·rw [beq_eq_false_iff_ne.2 c]
   show false = _
   unfold eqb
   rw [if_neg (fun h => c (List.cons.inj h).1)]
theorem aGk (s t : List (List Int)) (y) (h : aoM (s, t, ()) = some y) : (aBK s t).toO = some y := by
 obtain ⟨⟨h1, h2, h3, h4⟩, rfl⟩ := ae5 h
 dsimp only at h1 h2 h3 h4 ⊢
 unfold aBK
 by_cases c : s.length = t.length
 ·refine uF (by rw [aaB, aaB, c]; simp) (uO (0, ()) rfl ?_)
  refine (aeN (n := s.length) (bad := (false, ())) (good := (true, ())) (fun i => ((i : Int), ())) (fun k => eqb (s.getD k []) (t.getD k [])) (fun k hk _ => ?_) (fun _ => uF (zk (by rw [aaB]; omega)) rfl)).trans ?_
  ·unfold aDp
   have hk2 : k < t.length := zb
   refine uT (zm (by rw [aaB]; omega)) (uN (abJ zb (by rw [aaB]; omega)) (uN (abJ zb (by rw [aaB]; omega)) ?_))
   simp only [aNt _ [] hk, aNt _ [] hk2, abC (show k ≤ 1000000 by omega)]
   have e1 : (s.getD k []).length = 2 := by rw [zP, zx hk]; exact h3 _ (yC hk)
   have e2 : (t.getD k []).length = 2 := by rw [zP, zx hk2]; exact h4 _ (yC hk2)
   rw [aIW (e1.trans e2.symm)]
   cases eqb (s.getD k []) (t.getD k []) with
   | true => exact uF rfl rfl
   | false => exact uT rfl rfl
  ·rw [aOH [] c]
   cases eqb s t <;> rfl
 ·refine uT (by rw [aaB, aaB, yU]; exact fun e => c (by exact_mod_cast e)) ?_
  rw [show eqb s t = false by unfold eqb; rw [if_neg (fun e => c (by rw [e]))]]; rfl
theorem aFl {p : PtT} (h : shP p) {k : Nat} (hk : k < 3) : gi p.2.2.1 (k : Int) 0 = lb p k := by
 unfold lb; rw [aLB h.2.2, aaQ]
theorem aPY {a : List PtT} (h : ah0 a = true) {i : Nat} (hi : i < a.length) : (0 ≤ lb (a.getD i p0) 0 ∧ lb (a.getD i p0) 0 ≤ 10000) ∧ (-12800 ≤ lb (a.getD i p0) 1 ∧ lb (a.getD i p0) 1 ≤ 12700) ∧ (-12800 ≤ lb (a.getD i p0) 2 ∧ lb (a.getD i p0) 2 ≤ 12700) := by
 rw [arP, zl, yq] at h
 have := h.2 i (yn.2 hi)
 unfold okK ptB lbB at this
 simp only [zl, zz] at this
 omega
theorem aGO {a b : List PtT} {k : Nat} (h : k < (prs a b).length) : ((prs a b).getD k (0, 0)).1 < a.length ∧ ((prs a b).getD k (0, 0)).2 < b.length := by
 rw [zP, zx h]
 have := yC h
 generalize (prs a b)[k] = x at this
 unfold prs prK at this
 obtain ⟨i, hi, e⟩ := List.mem_filterMap.1 this
 cases hx : aCC (a.getD i p0).1 b with
 | none => rw [hx] at e; cases e
 | some j =>
  rw [hx] at e; cases e
  exact ⟨yn.1 hi, (akD hx).1⟩
theorem aGM (a b : List PtT) : (prs a b).length ≤ a.length := by
 have := ayM a b a.length
 unfold acc at this; rwa [zS] at this
structure Difs (a b : List PtT) (i j : Nat) : Prop where
 e0 : eQ a b (j : Int) (i : Int) 0 = dif a b (i, j) 0
 e1 : eQ a b (j : Int) (i : Int) (w64 (0 + 1)) = dif a b (i, j) 1
 e2 : eQ a b (j : Int) (i : Int) (w64 (w64 (0 + 1) + 1)) = dif a b (i, j) 2
 b0 : -25500 ≤ dif a b (i, j) 0 ∧ dif a b (i, j) 0 ≤ 25500
 b1 : -25500 ≤ dif a b (i, j) 1 ∧ dif a b (i, j) 1 ≤ 25500
 b2 : -25500 ≤ dif a b (i, j) 2 ∧ dif a b (i, j) 2 ≤ 25500
theorem aRZ {a b : List PtT} (ha : ag8 a) (hb : ag8 b) (oa : ah0 a = true) (ob : ah0 b = true) {i j : Nat} (hi : i < a.length) (hj : j < b.length) : Difs a b i j := by
 have x := aPY oa hi
 have y := aPY ob hj
 have l0 : gi (a.getD i p0).2.2.1 0 0 = lb (a.getD i p0) 0 := aFl (k := 0) (ah1 ha hi) zb
 have l1 := aFl (ah1 ha hi) (show 1 < 3 by omega)
 have l2 := aFl (ah1 ha hi) (show 2 < 3 by omega)
 have m0 : gi (b.getD j p0).2.2.1 0 0 = lb (b.getD j p0) 0 := aFl (k := 0) (ah1 hb hj) zb
 have m1 := aFl (ah1 hb hj) (show 1 < 3 by omega)
 have m2 := aFl (ah1 hb hj) (show 2 < 3 by omega)
 have w1 : w64 (0 + 1) = ((1 : Nat) : Int) := zc
 have w2 : w64 (w64 (0 + 1) + 1) = ((2 : Nat) : Int) := zc
 refine ⟨?_, ?_, ?_, ?_, ?_, ?_⟩
 ·unfold eQ; rw [ap7 hi, ap7 hj, l0, m0]; exact aaC ⟨by omega, by omega⟩
 ·unfold eQ; rw [w1, ap7 hi, ap7 hj, l1, m1]; exact aaC ⟨by omega, by omega⟩
 ·unfold eQ; rw [w2, ap7 hi, ap7 hj, l2, m2]; exact aaC ⟨by omega, by omega⟩
 all_goals (unfold dif; dsimp only; omega)
theorem aKh {x : Int} (h : -25500 ≤ x ∧ x ≤ 25500) : 0 ≤ x * x ∧ x * x ≤ 650250000 := by
 have h1 : x.natAbs ≤ 25500 := zb
 have h2 : x.natAbs * x.natAbs ≤ 25500 * 25500 := Nat.mul_le_mul h1 h1
 have h3 := Int.natAbs_mul_self' x
 rw [← h3, ← xA]
 omega
theorem aSc {x y z : Int} (hx : -25500 ≤ x ∧ x ≤ 25500) (hy : -25500 ≤ y ∧ y ≤ 25500) (hz : -25500 ≤ z ∧ z ≤ 25500) : w64 (w64 (w64 (x * x) + w64 (y * y)) + w64 (z * z)) = x * x + y * y + z * z := by
 have := aKh hx; have := aKh hy; have := aKh hz
 rw [aaC (x := x * x) ⟨by omega, by omega⟩, aaC (x := y * y) ⟨by omega, by omega⟩, aaC (x := z * z) ⟨by omega, by omega⟩, aaC (x := x * x + y * y) ⟨by omega, by omega⟩, aaC ⟨by omega, by omega⟩]
theorem aGg {f : Nat → Int} {lo hi : Int} : ∀ {n : Nat}, (∀ k, k < n → lo ≤ f k ∧ f k ≤ hi) → (n : Int) * lo ≤ aeD f n ∧ aeD f n ≤ n * hi
 | 0, _ => by simp [aeD]
 | n + 1, h => by
  have ih := aGg (n := n) fun k hk => h k zb
  have := h n zb
  have e1 : ((n + 1 : Nat) : Int) * lo = n * lo + lo := by rw [Int.natCast_add, wo]; simp
  have e2 : ((n + 1 : Nat) : Int) * hi = n * hi + hi := by rw [Int.natCast_add, wo]; simp
  simp only [aeD]
  omega
theorem aQ7 {x y z : Int} (hx : -25500 ≤ x ∧ x ≤ 25500) (hy : -25500 ≤ y ∧ y ≤ 25500) (hz : -25500 ≤ z ∧ z ≤ 25500) : w64 (w64 (w64 (0 + w64 (x * x)) + w64 (y * y)) + w64 (z * z)) = x * x + y * y + z * z := by
 have := aKh hx; have := aKh hy; have := aKh hz
 rw [aaC (x := x * x) ⟨by omega, by omega⟩, aaC (x := y * y) ⟨by omega, by omega⟩, aaC (x := z * z) ⟨by omega, by omega⟩, wS, aaC (x := x * x) ⟨by omega, by omega⟩, aaC (x := x * x + y * y) ⟨by omega, by omega⟩, aaC ⟨by omega, by omega⟩]
theorem aH8 {l : List Int} {hi : Int} (h0 : 0 ≤ hi) (h : ∀ k, k < l.length → 0 ≤ l.getD k 0 ∧ l.getD k 0 ≤ hi) : ∀ k, k ≤ l.length → 0 ≤ (aeU l k).1 ∧ (aeU l k).1 ≤ hi ∧ ((aeU l k).2 < k ∨ k = 0)
 | 0, _ => ⟨Int.le_refl _, h0, Or.inr rfl⟩
 | k + 1, hk => by
  have ih := aH8 h0 h k zb
  simp only [aeU]
  split
  ·have := h k zb; exact ⟨this.1, this.2, Or.inl (yp _)⟩
  ·rename_i c
   refine ⟨ih.1, ih.2.1, Or.inl ?_⟩
   rcases ih.2.2 with h | h
   ·exact Nat.lt_succ_of_lt h
   ·exact absurd (Or.inl h) c
structure Prs (a b : List PtT) : Prop where
 n : (prs a b).length ≤ 40
 d : ∀ k, k < (prs a b).length → Difs a b ((prs a b).getD k (0, 0)).1 ((prs a b).getD k (0, 0)).2
 i : ∀ k, k < (prs a b).length → ((prs a b).getD k (0, 0)).1 < a.length ∧ ((prs a b).getD k (0, 0)).2 < b.length
theorem aP6 {a b : List PtT} (ha : ag8 a) (hb : ag8 b) (oa : ah0 a = true) (ob : ah0 b = true) : Prs a b :=
 ⟨zt (aGM a b) (ae9 oa), fun _ hk => aRZ ha hb oa ob (aGO hk).1 (aGO hk).2, fun _ hk => aGO hk⟩
theorem aRu {a b : List PtT} {k : Nat} (hk : k < (prs a b).length) : pJ ((prs a b).map ai5) (k : Int) 1 = (((prs a b).getD k (0, 0)).2 : Int) ∧ pJ ((prs a b).map ai5) (k : Int) 0 = (((prs a b).getD k (0, 0)).1 : Int) := by
 have e : gi ((prs a b).map ai5) (k : Int) (List.replicate 2 0) = ai5 ((prs a b).getD k (0, 0)) := by rw [aaQ]; simp [hk]
 unfold pJ
 rw [e]; exact ⟨rfl, rfl⟩
section
variable {a b : List PtT} (P : Prs a b)
include P
theorem Prs.sq {k : Nat} (hk : k < (prs a b).length) : 0 ≤ (sqs a b).getD k 0 ∧ (sqs a b).getD k 0 ≤ 1950750000 := by
 have h := P.d k hk
 have e : (sqs a b).getD k 0 = Go.Vs.sq a b ((prs a b).getD k (0, 0)) := by simp [sqs, hk]
 have b0 : -25500 ≤ dif a b ((prs a b).getD k (0, 0)) 0 ∧ _ := h.b0
 have b1 : -25500 ≤ dif a b ((prs a b).getD k (0, 0)) 1 ∧ _ := h.b1
 have b2 : -25500 ≤ dif a b ((prs a b).getD k (0, 0)) 2 ∧ _ := h.b2
 have := aKh b0; have := aKh b1; have := aKh b2
 rw [e]; unfold Go.Vs.sq; omega
theorem Prs.s (k : Nat) (hk : k ≤ (prs a b).length) : (∀ c, c < 3 → -1020000 ≤ aeD (ae7 a b c) k ∧ aeD (ae7 a b c) k ≤ 1020000) ∧ 0 ≤ aeD (fun k => (sqs a b).getD k 0) k ∧ aeD (fun k => (sqs a b).getD k 0) k ≤ 78030000000 := by
 have hn := P.n
 constructor
 ·intro c hc
  have := aGg (f := ae7 a b c) (lo := -25500) (hi := 25500) (n := k) fun j hj => by
   have h := P.d j zb
   unfold ae7
   match c, hc with
   | 0, _ => exact h.b0
   | 1, _ => exact h.b1
   | 2, _ => exact h.b2
  omega
 ·have := aGg (f := fun k => (sqs a b).getD k 0) (lo := 0) (hi := 1950750000) (n := k) fun j hj => P.sq zb
  omega
theorem Prs.most {k : Nat} (hk : k ≤ (prs a b).length) : 0 ≤ (aeU (sqs a b) k).1 ∧ (aeU (sqs a b) k).1 ≤ 1950750000 ∧ ((aeU (sqs a b) k).2 < k ∨ k = 0) :=
 aH8 zb (fun j hj => P.sq (by simpa [sqs] using hj)) k (by simpa [sqs] using hk)
end
theorem aAX {a b : List PtT} {n : Nat} (h : (prs a b).length = n) : apF a b = ((n : Int), [fx (mkRat (aeD (ae7 a b 0) n) (100 * n)), fx (mkRat (aeD (ae7 a b 1) n) (100 * n)), fx (mkRat (aeD (ae7 a b 2) n) (100 * n))], fx (mkRat (aeD (fun k => (sqs a b).getD k 0) n) (10000 * n)), fx (mkRat (aeU (sqs a b) n).1 10000), (((prs a b).getD (aeU (sqs a b) n).2 (0, 0)).1 : Int), ()) := by
 subst h
 unfold apF ai6
 rw [show (sqs a b).length = (prs a b).length from zS _]
def rdS (a b : List PtT) (k : Nat) : Int × Int × Int × Int × Int × Int × Int × Unit := ((k : Int), if k = 0 then 0 else (((prs a b).getD (aeU (sqs a b) k).2 (0, 0)).1 : Int), if k = 0 then -1 else (aeU (sqs a b) k).1, aeD (fun k => (sqs a b).getD k 0) k, aeD (ae7 a b 0) k, aeD (ae7 a b 1) k, aeD (ae7 a b 2) k, ())
theorem aN2 {a b : List PtT} (P : Prs a b) (u : Int × Unit) {k : Nat} (hk : k < (prs a b).length) : (agH a b ((prs a b).map ai5, u) (rdS a b k)).toO = some (.inl (rdS a b (k + 1))) := by
 have hn := P.n
 obtain ⟨j1, j0⟩ := aRu hk
 have hd := P.d k hk
 obtain ⟨i1, i2⟩ := P.i k hk
 have hsq : (sqs a b).getD k 0 = Go.Vs.sq a b ((prs a b).getD k (0, 0)) := by simp [sqs, hk]
 have hb := P.sq hk
 have s1 := P.s (k + 1) zb
 have s0 := P.s k zb
 have a0 := s1.1 0 zb; have a1 := s1.1 1 zb; have a2 := s1.1 2 zb
 have hm := P.most (show k ≤ _ by omega)
 simp only [aeD] at s1 a0 a1 a2
 have nk : inb (k : Int) (len ((prs a b).map ai5)) := abJ zb (by rw [aaB, zS]; omega)
 have n1 : inb (((prs a b).getD k (0, 0)).2 : Int) (len b) := abJ zb (by rw [aaB]; omega)
 have n0 : inb (((prs a b).getD k (0, 0)).1 : Int) (len a) := abJ zb (by rw [aaB]; omega)
 have e0 := hd.e0; have e1 := hd.e1; have e2 := hd.e2
 have hq : w64 (w64 (w64 (0 + w64 (dif a b ((prs a b).getD k (0, 0)) 0 * dif a b ((prs a b).getD k (0, 0)) 0)) + w64 (dif a b ((prs a b).getD k (0, 0)) 1 * dif a b ((prs a b).getD k (0, 0)) 1)) + w64 (dif a b ((prs a b).getD k (0, 0)) 2 * dif a b ((prs a b).getD k (0, 0)) 2)) = (sqs a b).getD k 0 := by
  rw [hsq]; exact aQ7 hd.b0 hd.b1 hd.b2
 have x0 : dif a b ((prs a b).getD k (0, 0)) 0 = ae7 a b 0 k := rfl
 have x1 : dif a b ((prs a b).getD k (0, 0)) 1 = ae7 a b 1 k := rfl
 have x2 : dif a b ((prs a b).getD k (0, 0)) 2 = ae7 a b 2 k := rfl
 unfold agH rdS
 refine uT (zm nk.2) (uN nk ?_)
 simp only [j1, j0, e0, e1, e2, hq, abC (show k ≤ 1000000 by omega)]
 refine uN n1 (uN nk (uN n0 (uN nk (uN n1 (uN nk (uN n0 (uN nk (uN n1 (uN nk (uN n0 ?_))))))))))
 have w0 := aaC (x := aeD (fun k => (sqs a b).getD k 0) k + (sqs a b).getD k 0) ⟨by omega, by omega⟩
 have w1 := aaC (x := aeD (ae7 a b 0) k + ae7 a b 0 k) ⟨by omega, by omega⟩
 have w2 := aaC (x := aeD (ae7 a b 1) k + ae7 a b 1 k) ⟨by omega, by omega⟩
 have w3 := aaC (x := aeD (ae7 a b 2) k + ae7 a b 2 k) ⟨by omega, by omega⟩
 simp only [x0, x1, x2, w0, w1, w2, w3, aeD, aeU, if_neg (Nat.succ_ne_zero k)]
 by_cases h0 : k = 0
 ·subst h0
  rw [if_pos rfl, if_pos rfl, if_pos (Or.inl rfl)]
  refine uT (zm zb) (uN nk (uV (uB (uB ?_))))
  simp only [e0, e1, e2, hq]; refine uB ?_; simp only [x0, x1, x2, w0, w1, w2, w3]; rfl
 ·rw [if_neg h0, if_neg h0]
  by_cases c : (aeU (sqs a b) k).1 < (sqs a b).getD k 0
  ·rw [if_pos (Or.inr c)]
   refine uT (zm c) (uN nk (uV (uB (uB ?_))))
   simp only [e0, e1, e2, hq]; refine uB ?_; simp only [x0, x1, x2, w0, w1, w2, w3]; rfl
  ·rw [if_neg (fun h => h.elim h0 c)]
   exact uF (zk c) rfl
theorem aw3 (a b : List PtT) (y) (h : aiV (a, b, ()) = some y) : (aq3 a b).toO = some y := by
 obtain ⟨⟨h1, h2⟩, rfl⟩ := ae5 h
 dsimp only at h1 h2 ⊢
 cases c1 : ah0 a
 ·exact uC _ ((aoP h1 h2).trans (by rw [c1])) (uT rfl rfl)
 cases c2 : ah0 b
 ·exact uC _ ((aoP h1 h2).trans (by rw [c1, c2])) (uT rfl rfl)
 have P := aP6 h1 h2 c1 c2
 refine uC ((prs a b).map ai5, 0, ()) ((aoP h1 h2).trans (by rw [c1, c2]; rfl)) (uF rfl ?_)
 rw [if_pos (show (true && true) = true from rfl)]
 by_cases c : prs a b = []
 ·rw [if_pos c, c]
  exact uT rfl rfl
 rw [if_neg c]
 have hp : 0 < (prs a b).length := zN.2 c
 refine uF (by rw [aaB, zS, beq_eq_false_iff_ne]; omega) (uO (0, 0, -1, 0, 0, 0, 0, ()) rfl ?_)
 refine acO (n := (prs a b).length) (rdS a b) (fun k hk => aN2 P _ hk) ?_
 have hn := P.n
 have s := P.s _ (zj _)
 have a0 := s.1 0 zb; have a1 := s.1 1 zb; have a2 := s.1 2 zb
 have hm := P.most (zj _)
 rw [aAX rfl]
 unfold agH rdS
 rw [if_neg zb, if_neg zb]
 have w1 : w64 (100 * len ((prs a b).map ai5)) = ((100 * (prs a b).length : Nat) : Int) := by rw [aaB, zS, aaC ⟨by omega, by omega⟩]; omega
 have w2 : w64 (10000 * len ((prs a b).map ai5)) = ((10000 * (prs a b).length : Nat) : Int) := by rw [aaB, zS, aaC ⟨by omega, by omega⟩]; omega
 simp only [w1, w2]
 refine uF (zk (by rw [aaB, zS]; omega)) ?_
 refine uC _ (anB ⟨by omega, by omega⟩ zb zb) (uC _ (anB ⟨by omega, by omega⟩ zb zb) (uC _ (anB ⟨by omega, by omega⟩ zb zb) (uC _ (anB ⟨by omega, by omega⟩ zb zb) (uC _ (anB (d := 10000) ⟨by omega, by omega⟩ zb zb) ?_))))
 rw [aaB, zS]
 rfl
theorem aJP {a b : List PtT} (h1 : ag8 a) (h2 : ag8 b) : afL (a, b, ()) = some (if ah0 a && ah0 b then (if prs a b = [] then (zSh, 4, ()) else (apF a b, 0, ())) else (zSh, 310, ())) := if_pos ⟨h1, h2⟩
theorem aKE (a b : List PtT) (n : Nat) : prK a b (n + 1) = prK a b n ++ match aCC (a.getD n p0).1 b with | some k => [(n, k)] | none => [] := by
 unfold prK
 rw [xF, List.filterMap_append]
 congr 1
 simp only [List.filterMap_cons, List.filterMap_nil]
 cases aCC (a.getD n p0).1 b <;> rfl
theorem aN7 (a b : List PtT) (n : Nat) : (prK a b n).length ≤ n := by have := ayM a b n; unfold acc at this; rwa [zS] at this
def pd (a b : List PtT) (l : List (Nat × Nat)) : List (List Int) := l.map fun x => [dif a b x 0, dif a b x 1, dif a b x 2]
def pi (l : List (Nat × Nat)) : List Int := l.map fun x => (x.1 : Int)
abbrev D3 := List (List Int) × List Int × List Int × Unit
def d3 (a b : List PtT) (l : List (Nat × Nat)) : D3 := (pd a b l, l.map (sq a b), pi l, ())
theorem Difs.ps {a b : List PtT} {i j : Nat} (h : Difs a b i j) (hi : i < a.length) (hx : aCC (a.getD i p0).1 b = some j) :
  apU KK.str 0 (kP a (i : Int)) (dG b (fun i => (i : Int)) b.length) = (j : Int) ∧ dP a b (dG b (fun i => (i : Int)) b.length) (i : Int) 0 = dif a b (i, j) 0 ∧ dP a b (dG b (fun i => (i : Int)) b.length) (i : Int) (w64 (0 + 1)) = dif a b (i, j) 1 ∧ dP a b (dG b (fun i => (i : Int)) b.length) (i : Int) (w64 (w64 (0 + 1) + 1)) = dif a b (i, j) 2 := by
 have hg : apU KK.str 0 (kP a (i : Int)) (dG b (fun i => (i : Int)) b.length) = (j : Int) := by
  rw [show kP a (i : Int) = DK.s (a.getD i p0).1 by simp only [kP, ap7 hi], aD0, hx]
 refine ⟨hg, ?_, ?_, ?_⟩
 ·show w64 (gi (gi b (apU KK.str 0 (kP a (i : Int)) (dG b (fun i => (i : Int)) b.length)) p0).2.2.1 0 0 - _) = _
  rw [hg]; exact h.e0
 ·show w64 (gi (gi b (apU KK.str 0 (kP a (i : Int)) (dG b (fun i => (i : Int)) b.length)) p0).2.2.1 (w64 (0 + 1)) 0 - _) = _
  rw [hg]; exact h.e1
 ·show w64 (gi (gi b (apU KK.str 0 (kP a (i : Int)) (dG b (fun i => (i : Int)) b.length)) p0).2.2.1 (w64 (w64 (0 + 1) + 1)) 0 - _) = _
  rw [hg]; exact h.e2
def pS (a b : List PtT) (n : Nat) : Int × Bool × D3 × Unit := ((n : Int), (prK a b n).isEmpty, d3 a b (prK a b n), ())
theorem aN9 {a b : List PtT} (h1 : ag8 a) (h2 : ag8 b) (c1 : ah0 a = true) (c2 : ah0 b = true) (y : Bool × Unit) (m : Int) {n : Nat} (hn : n < a.length) :
  (aiB a b y (m, dG b (fun i => (i : Int)) b.length, ()) (pS a b n)).toO = some (.inl (pS a b (n + 1))) := by
 have la := ae9 c1
 have ni : inb (n : Int) (len a) := abJ zb (by rw [aaB]; omega)
 have hl := aN7 a b n
 unfold pS
 rw [aKE]
 unfold aiB
 have hk : kP a (n : Int) = DK.s (a.getD n p0).1 := by simp only [kP, ap7 hn]
 cases hx : aCC (a.getD n p0).1 b with
 | some k =>
  have hkb : k < b.length := (akD hx).1
  have hd := aRZ h1 h2 c1 c2 hn hkb
  obtain ⟨g, x0, x1, x2⟩ := hd.ps hn hx
  have nb : inb (k : Int) (len b) := abJ zb (by rw [aaB]; omega)
  have hh : ayW KK.str (kP a (n : Int)) (dG b (fun i => (i : Int)) b.length) = true := by rw [hk, avY, aCr, hx]; rfl
  rw [aCQ _ _ zf]
  simp only [dL, g, x0, x1, x2, hh, abC (show n ≤ 1000000 by omega), aSc hd.b0 hd.b1 hd.b2, zv]
  generalize prK a b n = l at hl
  cases l with
  | nil =>
   refine uT rfl (uT (zm ni.2) (uN ni (uT rfl ?_)))
   repeat (first | refine uV ?_ | refine uB ?_ | refine uN nb ?_ | refine uN ni ?_ | refine uN zb ?_)
   rfl
  | cons x l =>
   refine uF rfl (uT (zm ni.2) (uN ni (uT rfl ?_)))
   have e1 : (d3 a b (x :: l)).1.length = l.length + 1 := by simp [d3, pd]
   have e2 : (d3 a b (x :: l)).2.1.length = l.length + 1 := by simp [d3]
   have e3 : (d3 a b (x :: l)).2.2.1.length = l.length + 1 := by simp [d3, pi]
   rw [yh] at hl
   repeat (first | refine uV ?_ | refine uB ?_ | refine uN nb ?_ | refine uN ni ?_ | refine uN zb ?_ | refine uN zf ?_)
   show some _ = some _
   simp [d3, pd, pi, sq]
 | none =>
  have hh : ayW KK.str (kP a (n : Int)) (dG b (fun i => (i : Int)) b.length) = false := by rw [hk, avY, aCr, hx]; rfl
  rw [yK]
  simp only [hh, abC (show n ≤ 1000000 by omega)]
  generalize prK a b n = l
  cases l with
  | nil => exact uT rfl (uT (zm ni.2) (uN ni (uF rfl rfl)))
  | cons x l => exact uF rfl (uT (zm ni.2) (uN ni (uF rfl rfl)))
theorem aGR (a b : List PtT) {k : Nat} (hk : k < (prs a b).length) : List.getD (pd a b (prs a b)) (0 + Int.toNat (k : Int)) (List.replicate 3 0) = [ae7 a b 0 k, ae7 a b 1 k, ae7 a b 2 k] := by
 rw [zp, zn]; simp [pd, hk, ae7]
theorem au4 (a b : List PtT) : len (pd a b (prs a b)) = ((prs a b).length : Int) := by rw [aaB]; simp [pd]
theorem aPQ (a b : List PtT) {k : Nat} (hk : k < (prs a b).length) : List.getD ((prs a b).map (sq a b)) (0 + Int.toNat (k : Int)) 0 = (sqs a b).getD k 0 := by
 rw [zp, zn]; rfl
theorem aPT (a b : List PtT) {k : Nat} (hk : k < (prs a b).length) : List.getD (pi (prs a b)) (0 + Int.toNat (k : Int)) 0 = (((prs a b).getD k (0, 0)).1 : Int) := by
 rw [zp, zn]; simp [pi, hk]
section
variable {a b : List PtT} (P : Prs a b) (y : Bool × Unit) (i : Int × List (List UInt8 × Int) × Unit) (m : Int)
include P
theorem aRp (hp : 0 < (prs a b).length) (i2 i3 i4 : Int × Int × Unit) : acD (fun i5 => (ah7 a b y i (m, false, d3 a b (prs a b), ()) ((ai6 (sqs a b)).1, ((ai6 (sqs a b)).2 : Int), ()) i2 (fx (mkRat (aeD (ae7 a b 0) (prs a b).length) (100 * (prs a b).length)), 0, ()) i3 (fx (mkRat (aeD (ae7 a b 1) (prs a b).length) (100 * (prs a b).length)), 0, ()) i4 (fx (mkRat (aeD (ae7 a b 2) (prs a b).length) (100 * (prs a b).length)), 0, ()) i5).toO) (0, 0, ())
  = some (.inr (.inr (.inr (.inr (.inr (apF a b, 0, ())))))) := by
 refine acO (n := (prs a b).length) (fun k => ((k : Int), aeD (fun k => (sqs a b).getD k 0) k, ())) (fun k hk => ?_) ?_
 ·unfold ah7
  have nk : inb (k : Int) (len ((prs a b).map (sq a b))) := abJ zb (by rw [aaB, zS]; omega)
  have s1 := P.s (k + 1) zb
  have a0 := s1.2
  simp only [aeD] at a0
  have hn := P.n
  refine uT (zm nk.2) (uN nk ?_)
  simp only [d3, aPQ a b hk, abC (show k ≤ 1000000 by omega)]
  refine uV (uB (uB ?_))
  show some _ = some _
  rw [show w64 (aeD (fun k => (sqs a b).getD k 0) k + (sqs a b).getD k 0) = aeD (fun k => (sqs a b).getD k 0) (k + 1) from aaC ⟨by omega, by omega⟩]
 ·skip
  have hn := P.n
  have s := P.s _ (zj _)
  have a0 := s.1 0 zb; have a1 := s.1 1 zb; have a2 := s.1 2 zb
  have hm := P.most (zj _)
  have w1 : w64 (len (pi (prs a b)) * 100) = ((100 * (prs a b).length : Nat) : Int) := by rw [aaB]; simp only [pi, zS]; rw [aaC ⟨by omega, by omega⟩]; omega
  have w2 : w64 (((100 * (prs a b).length : Nat) : Int) * 100) = ((10000 * (prs a b).length : Nat) : Int) := by rw [aaC ⟨by omega, by omega⟩]; omega
  unfold ah7
  refine uF (zk (by simp only [d3, aaB, zS]; omega)) ?_
  have hmf : ai6 (sqs a b) = aeU (sqs a b) (prs a b).length := by unfold ai6; rw [show (sqs a b).length = (prs a b).length from zS _]
  have hm2 : (aeU (sqs a b) (prs a b).length).2 < (prs a b).length := hm.2.2.resolve_right zb
  simp only [d3, w1, w2]
  refine uC _ (awD ⟨by omega, by omega⟩ zb zb) (uF rfl ?_)
  refine uC _ (awD (d := 10000) ⟨by rw [hmf]; omega, by rw [hmf]; omega⟩ zb zb) (uF rfl ?_)
  rw [aAX rfl, hmf, aPT a b hm2]
  show some _ = some _
  rw [show len (pi (prs a b)) = ((prs a b).length : Int) by rw [aaB]; simp [pi]]
  rfl
theorem aRq (hp : 0 < (prs a b).length) (i2 i3 : Int × Int × Unit) : acD (fun v => (ah8 a b y i (m, false, d3 a b (prs a b), ()) ((ai6 (sqs a b)).1, ((ai6 (sqs a b)).2 : Int), ()) i2 (fx (mkRat (aeD (ae7 a b 0) (prs a b).length) (100 * (prs a b).length)), 0, ()) i3 (fx (mkRat (aeD (ae7 a b 1) (prs a b).length) (100 * (prs a b).length)), 0, ()) v).toO) (0, 0, ())
  = some (.inr <| .inr <| .inr <| .inr <| (apF a b, 0, ())) := by
 refine acO (n := (prs a b).length) (fun k => ((k : Int), aeD (ae7 a b 2) k, ())) (fun k hk => ?_) ?_
 ·unfold ah8
  have nk : inb (k : Int) (len (pd a b (prs a b))) := abJ zb (by rw [au4]; omega)
  have s1 := P.s (k + 1) zb
  have a0 := s1.1 2 zb
  simp only [aeD] at a0
  have hn := P.n
  refine uT (zm nk.2) (uN nk ?_)
  simp only [d3, aGR a b hk, abC (show k ≤ 1000000 by omega)]
  refine uV (uB (uB ?_))
  show some (Sum.inl (((k + 1 : Nat) : Int), w64 (aeD (ae7 a b 2) k + ae7 a b 2 k), ())) = some _
  rw [show w64 (aeD (ae7 a b 2) k + ae7 a b 2 k) = aeD (ae7 a b 2) (k + 1) from aaC ⟨by omega, by omega⟩]
 ·skip
  have hn := P.n
  have s := P.s _ (zj _)
  have a0 := s.1 0 zb; have a1 := s.1 1 zb; have a2 := s.1 2 zb
  have hm := P.most (zj _)
  have w1 : w64 (len (pi (prs a b)) * 100) = ((100 * (prs a b).length : Nat) : Int) := by rw [aaB]; simp only [pi, zS]; rw [aaC ⟨by omega, by omega⟩]; omega
  have w2 : w64 (((100 * (prs a b).length : Nat) : Int) * 100) = ((10000 * (prs a b).length : Nat) : Int) := by rw [aaC ⟨by omega, by omega⟩]; omega
  unfold ah8
  refine uF (zk (by dsimp only [d3]; rw [au4]; omega)) ?_
  simp only [d3, w1]
  refine uC _ (awD ⟨by omega, by omega⟩ zb zb) (uF rfl ?_)
  repeat (refine uV ?_)
  refine uO (0, 0, ()) rfl ?_
  exact aRp P y i m hp _ _ _
theorem aRr (hp : 0 < (prs a b).length) (i2 : Int × Int × Unit) : acD (fun v => (ah9 a b y i (m, false, d3 a b (prs a b), ()) ((ai6 (sqs a b)).1, ((ai6 (sqs a b)).2 : Int), ()) i2 (fx (mkRat (aeD (ae7 a b 0) (prs a b).length) (100 * (prs a b).length)), 0, ()) v).toO) (0, 0, ())
  = some (.inr <| .inr <| .inr <| (apF a b, 0, ())) := by
 refine acO (n := (prs a b).length) (fun k => ((k : Int), aeD (ae7 a b 1) k, ())) (fun k hk => ?_) ?_
 ·unfold ah9
  have nk : inb (k : Int) (len (pd a b (prs a b))) := abJ zb (by rw [au4]; omega)
  have s1 := P.s (k + 1) zb
  have a0 := s1.1 1 zb
  simp only [aeD] at a0
  have hn := P.n
  refine uT (zm nk.2) (uN nk ?_)
  simp only [d3, aGR a b hk, abC (show k ≤ 1000000 by omega)]
  refine uV (uB (uB ?_))
  show some (Sum.inl (((k + 1 : Nat) : Int), w64 (aeD (ae7 a b 1) k + ae7 a b 1 k), ())) = some _
  rw [show w64 (aeD (ae7 a b 1) k + ae7 a b 1 k) = aeD (ae7 a b 1) (k + 1) from aaC ⟨by omega, by omega⟩]
 ·skip
  have hn := P.n
  have s := P.s _ (zj _)
  have a0 := s.1 0 zb; have a1 := s.1 1 zb; have a2 := s.1 2 zb
  have hm := P.most (zj _)
  have w1 : w64 (len (pi (prs a b)) * 100) = ((100 * (prs a b).length : Nat) : Int) := by rw [aaB]; simp only [pi, zS]; rw [aaC ⟨by omega, by omega⟩]; omega
  have w2 : w64 (((100 * (prs a b).length : Nat) : Int) * 100) = ((10000 * (prs a b).length : Nat) : Int) := by rw [aaC ⟨by omega, by omega⟩]; omega
  unfold ah9
  refine uF (zk (by dsimp only [d3]; rw [au4]; omega)) ?_
  simp only [d3, w1]
  refine uC _ (awD ⟨by omega, by omega⟩ zb zb) (uF rfl ?_)
  repeat (refine uV ?_)
  refine uO (0, 0, ()) rfl ?_
  exact aRq P y i m hp _ _
theorem aRs (hp : 0 < (prs a b).length) : acD (fun v => (aiA a b y i (m, false, d3 a b (prs a b), ()) ((ai6 (sqs a b)).1, ((ai6 (sqs a b)).2 : Int), ())  v).toO) (0, 0, ())
  = some (.inr <| .inr <| (apF a b, 0, ())) := by
 refine acO (n := (prs a b).length) (fun k => ((k : Int), aeD (ae7 a b 0) k, ())) (fun k hk => ?_) ?_
 ·unfold aiA
  have nk : inb (k : Int) (len (pd a b (prs a b))) := abJ zb (by rw [au4]; omega)
  have s1 := P.s (k + 1) zb
  have a0 := s1.1 0 zb
  simp only [aeD] at a0
  have hn := P.n
  refine uT (zm nk.2) (uN nk ?_)
  simp only [d3, aGR a b hk, abC (show k ≤ 1000000 by omega)]
  refine uV (uB (uB ?_))
  show some (Sum.inl (((k + 1 : Nat) : Int), w64 (aeD (ae7 a b 0) k + ae7 a b 0 k), ())) = some _
  rw [show w64 (aeD (ae7 a b 0) k + ae7 a b 0 k) = aeD (ae7 a b 0) (k + 1) from aaC ⟨by omega, by omega⟩]
 ·skip
  have hn := P.n
  have s := P.s _ (zj _)
  have a0 := s.1 0 zb; have a1 := s.1 1 zb; have a2 := s.1 2 zb
  have hm := P.most (zj _)
  have w1 : w64 (len (pi (prs a b)) * 100) = ((100 * (prs a b).length : Nat) : Int) := by rw [aaB]; simp only [pi, zS]; rw [aaC ⟨by omega, by omega⟩]; omega
  have w2 : w64 (((100 * (prs a b).length : Nat) : Int) * 100) = ((10000 * (prs a b).length : Nat) : Int) := by rw [aaC ⟨by omega, by omega⟩]; omega
  unfold aiA
  refine uF (zk (by dsimp only [d3]; rw [au4]; omega)) ?_
  simp only [d3, w1]
  refine uC _ (awD ⟨by omega, by omega⟩ zb zb) (uF rfl ?_)
  repeat (refine uV ?_)
  refine uO (0, 0, ()) rfl ?_
  exact aRr P y i m hp _
end
theorem azV (a b : List PtT) (y) (h : afL (a, b, ()) = some y) : (au3 a b).toO = some y := by
 obtain ⟨⟨h1, h2⟩, rfl⟩ := ae5 h
 dsimp only at h1 h2 ⊢
 refine uC _ (aBn h1 h2) ?_
 cases c1 : ah0 a
 ·exact uT rfl rfl
 cases c2 : ah0 b
 ·exact uT rfl rfl
 have la := ae9 c1
 have lb := ae9 c2
 have P := aP6 h1 h2 c1 c2
 refine uF rfl (uV (uV (uV (uV (uO (0, [], ()) rfl ?_)))))
 refine acO (n := b.length) (fun i => ((i : Int), dG b (fun i => (i : Int)) i, ())) (fun i hi => ?_) ?_
 ·unfold alD
  refine uT (zm (by rw [aaB]; dsimp only; omega)) (uN (abJ zh (by rw [aaB]; dsimp only; omega)) ?_)
  simp only [kP, ap7 hi, abC (show i ≤ 1000000 by omega), aJd b (fun i => (i : Int)) i (aCh c2 hi)]
  rfl
 ·unfold alD
  refine uF (zk (by rw [aaB]; dsimp only; omega)) (uO (0, true, ([], [], [], ()), ()) rfl ?_)
  rw [if_pos (show (true && true) = true from rfl)]
  refine acO (n := a.length) (pS a b) (fun k hk => aN9 h1 h2 c1 c2 _ _ hk) ?_
  have ci : decide ((a.length : Int) < len a) = false := zk (by rw [aaB]; omega)
  unfold pS
  rw [show prK a b a.length = prs a b from rfl]
  unfold aiB
  by_cases c : prs a b = []
  ·rw [if_pos c, c]
   exact uT rfl (uF ci rfl)
  ·rw [if_neg c]
   have hp : 0 < (prs a b).length := zN.2 c
   have hm := P.most (zj _)
   have hn := P.n
   have hmf : ai6 (sqs a b) = aeU (sqs a b) (prs a b).length := by unfold ai6; rw [show (sqs a b).length = (prs a b).length from zS _]
   have hm2 : (aeU (sqs a b) (prs a b).length).2 < (prs a b).length := hm.2.2.resolve_right zb
   refine uF (by simpa using c) (uF ci (uF ?_ ?_))
   ·dsimp only [d3, pi]; rw [aaB, zS, beq_eq_false_iff_ne]; omega
   ·have e : List.take (List.length (d3 a b (prs a b)).2.1) (d3 a b (prs a b)).2.1 = sqs a b := zv
    simp only [e]
    refine uC _ (aFZ (by unfold sqs; rw [zS]; omega)) (uN ?_ (uV (uV (uO (0, 0, ()) rfl ?_))))
    ·rw [hmf]; refine abJ zh ?_
     dsimp only [d3, pi]; rw [aaB, zS]; omega
    ·exact aRs P _ _ (a.length : Int) hp
set_option maxRecDepth 100000
open Go Go.Vg Go.Proofs
noncomputable section
abbrev qc0  : Prop := Qq (36 : TypeId) ∧ Qq ([] : List UInt8) ∧ True ∧ Qq (0 : Int) ∧ Qq (0 : Int) ∧ Qq (0 : Int) ∧ True
abbrev qc1 (y1 : List UInt8 × Int × Unit) (i1 : Int × Bool × List Int × Unit) : Prop := Qq (36 : TypeId) ∧ Qq (#[112].toList ++ y1.1 : List UInt8) ∧ (Qq 24 ∧ Qq 0 ∧ Qq (List.length i1.2.2.1) ∧ Qq true) ∧ Qq (0 : Int) ∧ Qq (0 : Int) ∧ Qq (0 : Int) ∧ True
abbrev qc2 (y1 : List UInt8 × Int × Unit) : Prop := Qq (36 : TypeId) ∧ Qq (#[112].toList ++ y1.1 : List UInt8) ∧ True ∧ Qq (0 : Int) ∧ Qq (0 : Int) ∧ Qq (0 : Int) ∧ True
def aED : LTab := [(22, 122, 24578, ⟨0, (Int) × Bool × (List Int) × Unit, .dat (.s 9) vC <| .appN (.c 16 1) 24 3 vC <| .nil, [8, 7, 6, 2], [22, 16, 1], 1⟩), (22, 1956, 27650, ⟨1, (Int) × Unit, .dat (.s 10) vC <| .nil, [9, 8, 7, 6, 2], [22, 16, 1], 0⟩), (22, 3913, 27650, ⟨2, (Int) × Unit, .dat (.s 10) vC <| .nil, [9, 8, 7, 6, 2], [22, 16, 1], 0⟩), (22, 1956, 28674, ⟨3, (Int) × Unit, .dat (.s 10) vC <| .nil, [9, 8, 7, 6, 2], [22, 16, 1], 0⟩), (22, 3913, 28674, ⟨4, (Int) × Unit, .dat (.s 10) vC <| .nil, [9, 8, 7, 6, 2], [22, 16, 1], 0⟩), (22, 1956, 28673, ⟨5, (Int) × Unit, .dat (.s 10) vC <| .nil, [9, 8, 7, 6, 2], [24, 22, 16, 1], 0⟩), (22, 3913, 28673, ⟨6, (Int) × Unit, .dat (.s 10) vC <| .nil, [9, 8, 7, 6, 2], [24, 22, 16, 1], 0⟩), (5, 4010922, 888888888, uS), (10, 16042, 888888888, uS), (10, 16378, 888888888, uS), (11, 260682, 888888888, uS), (1000017, 106, 888888888, uS)]
def aq7 (d : DrT) (i : Int) (n : Int) (y : vI × Unit) (y1 : List UInt8 × Int × Unit) (i1 : Int × Bool × List Int × Unit) (j : Int × Unit) (j1 : (Int) × Unit) : TT (vP ⊕ (PtT × Unit)) :=
 .triv (asT Int 9 ≠ 0) zc <| .need (1 * 8 ≤ 140737488355328) <| .tt <| .lt (w64 (i1.1 + 1) : Int) fun z8 => .lt ([w64 (Int.tmod j1.1 9 * 1250)] : List Int) fun z9 => .wV (wY z8 <| vQ ∧ vR ∧ vO ∧ wZ n) <| .wV (wU (vq 3 z9) <| qX d i ∧ (wY true <| wU (vt 36 (#[112].toList ++ y1.1 : List UInt8) <| (vo 24 0 1 true) ∧ vj (0 : Int) (0 : Int) (0 : Int)) <| wU (qc0) True)) <| .ok (.inl ((z8, false, z9, ())))
def aq8 (d : DrT) (i : Int) (n : Int) (y : vI × Unit) (y1 : List UInt8 × Int × Unit) (i1 : Int × Bool × List Int × Unit) (j : (Int) × Unit) : TT (vP ⊕ (PtT × Unit)) :=
 .join 4 (ι := (Int) × Unit) (.ite (decide (j.1 < 0))
 (.tt <| .lt (w64 (0 - j.1) : Int) fun z7 => .wV (vt z7 i1.1 <| vQ ∧ vR ∧ vO ∧ wZ n) <| .wV (qX d i ∧ (wY true <| wU (qc2 y1) <| wU (qc0) True)) <| .ok (.inl ((z7, ()))))
 (.tt <| .wV (vt j.1 i1.1 <| vQ ∧ vR ∧ vO ∧ wZ n) <| .wV (qX d i ∧ (wY true <| wU (qc2 y1) <| wU (qc0) True)) <| .ok (.inl ((j.1, ()))))) (aq7 d i n y y1 i1 j)
def aq5 (d : DrT) (i : Int) (n : Int) (y : vI × Unit) (y1 : List UInt8 × Int × Unit) (i1 : Int × Bool × List Int × Unit) (j2 : Int × Unit) (j3 : (Int) × Unit) : TT (vP ⊕ (PtT × Unit)) :=
 .triv (asT Int 9 ≠ 0) zc <| .need ((List.length i1.2.2.1 + 1) * 8 ≤ 140737488355328) <| .tt <| .lt (w64 (i1.1 + 1) : Int) fun z18 => .lt (List.take (List.length i1.2.2.1) i1.2.2.1 ++ [w64 (Int.tmod j3.1 9 * 1250)] : List Int) fun z19 => .wV (wY z18 <| vQ ∧ vR ∧ vO ∧ wZ n) <| .need ((((3 : TypeId) = 3) ∧ ((z19 : List Int) = z19)) ∧ (true = true) ∧ (((103 : TypeId) = 103) ∧ (((xk d i 0 : Int) = xk d i 0) ∧ (((xk d i 1 : Int) = xk d i 1) ∧ (((xk d i 2 : Int) = xk d i 2) ∧ (((xk d i 3 : Int) = xk d i 3) ∧ (((xk d i 4 : Int) = xk d i 4) ∧ (((xk d i 5 : Int) = xk d i 5) ∧ (((xk d i 6 : Int) = xk d i 6) ∧ True)))))))) ∧ (true = true) ∧ (((36 : TypeId) = 36) ∧ (((#[112].toList ++ y1.1 : List UInt8) = #[112].toList ++ y1.1) ∧ ((((24) = (24)) ∧ (((0) = (0)) ∧ ((List.length i1.2.2.1 + 1 = List.length z19) ∧ ((true) = (true))))) ∧ (((0 : Int) = 0) ∧ (((0 : Int) = 0) ∧ (((0 : Int) = 0) ∧ True)))))) ∧ (true = true) ∧ (((36 : TypeId) = 36) ∧ ((([] : List UInt8) = []) ∧ (True ∧ (((0 : Int) = 0) ∧ (((0 : Int) = 0) ∧ (((0 : Int) = 0) ∧ True)))))) ∧ (true = true) ∧ True) <| .ok (.inl ((z18, false, z19, ())))
def aq6 (d : DrT) (i : Int) (n : Int) (y : vI × Unit) (y1 : List UInt8 × Int × Unit) (i1 : Int × Bool × List Int × Unit) (j2 : (Int) × Unit) : TT (vP ⊕ (PtT × Unit)) :=
 .join 6 (ι := (Int) × Unit) (.ite (decide (j2.1 < 0))
 (.tt <| .lt (w64 (0 - j2.1) : Int) fun z17 => .wV (vt z17 i1.1 <| vQ ∧ vR ∧ vO ∧ wZ n) <| .wV (wU (vq 3 i1.2.2.1) <| qX d i ∧ (wY true <| wU (qc1 y1 i1) <| wU (qc0) True)) <| .ok (.inl ((z17, ()))))
 (.tt <| .wV (vt j2.1 i1.1 <| vQ ∧ vR ∧ vO ∧ wZ n) <| .wV (wU (vq 3 i1.2.2.1) <| qX d i ∧ (wY true <| wU (qc1 y1 i1) <| wU (qc0) True)) <| .ok (.inl ((j2.1, ()))))) (aq5 d i n y y1 i1 j2)
def aq9 (d : DrT) (i : Int) (n : Int) (y : vI × Unit) (y1 : List UInt8 × Int × Unit) (i1 : (Int) × Bool × (List Int) × Unit) : TT (vP ⊕ (PtT × Unit)) :=
 .ite (i1.2.1)
 (.ite (decide (i1.1 < n))
 (.join 3 (ι := (Int) × Unit) (.need (inb i1.1 (↑7 : Int)) <| .ite (i1.1 == (↑6 : Int))
 (.tt <| .lt (w64 (xk d i 6) : Int) fun z => .wV (vt z i1.1 <| vQ ∧ vR ∧ vO ∧ wZ n) <| .wV (qX d i ∧ (wY true <| wU (qc2 y1) <| wU (qc0) True)) <| .ok (.inl ((z, ()))))
 (.ite (i1.1 == (↑5 : Int))
 (.tt <| .lt (w64 (xk d i 5) : Int) fun z1 => .wV (vt z1 i1.1 <| vQ ∧ vR ∧ vO ∧ wZ n) <| .wV (qX d i ∧ (wY true <| wU (qc2 y1) <| wU (qc0) True)) <| .ok (.inl ((z1, ()))))
 (.ite (i1.1 == (↑4 : Int))
 (.tt <| .lt (w64 (xk d i 4) : Int) fun z2 => .wV (vt z2 i1.1 <| vQ ∧ vR ∧ vO ∧ wZ n) <| .wV (qX d i ∧ (wY true <| wU (qc2 y1) <| wU (qc0) True)) <| .ok (.inl ((z2, ()))))
 (.ite (i1.1 == (↑3 : Int))
 (.tt <| .lt (w64 (xk d i 3) : Int) fun z3 => .wV (vt z3 i1.1 <| vQ ∧ vR ∧ vO ∧ wZ n) <| .wV (qX d i ∧ (wY true <| wU (qc2 y1) <| wU (qc0) True)) <| .ok (.inl ((z3, ()))))
 (.ite (i1.1 == (↑2 : Int))
 (.tt <| .lt (w64 (xk d i 2) : Int) fun z4 => .wV (vt z4 i1.1 <| vQ ∧ vR ∧ vO ∧ wZ n) <| .wV (qX d i ∧ (wY true <| wU (qc2 y1) <| wU (qc0) True)) <| .ok (.inl ((z4, ()))))
 (.ite (i1.1 == (↑1 : Int))
 (.tt <| .lt (w64 (xk d i 1) : Int) fun z5 => .wV (vt z5 i1.1 <| vQ ∧ vR ∧ vO ∧ wZ n) <| .wV (qX d i ∧ (wY true <| wU (qc2 y1) <| wU (qc0) True)) <| .ok (.inl ((z5, ()))))
 (.ite (i1.1 == (↑0 : Int))
 (.tt <| .lt (w64 (xk d i 0) : Int) fun z6 => .wV (vt z6 i1.1 <| vQ ∧ vR ∧ vO ∧ wZ n) <| .wV (qX d i ∧ (wY true <| wU (qc2 y1) <| wU (qc0) True)) <| .ok (.inl ((z6, ()))))
 (.bad)))))))) (aq8 d i n y y1 i1))
 (.triv (asT Int 0 ≤ 4 ∧ 4 < (↑7 : Int)) zc <| .triv (asT Int 5000 ≠ 0) zc <| .triv (asT Int 0 ≤ 0 ∧ 0 < (↑3 : Int)) zc <| .triv (asT Int 0 ≤ 5 ∧ 5 < (↑7 : Int)) zc <| .triv (asT Int 12700 ≠ 0) zc <| .triv (asT Int 0 ≤ 1 ∧ 1 < (↑3 : Int)) zc <| .triv (asT Int 0 ≤ 6 ∧ 6 < (↑7 : Int)) zc <| .triv (asT Int 12700 ≠ 0) zc <| .triv (asT Int 0 ≤ 2 ∧ 2 < (↑3 : Int)) zc <| .ok (.inr (((#[112].toList ++ y1.1, [], [w64 (5000 + Int.tmod (w64 (xk d i 4)) 5000), Int.tmod (w64 (xk d i 5)) 12700, Int.tmod (w64 (xk d i 6)) 12700], ()), ())))))
 (.ite (decide (i1.1 < n))
 (.join 5 (ι := (Int) × Unit) (.need (inb i1.1 (↑7 : Int)) <| .ite (i1.1 == (↑6 : Int))
 (.tt <| .lt (w64 (xk d i 6) : Int) fun z10 => .wV (vt z10 i1.1 <| vQ ∧ vR ∧ vO ∧ wZ n) <| .wV (wU (vq 3 i1.2.2.1) <| qX d i ∧ (wY true <| wU (qc1 y1 i1) <| wU (qc0) True)) <| .ok (.inl ((z10, ()))))
 (.ite (i1.1 == (↑5 : Int))
 (.tt <| .lt (w64 (xk d i 5) : Int) fun z11 => .wV (vt z11 i1.1 <| vQ ∧ vR ∧ vO ∧ wZ n) <| .wV (wU (vq 3 i1.2.2.1) <| qX d i ∧ (wY true <| wU (qc1 y1 i1) <| wU (qc0) True)) <| .ok (.inl ((z11, ()))))
 (.ite (i1.1 == (↑4 : Int))
 (.tt <| .lt (w64 (xk d i 4) : Int) fun z12 => .wV (vt z12 i1.1 <| vQ ∧ vR ∧ vO ∧ wZ n) <| .wV (wU (vq 3 i1.2.2.1) <| qX d i ∧ (wY true <| wU (qc1 y1 i1) <| wU (qc0) True)) <| .ok (.inl ((z12, ()))))
 (.ite (i1.1 == (↑3 : Int))
 (.tt <| .lt (w64 (xk d i 3) : Int) fun z13 => .wV (vt z13 i1.1 <| vQ ∧ vR ∧ vO ∧ wZ n) <| .wV (wU (vq 3 i1.2.2.1) <| qX d i ∧ (wY true <| wU (qc1 y1 i1) <| wU (qc0) True)) <| .ok (.inl ((z13, ()))))
 (.ite (i1.1 == (↑2 : Int))
 (.tt <| .lt (w64 (xk d i 2) : Int) fun z14 => .wV (vt z14 i1.1 <| vQ ∧ vR ∧ vO ∧ wZ n) <| .wV (wU (vq 3 i1.2.2.1) <| qX d i ∧ (wY true <| wU (qc1 y1 i1) <| wU (qc0) True)) <| .ok (.inl ((z14, ()))))
 (.ite (i1.1 == (↑1 : Int))
 (.tt <| .lt (w64 (xk d i 1) : Int) fun z15 => .wV (vt z15 i1.1 <| vQ ∧ vR ∧ vO ∧ wZ n) <| .wV (wU (vq 3 i1.2.2.1) <| qX d i ∧ (wY true <| wU (qc1 y1 i1) <| wU (qc0) True)) <| .ok (.inl ((z15, ()))))
 (.ite (i1.1 == (↑0 : Int))
 (.tt <| .lt (w64 (xk d i 0) : Int) fun z16 => .wV (vt z16 i1.1 <| vQ ∧ vR ∧ vO ∧ wZ n) <| .wV (wU (vq 3 i1.2.2.1) <| qX d i ∧ (wY true <| wU (qc1 y1 i1) <| wU (qc0) True)) <| .ok (.inl ((z16, ()))))
 (.bad)))))))) (aq6 d i n y y1 i1))
 (.triv (asT Int 0 ≤ 4 ∧ 4 < (↑7 : Int)) zc <| .triv (asT Int 5000 ≠ 0) zc <| .triv (asT Int 0 ≤ 0 ∧ 0 < (↑3 : Int)) zc <| .triv (asT Int 0 ≤ 5 ∧ 5 < (↑7 : Int)) zc <| .triv (asT Int 12700 ≠ 0) zc <| .triv (asT Int 0 ≤ 1 ∧ 1 < (↑3 : Int)) zc <| .triv (asT Int 0 ≤ 6 ∧ 6 < (↑7 : Int)) zc <| .triv (asT Int 12700 ≠ 0) zc <| .triv (asT Int 0 ≤ 2 ∧ 2 < (↑3 : Int)) zc <| .ok (.inr (((#[112].toList ++ y1.1, List.take (List.length i1.2.2.1) i1.2.2.1, [w64 (5000 + Int.tmod (w64 (xk d i 4)) 5000), Int.tmod (w64 (xk d i 5)) 12700, Int.tmod (w64 (xk d i 6)) 12700], ()), ())))))
def ahD (d : DrT) (i : Int) (n : Int) : TT (PtT × Unit) :=
 .tt <| .tt <| .call (abP (i, ())) Df6 fun y =>
 .call (akK (y.1, ())) Df7 fun y1 =>
 .need (List.length #[112].toList + List.length y1.1 ≤ lim) <| .need (inb i (len d.2.1)) <| .loop 0 (.tt <| .wV (wY (0 : Int) <| vQ ∧ vR ∧ vO ∧ wZ n) <| .wV (qX d i ∧ (wY true <| wU (qc2 y1) <| wU (qc0) True)) <| .ok ((0, true, [], ()))) (aq9 d i n y y1)
end
noncomputable def ahQ (x : DrT × Int × Int × Unit) : Option (PtT × Unit) := (ahD x.1 x.2.1 x.2.2.1).toO
set_option maxRecDepth 100000
open Go Go.Vg Go.Proofs
noncomputable section
def aw6 : LTab := [(7, 122, 10242, ⟨0, (Int) × Bool × (List PtT) × Unit, .dat (.s 5) vC <| .appN (.s 4) 10 36 aMf <| .nil, [3, 2, 1], [0], 1⟩)]
def acH (d : DrT) : TT (((Int) × Bool × (List PtT) × Unit) ⊕ (List PtT × Unit)) :=
 .need (0 ≤ w64 (1 + w64 (Int.tmod d.1 4)) ∧ w64 (1 + w64 (Int.tmod d.1 4)) ≤ w64 (1 + w64 (Int.tmod d.1 4)) ∧ w64 (1 + w64 (Int.tmod d.1 4)) * (↑8 : Int) ≤ 140737488355328) <| .ok (.inr (([(#[112].toList, List.take (Int.toNat (w64 (1 + w64 (Int.tmod d.1 4)))) (List.replicate (Int.toNat (w64 (1 + w64 (Int.tmod d.1 4)))) 0), [0, 0, 0], ())], ())))
def akW (d : DrT) (i : (Int) × Bool × (List PtT) × Unit) : TT (((Int) × Bool × (List PtT) × Unit) ⊕ (List PtT × Unit)) :=
 .ite (i.2.1)
 (.ite (decide (i.1 < len d.2.1))
  (.ite (decide (i.1 < 12))
   (.call (ahQ ((d.1, d.2.1, ()), i.1, w64 (1 + w64 (Int.tmod d.1 4)), ())) Df8 fun y =>
    .need (1 * 64 ≤ 140737488355328) <| .tt <| .lt (w64 (i.1 + 1) : Int) fun z1 => .lt ([(y.1.1, y.1.2.1, (l3 y.1.2.2.1), ())] : List PtT) fun z2 => .wV ((vo 10 0 1 true) ∧ (vt z1 (w64 (1 + w64 (Int.tmod d.1 4))) <| True ∧ vM ∧ True)) <| .wV (wU (vq 36 z2) <| wU (vj 24 d.1 d.2.1) True) <| .ok (.inl ((z1, false, z2, ()))))
   (acH d))
  (acH d))
 (.ite (decide (i.1 < len d.2.1))
  (.ite (decide (i.1 < 12))
   (.call (ahQ ((d.1, d.2.1, ()), i.1, w64 (1 + w64 (Int.tmod d.1 4)), ())) Df8 fun y1 =>
    .need ((List.length i.2.2.1 + 1) * 64 ≤ 140737488355328) <| .tt <| .lt (w64 (i.1 + 1) : Int) fun z3 => .lt (List.take (List.length i.2.2.1) i.2.2.1 ++ [(y1.1.1, y1.1.2.1, (l3 y1.1.2.2.1), ())] : List PtT) fun z4 => .need ((((10) = (10)) ∧ (((0) = (0)) ∧ ((List.length i.2.2.1 + 1 = List.length z4) ∧ ((true) = (true))))) ∧ ((z3 : Int) = z3) ∧ ((w64 (1 + w64 (Int.tmod d.1 4)) : Int) = w64 (1 + w64 (Int.tmod d.1 4))) ∧ True ∧ (((0) = (0)) ∧ (((0) = (0)) ∧ ((true) = (true)))) ∧ True) <| .wV (wU (vq 36 z4) <| wU (vj 24 d.1 d.2.1) True) <| .ok (.inl ((z3, false, z4, ()))))
   (.ite (len i.2.2.1 == 0)
    (acH d)
    (.ok (.inr ((List.take (List.length i.2.2.1) i.2.2.1, ()))))))
  (.ite (len i.2.2.1 == 0)
   (acH d)
   (.ok (.inr ((List.take (List.length i.2.2.1) i.2.2.1, ()))))))
def ad7 (d : DrT) : TT (List PtT × Unit) :=
 .triv (asT Int 4 ≠ 0) zc <| .loop 0 (.tt <| .lt ([] : List PtT) fun z => .wV (True ∧ (vt (0 : Int) (w64 (1 + w64 (Int.tmod d.1 4))) <| True ∧ vM ∧ True)) <| .wV (wU (vj 24 d.1 d.2.1) True) <| .ok ((0, true, z, ()))) (akW d)
end
noncomputable def adA (x : DrT × Unit) : Option (List PtT × Unit) := (ad7 x.1).toO
end Go.Vs
