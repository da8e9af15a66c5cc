/-
  Trees of what the functions compute, and their laws. Own work; no condition.
-/
import Derived.Test.YtgibnaibdcbmmaaGreatDoorClL5
import Derived.Test.YtgibnaibdcbmmaaGreatDoorProg
import Derived.KernelRfl
set_option linter.unusedVariables false
set_option linter.unusedSimpArgs false
set_option maxRecDepth 100000
namespace Go.Vs
open Go Go.Vg Go.Proofs
noncomputable section
abbrev BcT := Int × Int × Int × DeT × Unit
abbrev b0D : BcT := (0, 0, 0, d0D, ())
abbrev reB (b : BcT) : BcT := (b.1, b.2.1, b.2.2.1, (reD (b.2.2.2.1.1) b.2.2.2.1), ())
abbrev aOW : Ty := (Ty.pair wx (Ty.pair wx (Ty.pair (Ty.arr 4 (Ty.pair wx (Ty.pair (Ty.sl (Ty.int IntKind.u16)) (Ty.pair (Ty.sl (Ty.pair wx (Ty.pair wL (Ty.pair wL (Ty.pair wL (Ty.pair wx (Ty.pair wx Ty.unit))))))) (Ty.pair Ty.bool wJ))))) (Ty.pair (Ty.arr 4 (Ty.arr 4 wL)) (Ty.pair (Ty.arr 4 wL) (Ty.pair (Ty.pair (Ty.sl wx) (Ty.pair wx (Ty.pair (Ty.sl (Ty.int IntKind.u16)) wJ))) (Ty.pair (Ty.pair wx (Ty.pair wx (Ty.pair (Ty.sl (Ty.pair wx (Ty.pair wL Ty.unit))) Ty.unit))) Ty.unit)))))))
abbrev aXc (b : BcT) : AV := AV.d aOW (asT DeT (reD (b.2.2.2.1.1) b.2.2.2.1))
abbrev lBc (l : List ElT) : Nat := 0 + List.length l
abbrev eBc (l : List ElT) : List ElT := List.take 0 [] ++ l
abbrev iBc (b : BcT) (l : List ElT) : Int := Int.tmod (w64 b.2.1) (↑(lBc l) : Int)
abbrev jBc (b : BcT) (l : List ElT) : Int := w64 (iBc b l + 1)
abbrev tBc (b : BcT) (l : List ElT) : List ElT := List.take (lBc l - Int.toNat (jBc b l)) (List.drop (0 + Int.toNat (jBc b l)) (eBc l))
abbrev bBc (k : Nat) (l : List ElT) : Bool := Nat.beq k k && Nat.beq 0 0 && Nat.beq (lBc l) (lBc l)
abbrev sIc {α : Type} (n : Int) (x : TT α) : TT α := .triv (auQ (AV.d xW (asT Int n)) (AV.d xW (asT Int n))) rfl x
abbrev sXc {α : Type} (b : BcT) (x : TT α) : TT α := .triv (auQ (aXc b) (aXc b)) rfl x
def aED : LTab := [(49, 1007612, 28675, ⟨0, (List ElT) × Unit, .dat (.c 1 1) (Ty.sl tyE) <| .nil, [5, 4, 3], [2, 1], 0⟩), (49, 128974378, 51209, ⟨1, (Int) × Bool × (List CvT) × Unit, .dat (.s 113) xW <| .appN (.c 46 1) 50 111 tyV <| .nil, [112, 111, 9, 110, 109, 108, 105, 107, 106, 104, 103, 100, 102, 101, 99, 98, 97, 96, 95, 94, 93, 5, 4, 3], [46, 2, 1], 1⟩), (49, 128974378, 51207, ⟨2, (Int) × Bool × (List CvT) × Unit, .dat (.s 113) xW <| .appN (.c 46 1) 50 111 tyV <| .nil, [112, 111, 9, 110, 109, 108, 105, 107, 106, 104, 103, 100, 102, 101, 99, 98, 97, 96, 95, 94, 93, 5, 4, 3], [46, 2, 1], 1⟩), (49, 1007612, 30721, ⟨3, (List ElT) × Unit, .dat (.c 1 1) (Ty.sl tyE) <| .nil, [5, 4, 3], [2, 1], 0⟩), (49, 128974378, 53255, ⟨4, (Int) × Bool × (List CvT) × Unit, .dat (.s 113) xW <| .appN (.c 48 1) 52 111 tyV <| .nil, [112, 111, 9, 110, 109, 108, 105, 107, 106, 104, 103, 100, 102, 101, 99, 98, 97, 96, 95, 94, 93, 5, 4, 3], [48, 2, 1], 1⟩), (49, 1007612, 31745, ⟨5, (List ElT) × Unit, .dat (.c 1 1) (Ty.sl tyE) <| .nil, [5, 4, 3], [2, 1], 0⟩), (49, 128974378, 54279, ⟨6, (Int) × Bool × (List CvT) × Unit, .dat (.s 113) xW <| .appN (.c 49 1) 53 111 tyV <| .nil, [112, 111, 9, 110, 109, 108, 105, 107, 106, 104, 103, 100, 102, 101, 99, 98, 97, 96, 95, 94, 93, 5, 4, 3], [49, 9, 2, 1], 1⟩), (49, 1966, 777777777, uS), (49, 62966, 777777777, uS), (49, 251894, 777777777, uS), (49, 1007606, 777777777, uS), (97, 12, 777777777, uS), (99, 6, 777777777, uS), (99, 62, 777777777, uS), (99, 126, 777777777, uS)]
def amF (b : BcT) (c : ChT) (i : List ElT × Unit) (i1 : (Int) × Bool × (List CvT) × Unit) : TT (((Int) × Bool × (List CvT) × Unit) ⊕ (((List ElT) × Unit) ⊕ (ChT × Unit))) :=
 .ite (i1.2.1)
 (.ite (decide (i1.1 < c.1))
 (.triv (1 * 56 ≤ 140737488355328) zd <| .tt <| .lt (w64 (i1.1 + 1) : Int) fun z2 => .lt ([(1, [], [], ())] : List CvT) fun z3 => .xC (xO z2 c.1 <| wa ∧ ((xI 46 0 true) ∧ (wn ∧ (xJ (decide (c.1 ≤ 4)) (decide (c.1 ≤ 4)) true c.1 <| wa ∧ (xJ (decide (c.1 ≥ 1)) (decide (c.1 ≥ 1)) true c.1 <| wa ∧ (xS (decide (len i.1 < w64 (8 + Int.tmod (w64 b.2.1) 2))) (w64 (8 + Int.tmod (w64 b.2.1) 2)) (Int.tmod (w64 b.2.1) 2) (w64 b.2.1 : Int) (len i.1) i.1 <| wA ∧ (xK (w64 b.2.1 : Int) <| wl ∧ wa ∧ True))))))) <| .xC (xB (xR 111 z3) <| xB (xO 82 (1 : Int) <| (xT 50 0 1 true) ∧ xZ) <| xB wc <| xB (xF 49 c.1 i.1) True) <| .ok (.inl ((z2, false, z3, ()))))
 (.need ((1 + List.length i.1) * 176 ≤ 140737488355328) <| .ite (List.isEmpty i.1)
 (.tt <| .lt ([(1, [], [], [], ([], 0, [], ()), [], 0, 0, ())] : List ElT) fun z4 => .xC (xK (w64 b.2.1 : Int) <| wl ∧ wa ∧ True) <| .xC (xB wc <| xB (xF 49 c.1 z4) True) <| .ok (.inr (.inl ((z4, ())))))
 (.tt <| .lt (List.take (1 + List.length i.1) ([(1, [], [], [], ([], 0, [], ()), [], 0, 0, ())] ++ i.1) : List ElT) fun z5 => .xC (xK (w64 b.2.1 : Int) <| wl ∧ wa ∧ True) <| .xC (xB wc <| xB (xF 49 c.1 z5) True) <| .ok (.inr (.inl ((z5, ())))))))
 (.ite (decide (i1.1 < c.1))
 (.need ((List.length i1.2.2.1 + 1) * 56 ≤ 140737488355328) <| .tt <| .lt (w64 (i1.1 + 1) : Int) fun z6 => .lt (List.take (List.length i1.2.2.1) i1.2.2.1 ++ [(1, [], [], ())] : List CvT) fun z7 => .xC (xO z6 c.1 <| wa ∧ ((xI 46 0 true) ∧ (wn ∧ (xJ (decide (c.1 ≤ 4)) (decide (c.1 ≤ 4)) true c.1 <| wa ∧ (xJ (decide (c.1 ≥ 1)) (decide (c.1 ≥ 1)) true c.1 <| wa ∧ (xS (decide (len i.1 < w64 (8 + Int.tmod (w64 b.2.1) 2))) (w64 (8 + Int.tmod (w64 b.2.1) 2)) (Int.tmod (w64 b.2.1) 2) (w64 b.2.1 : Int) (len i.1) i.1 <| wA ∧ (xK (w64 b.2.1 : Int) <| wl ∧ wa ∧ True))))))) <| .need ((((111 : TypeId) = 111) ∧ ((z7 : List CvT) = z7)) ∧ (true = true) ∧ (((82 : TypeId) = 82) ∧ (((1 : Int) = 1) ∧ ((((50) = (50)) ∧ (((0) = (0)) ∧ ((List.length i1.2.2.1 + 1 = List.length z7) ∧ ((true) = (true))))) ∧ (True ∧ (True ∧ (True ∧ (((0 : Int) = 0) ∧ (True ∧ (True ∧ (((0 : Int) = 0) ∧ (((0 : Int) = 0) ∧ True))))))))))) ∧ (true = true) ∧ (((49 : TypeId) = 49) ∧ (((0 : Int) = 0) ∧ wo)) ∧ (true = true) ∧ (((49 : TypeId) = 49) ∧ (((c.1 : Int) = c.1) ∧ (((i.1 : List ElT) = i.1) ∧ True))) ∧ (true = true) ∧ True) <| .ok (.inl ((z6, false, z7, ()))))
 (.need ((1 + List.length i.1) * 176 ≤ 140737488355328) <| .ite (List.isEmpty i.1)
 (.tt <| .lt ([(1, List.take (List.length i1.2.2.1) i1.2.2.1, [], [], ([], 0, [], ()), [], 0, 0, ())] : List ElT) fun z8 => .xC (xK (w64 b.2.1 : Int) <| wl ∧ wa ∧ True) <| .xC (xB wc <| xB (xF 49 c.1 z8) True) <| .ok (.inr (.inl ((z8, ())))))
 (.tt <| .lt (List.take (1 + List.length i.1) ([(1, List.take (List.length i1.2.2.1) i1.2.2.1, [], [], ([], 0, [], ()), [], 0, 0, ())] ++ i.1) : List ElT) fun z9 => .xC (xK (w64 b.2.1 : Int) <| wl ∧ wa ∧ True) <| .xC (xB wc <| xB (xF 49 c.1 z9) True) <| .ok (.inr (.inl ((z9, ())))))))
def amG (b : BcT) (c : ChT) (i : (List ElT) × Unit) : TT (((List ElT) × Unit) ⊕ (ChT × Unit)) :=
 .triv (asT Int 2 ≠ 0) zd <| .ite (decide (len i.1 < w64 (8 + Int.tmod (w64 b.2.1) 2)))
 (.ite (decide (c.1 ≥ 1))
 (.ite (decide (c.1 ≤ 4))
 (.loop 2 (.tt <| .lt ([] : List CvT) fun z1 => .xC (xO (0 : Int) c.1 <| wa ∧ ((xI 46 0 true) ∧ (wn ∧ (xJ (decide (c.1 ≤ 4)) (decide (c.1 ≤ 4)) true c.1 <| wa ∧ (xJ (decide (c.1 ≥ 1)) (decide (c.1 ≥ 1)) true c.1 <| wa ∧ (xS (decide (len i.1 < w64 (8 + Int.tmod (w64 b.2.1) 2))) (w64 (8 + Int.tmod (w64 b.2.1) 2)) (Int.tmod (w64 b.2.1) 2) (w64 b.2.1 : Int) (len i.1) i.1 <| wA ∧ (xK (w64 b.2.1 : Int) <| wl ∧ wa ∧ True))))))) <| .xC (xB wH <| xB wc <| xB (xF 49 c.1 i.1) True) <| .ok ((0, true, z1, ()))) (amF b c i))
 (.ok (.inr (((c.1, i.1, ()), ())))))
 (.ok (.inr (((c.1, i.1, ()), ())))))
 (.ok (.inr (((c.1, i.1, ()), ()))))
def amD (b : BcT) (c : ChT) (i2 : List ElT × Unit) (i3 : (Int) × Bool × (List CvT) × Unit) : TT (((Int) × Bool × (List CvT) × Unit) ⊕ (((List ElT) × Unit) ⊕ (ChT × Unit))) :=
 .ite (i3.2.1)
 (.ite (decide (i3.1 < c.1))
 (.triv (1 * 56 ≤ 140737488355328) zd <| .tt <| .lt (w64 (i3.1 + 1) : Int) fun z12 => .lt ([(1, [], [], ())] : List CvT) fun z13 => .xC (xO z12 c.1 <| wa ∧ (wR ∧ (wn ∧ (xJ (decide (c.1 ≤ 4)) (decide (c.1 ≤ 4)) true c.1 <| wa ∧ (xJ (decide (c.1 ≥ 1)) (decide (c.1 ≥ 1)) true c.1 <| wa ∧ (xS (decide (len i2.1 < w64 (8 + Int.tmod (w64 b.2.1) 2))) (w64 (8 + Int.tmod (w64 b.2.1) 2)) (Int.tmod (w64 b.2.1) 2) (w64 b.2.1 : Int) (len i2.1) i2.1 <| wA ∧ (xK (w64 b.2.1 : Int) <| wl ∧ wa ∧ True))))))) <| .xC (xB (xR 111 z13) <| xB (xO 82 (1 : Int) <| (xT 52 0 1 true) ∧ xZ) <| xB wc <| xB (xF 49 c.1 i2.1) True) <| .ok (.inl ((z12, false, z13, ()))))
 (.need ((1 + List.length i2.1) * 176 ≤ 140737488355328) <| .ite (List.isEmpty i2.1)
 (.tt <| .lt ([(1, [], [], [], ([], 0, [], ()), [], 0, 0, ())] : List ElT) fun z14 => .xC (xK (w64 b.2.1 : Int) <| wl ∧ wa ∧ True) <| .xC (xB wc <| xB (xF 49 c.1 z14) True) <| .ok (.inr (.inl ((z14, ())))))
 (.tt <| .lt (List.take (1 + List.length i2.1) ([(1, [], [], [], ([], 0, [], ()), [], 0, 0, ())] ++ i2.1) : List ElT) fun z15 => .xC (xK (w64 b.2.1 : Int) <| wl ∧ wa ∧ True) <| .xC (xB wc <| xB (xF 49 c.1 z15) True) <| .ok (.inr (.inl ((z15, ())))))))
 (.ite (decide (i3.1 < c.1))
 (.need ((List.length i3.2.2.1 + 1) * 56 ≤ 140737488355328) <| .tt <| .lt (w64 (i3.1 + 1) : Int) fun z16 => .lt (List.take (List.length i3.2.2.1) i3.2.2.1 ++ [(1, [], [], ())] : List CvT) fun z17 => .xC (xO z16 c.1 <| wa ∧ (wR ∧ (wn ∧ (xJ (decide (c.1 ≤ 4)) (decide (c.1 ≤ 4)) true c.1 <| wa ∧ (xJ (decide (c.1 ≥ 1)) (decide (c.1 ≥ 1)) true c.1 <| wa ∧ (xS (decide (len i2.1 < w64 (8 + Int.tmod (w64 b.2.1) 2))) (w64 (8 + Int.tmod (w64 b.2.1) 2)) (Int.tmod (w64 b.2.1) 2) (w64 b.2.1 : Int) (len i2.1) i2.1 <| wA ∧ (xK (w64 b.2.1 : Int) <| wl ∧ wa ∧ True))))))) <| .need ((((111 : TypeId) = 111) ∧ ((z17 : List CvT) = z17)) ∧ (true = true) ∧ (((82 : TypeId) = 82) ∧ (((1 : Int) = 1) ∧ ((((52) = (52)) ∧ (((0) = (0)) ∧ ((List.length i3.2.2.1 + 1 = List.length z17) ∧ ((true) = (true))))) ∧ (True ∧ (True ∧ (True ∧ (((0 : Int) = 0) ∧ (True ∧ (True ∧ (((0 : Int) = 0) ∧ (((0 : Int) = 0) ∧ True))))))))))) ∧ (true = true) ∧ (((49 : TypeId) = 49) ∧ (((0 : Int) = 0) ∧ wo)) ∧ (true = true) ∧ (((49 : TypeId) = 49) ∧ (((c.1 : Int) = c.1) ∧ (((i2.1 : List ElT) = i2.1) ∧ True))) ∧ (true = true) ∧ True) <| .ok (.inl ((z16, false, z17, ()))))
 (.need ((1 + List.length i2.1) * 176 ≤ 140737488355328) <| .ite (List.isEmpty i2.1)
 (.tt <| .lt ([(1, List.take (List.length i3.2.2.1) i3.2.2.1, [], [], ([], 0, [], ()), [], 0, 0, ())] : List ElT) fun z18 => .xC (xK (w64 b.2.1 : Int) <| wl ∧ wa ∧ True) <| .xC (xB wc <| xB (xF 49 c.1 z18) True) <| .ok (.inr (.inl ((z18, ())))))
 (.tt <| .lt (List.take (1 + List.length i2.1) ([(1, List.take (List.length i3.2.2.1) i3.2.2.1, [], [], ([], 0, [], ()), [], 0, 0, ())] ++ i2.1) : List ElT) fun z19 => .xC (xK (w64 b.2.1 : Int) <| wl ∧ wa ∧ True) <| .xC (xB wc <| xB (xF 49 c.1 z19) True) <| .ok (.inr (.inl ((z19, ())))))))
def amE (b : BcT) (c : ChT) (i2 : (List ElT) × Unit) : TT (((List ElT) × Unit) ⊕ (ChT × Unit)) :=
 .triv (asT Int 2 ≠ 0) zd <| .ite (decide (len i2.1 < w64 (8 + Int.tmod (w64 b.2.1) 2)))
 (.ite (decide (c.1 ≥ 1))
 (.ite (decide (c.1 ≤ 4))
 (.loop 4 (.tt <| .lt ([] : List CvT) fun z11 => .xC (xO (0 : Int) c.1 <| wa ∧ (wR ∧ (wn ∧ (xJ (decide (c.1 ≤ 4)) (decide (c.1 ≤ 4)) true c.1 <| wa ∧ (xJ (decide (c.1 ≥ 1)) (decide (c.1 ≥ 1)) true c.1 <| wa ∧ (xS (decide (len i2.1 < w64 (8 + Int.tmod (w64 b.2.1) 2))) (w64 (8 + Int.tmod (w64 b.2.1) 2)) (Int.tmod (w64 b.2.1) 2) (w64 b.2.1 : Int) (len i2.1) i2.1 <| wA ∧ (xK (w64 b.2.1 : Int) <| wl ∧ wa ∧ True))))))) <| .xC (xB wH <| xB wc <| xB (xF 49 c.1 i2.1) True) <| .ok ((0, true, z11, ()))) (amD b c i2))
 (.ok (.inr (((c.1, i2.1, ()), ())))))
 (.ok (.inr (((c.1, i2.1, ()), ())))))
 (.ok (.inr (((c.1, i2.1, ()), ()))))
def aBY (b : BcT) (c : ChT) (i4 : List ElT × Unit) (i5 : (Int) × Bool × (List CvT) × Unit) : TT (((Int) × Bool × (List CvT) × Unit) ⊕ (((List ElT) × Unit) ⊕ (ChT × Unit))) :=
 .ite (i5.2.1)
 (.ite (decide (i5.1 < c.1))
 (.triv (1 * 56 ≤ 140737488355328) zd <| .tt <| .lt (w64 (i5.1 + 1) : Int) fun z22 => .lt ([(1, [], [], ())] : List CvT) fun z23 => .xC (xO z22 c.1 <| wa ∧ (wS ∧ (wn ∧ (xJ (decide (c.1 ≤ 4)) (decide (c.1 ≤ 4)) true c.1 <| wa ∧ (xJ (decide (c.1 ≥ 1)) (decide (c.1 ≥ 1)) true c.1 <| wa ∧ (xS (decide (len i4.1 < w64 (8 + Int.tmod (w64 b.2.1) 2))) (w64 (8 + Int.tmod (w64 b.2.1) 2)) (Int.tmod (w64 b.2.1) 2) (w64 b.2.1 : Int) (len i4.1) i4.1 <| wA ∧ (xK (w64 b.2.1 : Int) <| wl ∧ wa ∧ True))))))) <| .xC (xB (xR 111 z23) <| xB (xO 82 (1 : Int) <| (xT 53 0 1 true) ∧ xZ) <| xB wc <| xB (xF 49 c.1 i4.1) True) <| .ok (.inl ((z22, false, z23, ()))))
 (.need ((1 + List.length i4.1) * 176 ≤ 140737488355328) <| .ite (List.isEmpty i4.1)
 (.tt <| .lt ([(1, [], [], [], ([], 0, [], ()), [], 0, 0, ())] : List ElT) fun z24 => .xC (xK (w64 b.2.1 : Int) <| wl ∧ wa ∧ True) <| .xC (xB wc <| xB (xF 49 c.1 z24) True) <| .ok (.inr (.inl ((z24, ())))))
 (.tt <| .lt (List.take (1 + List.length i4.1) ([(1, [], [], [], ([], 0, [], ()), [], 0, 0, ())] ++ i4.1) : List ElT) fun z25 => .xC (xK (w64 b.2.1 : Int) <| wl ∧ wa ∧ True) <| .xC (xB wc <| xB (xF 49 c.1 z25) True) <| .ok (.inr (.inl ((z25, ())))))))
 (.ite (decide (i5.1 < c.1))
 (.need ((List.length i5.2.2.1 + 1) * 56 ≤ 140737488355328) <| .tt <| .lt (w64 (i5.1 + 1) : Int) fun z26 => .lt (List.take (List.length i5.2.2.1) i5.2.2.1 ++ [(1, [], [], ())] : List CvT) fun z27 => .xC (xO z26 c.1 <| wa ∧ (wS ∧ (wn ∧ (xJ (decide (c.1 ≤ 4)) (decide (c.1 ≤ 4)) true c.1 <| wa ∧ (xJ (decide (c.1 ≥ 1)) (decide (c.1 ≥ 1)) true c.1 <| wa ∧ (xS (decide (len i4.1 < w64 (8 + Int.tmod (w64 b.2.1) 2))) (w64 (8 + Int.tmod (w64 b.2.1) 2)) (Int.tmod (w64 b.2.1) 2) (w64 b.2.1 : Int) (len i4.1) i4.1 <| wA ∧ (xK (w64 b.2.1 : Int) <| wl ∧ wa ∧ True))))))) <| .need ((((111 : TypeId) = 111) ∧ ((z27 : List CvT) = z27)) ∧ (true = true) ∧ (((82 : TypeId) = 82) ∧ (((1 : Int) = 1) ∧ ((((53) = (53)) ∧ (((0) = (0)) ∧ ((List.length i5.2.2.1 + 1 = List.length z27) ∧ ((true) = (true))))) ∧ (True ∧ (True ∧ (True ∧ (((0 : Int) = 0) ∧ (True ∧ (True ∧ (((0 : Int) = 0) ∧ (((0 : Int) = 0) ∧ True))))))))))) ∧ (true = true) ∧ (((49 : TypeId) = 49) ∧ (((0 : Int) = 0) ∧ wo)) ∧ (true = true) ∧ (((49 : TypeId) = 49) ∧ (((c.1 : Int) = c.1) ∧ (((i4.1 : List ElT) = i4.1) ∧ True))) ∧ (true = true) ∧ True) <| .ok (.inl ((z26, false, z27, ()))))
 (.need ((1 + List.length i4.1) * 176 ≤ 140737488355328) <| .ite (List.isEmpty i4.1)
 (.tt <| .lt ([(1, List.take (List.length i5.2.2.1) i5.2.2.1, [], [], ([], 0, [], ()), [], 0, 0, ())] : List ElT) fun z28 => .xC (xK (w64 b.2.1 : Int) <| wl ∧ wa ∧ True) <| .xC (xB wc <| xB (xF 49 c.1 z28) True) <| .ok (.inr (.inl ((z28, ())))))
 (.tt <| .lt (List.take (1 + List.length i4.1) ([(1, List.take (List.length i5.2.2.1) i5.2.2.1, [], [], ([], 0, [], ()), [], 0, 0, ())] ++ i4.1) : List ElT) fun z29 => .xC (xK (w64 b.2.1 : Int) <| wl ∧ wa ∧ True) <| .xC (xB wc <| xB (xF 49 c.1 z29) True) <| .ok (.inr (.inl ((z29, ())))))))
def aBZ (b : BcT) (c : ChT) (i4 : (List ElT) × Unit) : TT (((List ElT) × Unit) ⊕ (ChT × Unit)) :=
 .triv (asT Int 2 ≠ 0) zd <| .ite (decide (len i4.1 < w64 (8 + Int.tmod (w64 b.2.1) 2)))
 (.ite (decide (c.1 ≥ 1))
 (.ite (decide (c.1 ≤ 4))
 (.loop 6 (.tt <| .lt ([] : List CvT) fun z21 => .xC (xO (0 : Int) c.1 <| wa ∧ (wS ∧ (wn ∧ (xJ (decide (c.1 ≤ 4)) (decide (c.1 ≤ 4)) true c.1 <| wa ∧ (xJ (decide (c.1 ≥ 1)) (decide (c.1 ≥ 1)) true c.1 <| wa ∧ (xS (decide (len i4.1 < w64 (8 + Int.tmod (w64 b.2.1) 2))) (w64 (8 + Int.tmod (w64 b.2.1) 2)) (Int.tmod (w64 b.2.1) 2) (w64 b.2.1 : Int) (len i4.1) i4.1 <| wA ∧ (xK (w64 b.2.1 : Int) <| wl ∧ wa ∧ True))))))) <| .xC (xB wH <| xB wc <| xB (xF 49 c.1 i4.1) True) <| .ok ((0, true, z21, ()))) (aBY b c i4))
 (.ok (.inr (((c.1, i4.1, ()), ())))))
 (.ok (.inr (((c.1, i4.1, ()), ())))))
 (.ok (.inr (((c.1, i4.1, ()), ()))))
def aBW (b : BcT) (c : ChT) (i6 : List ElT × Unit) (i7 : (Int) × Bool × (List CvT) × Unit) : TT (((Int) × Bool × (List CvT) × Unit) ⊕ (((List ElT) × Unit) ⊕ (ChT × Unit))) :=
 .ite (i7.2.1)
 (.ite (decide (i7.1 < c.1))
 (.triv (1 * 56 ≤ 140737488355328) zd <| .tt <| .lt (w64 (i7.1 + 1) : Int) fun z32 => .lt ([(1, [], [], ())] : List CvT) fun z33 => .xC (xO z32 c.1 <| wa ∧ (wR ∧ (wn ∧ (xJ (decide (c.1 ≤ 4)) (decide (c.1 ≤ 4)) true c.1 <| wa ∧ (xJ (decide (c.1 ≥ 1)) (decide (c.1 ≥ 1)) true c.1 <| wa ∧ (xS (decide (len i6.1 < w64 (8 + Int.tmod (w64 b.2.1) 2))) (w64 (8 + Int.tmod (w64 b.2.1) 2)) (Int.tmod (w64 b.2.1) 2) (w64 b.2.1 : Int) (len i6.1) i6.1 <| wA ∧ (xK (w64 b.2.1 : Int) <| wl ∧ wa ∧ True))))))) <| .xC (xB (xR 111 z33) <| xB (xO 82 (1 : Int) <| (xT 52 0 1 true) ∧ xZ) <| xB wc <| xB (xF 49 c.1 i6.1) True) <| .ok (.inl ((z32, false, z33, ()))))
 (.need ((1 + List.length i6.1) * 176 ≤ 140737488355328) <| .ite (List.isEmpty i6.1)
 (.tt <| .lt ([(1, [], [], [], ([], 0, [], ()), [], 0, 0, ())] : List ElT) fun z34 => .xC (xK (w64 b.2.1 : Int) <| wl ∧ wa ∧ True) <| .xC (xB wc <| xB (xF 49 c.1 z34) True) <| .ok (.inr (.inl ((z34, ())))))
 (.tt <| .lt (List.take (1 + List.length i6.1) ([(1, [], [], [], ([], 0, [], ()), [], 0, 0, ())] ++ i6.1) : List ElT) fun z35 => .xC (xK (w64 b.2.1 : Int) <| wl ∧ wa ∧ True) <| .xC (xB wc <| xB (xF 49 c.1 z35) True) <| .ok (.inr (.inl ((z35, ())))))))
 (.ite (decide (i7.1 < c.1))
 (.need ((List.length i7.2.2.1 + 1) * 56 ≤ 140737488355328) <| .tt <| .lt (w64 (i7.1 + 1) : Int) fun z36 => .lt (List.take (List.length i7.2.2.1) i7.2.2.1 ++ [(1, [], [], ())] : List CvT) fun z37 => .xC (xO z36 c.1 <| wa ∧ (wR ∧ (wn ∧ (xJ (decide (c.1 ≤ 4)) (decide (c.1 ≤ 4)) true c.1 <| wa ∧ (xJ (decide (c.1 ≥ 1)) (decide (c.1 ≥ 1)) true c.1 <| wa ∧ (xS (decide (len i6.1 < w64 (8 + Int.tmod (w64 b.2.1) 2))) (w64 (8 + Int.tmod (w64 b.2.1) 2)) (Int.tmod (w64 b.2.1) 2) (w64 b.2.1 : Int) (len i6.1) i6.1 <| wA ∧ (xK (w64 b.2.1 : Int) <| wl ∧ wa ∧ True))))))) <| .need ((((111 : TypeId) = 111) ∧ ((z37 : List CvT) = z37)) ∧ (true = true) ∧ (((82 : TypeId) = 82) ∧ (((1 : Int) = 1) ∧ ((((52) = (52)) ∧ (((0) = (0)) ∧ ((List.length i7.2.2.1 + 1 = List.length z37) ∧ ((true) = (true))))) ∧ (True ∧ (True ∧ (True ∧ (((0 : Int) = 0) ∧ (True ∧ (True ∧ (((0 : Int) = 0) ∧ (((0 : Int) = 0) ∧ True))))))))))) ∧ (true = true) ∧ (((49 : TypeId) = 49) ∧ (((0 : Int) = 0) ∧ wo)) ∧ (true = true) ∧ (((49 : TypeId) = 49) ∧ (((c.1 : Int) = c.1) ∧ (((i6.1 : List ElT) = i6.1) ∧ True))) ∧ (true = true) ∧ True) <| .ok (.inl ((z36, false, z37, ()))))
 (.need ((1 + List.length i6.1) * 176 ≤ 140737488355328) <| .ite (List.isEmpty i6.1)
 (.tt <| .lt ([(1, List.take (List.length i7.2.2.1) i7.2.2.1, [], [], ([], 0, [], ()), [], 0, 0, ())] : List ElT) fun z38 => .xC (xK (w64 b.2.1 : Int) <| wl ∧ wa ∧ True) <| .xC (xB wc <| xB (xF 49 c.1 z38) True) <| .ok (.inr (.inl ((z38, ())))))
 (.tt <| .lt (List.take (1 + List.length i6.1) ([(1, List.take (List.length i7.2.2.1) i7.2.2.1, [], [], ([], 0, [], ()), [], 0, 0, ())] ++ i6.1) : List ElT) fun z39 => .xC (xK (w64 b.2.1 : Int) <| wl ∧ wa ∧ True) <| .xC (xB wc <| xB (xF 49 c.1 z39) True) <| .ok (.inr (.inl ((z39, ())))))))
def aBX (b : BcT) (c : ChT) (i6 : (List ElT) × Unit) : TT (((List ElT) × Unit) ⊕ (ChT × Unit)) :=
 .triv (asT Int 2 ≠ 0) zd <| .ite (decide (len i6.1 < w64 (8 + Int.tmod (w64 b.2.1) 2)))
 (.ite (decide (c.1 ≥ 1))
 (.ite (decide (c.1 ≤ 4))
 (.loop 4 (.tt <| .lt ([] : List CvT) fun z31 => .xC (xO (0 : Int) c.1 <| wa ∧ (wR ∧ (wn ∧ (xJ (decide (c.1 ≤ 4)) (decide (c.1 ≤ 4)) true c.1 <| wa ∧ (xJ (decide (c.1 ≥ 1)) (decide (c.1 ≥ 1)) true c.1 <| wa ∧ (xS (decide (len i6.1 < w64 (8 + Int.tmod (w64 b.2.1) 2))) (w64 (8 + Int.tmod (w64 b.2.1) 2)) (Int.tmod (w64 b.2.1) 2) (w64 b.2.1 : Int) (len i6.1) i6.1 <| wA ∧ (xK (w64 b.2.1 : Int) <| wl ∧ wa ∧ True))))))) <| .xC (xB wH <| xB wc <| xB (xF 49 c.1 i6.1) True) <| .ok ((0, true, z31, ()))) (aBW b c i6))
 (.ok (.inr (((c.1, i6.1, ()), ())))))
 (.ok (.inr (((c.1, i6.1, ()), ())))))
 (.ok (.inr (((c.1, i6.1, ()), ()))))
def aj4 (b : BcT) (c : ChT) (i8 : List ElT × Unit) (i9 : (Int) × Bool × (List CvT) × Unit) : TT (((Int) × Bool × (List CvT) × Unit) ⊕ (((List ElT) × Unit) ⊕ (ChT × Unit))) :=
 .ite (i9.2.1)
 (.ite (decide (i9.1 < c.1))
 (.triv (1 * 56 ≤ 140737488355328) zd <| .tt <| .lt (w64 (i9.1 + 1) : Int) fun z42 => .lt ([(1, [], [], ())] : List CvT) fun z43 => .xC (xO z42 c.1 <| wa ∧ (wS ∧ (wn ∧ (xJ (decide (c.1 ≤ 4)) (decide (c.1 ≤ 4)) true c.1 <| wa ∧ (xJ (decide (c.1 ≥ 1)) (decide (c.1 ≥ 1)) true c.1 <| wa ∧ (xS (decide (len i8.1 < w64 (8 + Int.tmod (w64 b.2.1) 2))) (w64 (8 + Int.tmod (w64 b.2.1) 2)) (Int.tmod (w64 b.2.1) 2) (w64 b.2.1 : Int) (len i8.1) i8.1 <| wA ∧ (xK (w64 b.2.1 : Int) <| wl ∧ wa ∧ True))))))) <| .xC (xB (xR 111 z43) <| xB (xO 82 (1 : Int) <| (xT 53 0 1 true) ∧ xZ) <| xB wc <| xB (xF 49 c.1 i8.1) True) <| .ok (.inl ((z42, false, z43, ()))))
 (.need ((1 + List.length i8.1) * 176 ≤ 140737488355328) <| .ite (List.isEmpty i8.1)
 (.tt <| .lt ([(1, [], [], [], ([], 0, [], ()), [], 0, 0, ())] : List ElT) fun z44 => .xC (xK (w64 b.2.1 : Int) <| wl ∧ wa ∧ True) <| .xC (xB wc <| xB (xF 49 c.1 z44) True) <| .ok (.inr (.inl ((z44, ())))))
 (.tt <| .lt (List.take (1 + List.length i8.1) ([(1, [], [], [], ([], 0, [], ()), [], 0, 0, ())] ++ i8.1) : List ElT) fun z45 => .xC (xK (w64 b.2.1 : Int) <| wl ∧ wa ∧ True) <| .xC (xB wc <| xB (xF 49 c.1 z45) True) <| .ok (.inr (.inl ((z45, ())))))))
 (.ite (decide (i9.1 < c.1))
 (.need ((List.length i9.2.2.1 + 1) * 56 ≤ 140737488355328) <| .tt <| .lt (w64 (i9.1 + 1) : Int) fun z46 => .lt (List.take (List.length i9.2.2.1) i9.2.2.1 ++ [(1, [], [], ())] : List CvT) fun z47 => .xC (xO z46 c.1 <| wa ∧ (wS ∧ (wn ∧ (xJ (decide (c.1 ≤ 4)) (decide (c.1 ≤ 4)) true c.1 <| wa ∧ (xJ (decide (c.1 ≥ 1)) (decide (c.1 ≥ 1)) true c.1 <| wa ∧ (xS (decide (len i8.1 < w64 (8 + Int.tmod (w64 b.2.1) 2))) (w64 (8 + Int.tmod (w64 b.2.1) 2)) (Int.tmod (w64 b.2.1) 2) (w64 b.2.1 : Int) (len i8.1) i8.1 <| wA ∧ (xK (w64 b.2.1 : Int) <| wl ∧ wa ∧ True))))))) <| .need ((((111 : TypeId) = 111) ∧ ((z47 : List CvT) = z47)) ∧ (true = true) ∧ (((82 : TypeId) = 82) ∧ (((1 : Int) = 1) ∧ ((((53) = (53)) ∧ (((0) = (0)) ∧ ((List.length i9.2.2.1 + 1 = List.length z47) ∧ ((true) = (true))))) ∧ (True ∧ (True ∧ (True ∧ (((0 : Int) = 0) ∧ (True ∧ (True ∧ (((0 : Int) = 0) ∧ (((0 : Int) = 0) ∧ True))))))))))) ∧ (true = true) ∧ (((49 : TypeId) = 49) ∧ (((0 : Int) = 0) ∧ wo)) ∧ (true = true) ∧ (((49 : TypeId) = 49) ∧ (((c.1 : Int) = c.1) ∧ (((i8.1 : List ElT) = i8.1) ∧ True))) ∧ (true = true) ∧ True) <| .ok (.inl ((z46, false, z47, ()))))
 (.need ((1 + List.length i8.1) * 176 ≤ 140737488355328) <| .ite (List.isEmpty i8.1)
 (.tt <| .lt ([(1, List.take (List.length i9.2.2.1) i9.2.2.1, [], [], ([], 0, [], ()), [], 0, 0, ())] : List ElT) fun z48 => .xC (xK (w64 b.2.1 : Int) <| wl ∧ wa ∧ True) <| .xC (xB wc <| xB (xF 49 c.1 z48) True) <| .ok (.inr (.inl ((z48, ())))))
 (.tt <| .lt (List.take (1 + List.length i8.1) ([(1, List.take (List.length i9.2.2.1) i9.2.2.1, [], [], ([], 0, [], ()), [], 0, 0, ())] ++ i8.1) : List ElT) fun z49 => .xC (xK (w64 b.2.1 : Int) <| wl ∧ wa ∧ True) <| .xC (xB wc <| xB (xF 49 c.1 z49) True) <| .ok (.inr (.inl ((z49, ())))))))
def amC (b : BcT) (c : ChT) (i8 : (List ElT) × Unit) : TT (((List ElT) × Unit) ⊕ (ChT × Unit)) :=
 .triv (asT Int 2 ≠ 0) zd <| .ite (decide (len i8.1 < w64 (8 + Int.tmod (w64 b.2.1) 2)))
 (.ite (decide (c.1 ≥ 1))
 (.ite (decide (c.1 ≤ 4))
 (.loop 6 (.tt <| .lt ([] : List CvT) fun z41 => .xC (xO (0 : Int) c.1 <| wa ∧ (wS ∧ (wn ∧ (xJ (decide (c.1 ≤ 4)) (decide (c.1 ≤ 4)) true c.1 <| wa ∧ (xJ (decide (c.1 ≥ 1)) (decide (c.1 ≥ 1)) true c.1 <| wa ∧ (xS (decide (len i8.1 < w64 (8 + Int.tmod (w64 b.2.1) 2))) (w64 (8 + Int.tmod (w64 b.2.1) 2)) (Int.tmod (w64 b.2.1) 2) (w64 b.2.1 : Int) (len i8.1) i8.1 <| wA ∧ (xK (w64 b.2.1 : Int) <| wl ∧ wa ∧ True))))))) <| .xC (xB wH <| xB wc <| xB (xF 49 c.1 i8.1) True) <| .ok ((0, true, z41, ()))) (aj4 b c i8))
 (.ok (.inr (((c.1, i8.1, ()), ())))))
 (.ok (.inr (((c.1, i8.1, ()), ())))))
 (.ok (.inr (((c.1, i8.1, ()), ()))))
def afM (c : ChT) (b : BcT) : TT (ChT × Unit) :=
 .ite (decide ((↑(lBc c.2.1) : Int) > 0))
 (.need ((↑(lBc c.2.1) : Int) ≠ 0) <| .need ((↑(lBc c.2.1) : Int) ≠ 0) <| .ite (bBc 9 c.2.1)
 (sIc (w64 b.2.1) <| sIc (↑(lBc c.2.1) : Int) <| .need ((↑(lBc c.2.1) : Int) ≠ 0) <| sIc (iBc b c.2.1) <| sIc (w64 b.2.1) <| sIc (↑(lBc c.2.1) : Int) <| .need ((↑(lBc c.2.1) : Int) ≠ 0) <| sIc (iBc b c.2.1) <| sIc (jBc b c.2.1) <| .tt <| .tt <| .need (inc (↑(lBc c.2.1) : Int) (↑(lBc c.2.1) : Int)) <| .need (inc (jBc b c.2.1) (↑(Int.toNat (↑(lBc c.2.1) : Int)) : Int)) <| .need (inc (iBc b c.2.1) (↑(Int.toNat (jBc b c.2.1)) : Int)) <| .ite (iBc b c.2.1 == jBc b c.2.1)
 (.ok (((c.1, List.take (lBc c.2.1) (eBc c.2.1), ()), ())))
 (.ite (bBc 9 c.2.1)
 (sIc (iBc b c.2.1) <| .ite (bBc 9 c.2.1)
 (sIc (jBc b c.2.1) <| .both
 (.need (inc (iBc b c.2.1) (↑(lBc c.2.1) : Int)) <| .ite (bBc 9 c.2.1)
 (sIc (jBc b c.2.1) <| .need (inc (jBc b c.2.1) (↑(lBc c.2.1) : Int)) <| .need (Int.toNat (iBc b c.2.1) + List.length (tBc b c.2.1) ≤ List.length (eBc c.2.1)) <| .need (inc (↑(lBc c.2.1) : Int) (len (over (eBc c.2.1) (Int.toNat (iBc b c.2.1)) (tBc b c.2.1)))) <| .need (inc (↑(Int.toNat (iBc b c.2.1) + List.length (tBc b c.2.1)) : Int) (↑(Int.toNat (↑(lBc c.2.1) : Int)) : Int)) <| .ok (((c.1, List.take (Int.toNat (iBc b c.2.1) + List.length (tBc b c.2.1)) (over (over (eBc c.2.1) (Int.toNat (iBc b c.2.1)) (tBc b c.2.1)) (0 + Int.toNat (↑(Int.toNat (iBc b c.2.1) + List.length (tBc b c.2.1)) : Int)) (List.replicate (Int.toNat (↑(lBc c.2.1) : Int) - Int.toNat (↑(Int.toNat (iBc b c.2.1) + List.length (tBc b c.2.1)) : Int)) e0)), ()), ())))
 (.bad))
 (.need (inc (jBc b c.2.1) (↑(lBc c.2.1) : Int)) <| .ite (bBc 9 c.2.1)
 (sIc (iBc b c.2.1) <| .need (inc (iBc b c.2.1) (↑(lBc c.2.1) : Int)) <| .need (Int.toNat (iBc b c.2.1) + List.length (tBc b c.2.1) ≤ List.length (eBc c.2.1)) <| .need (inc (↑(lBc c.2.1) : Int) (len (over (eBc c.2.1) (Int.toNat (iBc b c.2.1)) (tBc b c.2.1)))) <| .need (inc (↑(Int.toNat (iBc b c.2.1) + List.length (tBc b c.2.1)) : Int) (↑(Int.toNat (↑(lBc c.2.1) : Int)) : Int)) <| .ok (((c.1, List.take (Int.toNat (iBc b c.2.1) + List.length (tBc b c.2.1)) (over (over (eBc c.2.1) (Int.toNat (iBc b c.2.1)) (tBc b c.2.1)) (0 + Int.toNat (↑(Int.toNat (iBc b c.2.1) + List.length (tBc b c.2.1)) : Int)) (List.replicate (Int.toNat (↑(lBc c.2.1) : Int) - Int.toNat (↑(Int.toNat (iBc b c.2.1) + List.length (tBc b c.2.1)) : Int)) e0)), ()), ())))
 (.bad)))
 (.bad))
 (.bad)))
 (.bad))
 (.ok (((c.1, List.take (lBc c.2.1) (eBc c.2.1), ()), ())))
def afL (c : ChT) (b : BcT) : TT (ChT × Unit) :=
 .ite (decide ((↑(lBc c.2.1) : Int) > 0))
 (.need ((↑(lBc c.2.1) : Int) ≠ 0) <| .need (asT Int 4 ≠ 0) <| .ite (bBc 9 c.2.1)
 (sIc (w64 b.2.1) <| sIc (↑(lBc c.2.1) : Int) <| .need ((↑(lBc c.2.1) : Int) ≠ 0) <| sIc (iBc b c.2.1) <| sXc b <| sIc (w64 b.2.1) <| .need (asT Int 4 ≠ 0) <| sIc (Int.tmod (w64 b.2.1) 4) <| sIc (w64 (1 + Int.tmod (w64 b.2.1) 4)) <| .call (aa5 ((reD (b.2.2.2.1.1) b.2.2.2.1), w64 (1 + Int.tmod (w64 b.2.1) 4), ())) Dz9 fun y3 =>
 .ite (bBc 9 c.2.1)
 (sIc (w64 b.2.1) <| sIc (↑(lBc c.2.1) : Int) <| .need ((↑(lBc c.2.1) : Int) ≠ 0) <| sIc (iBc b c.2.1) <| .need (inb (iBc b c.2.1) (↑(lBc c.2.1) : Int)) <| .ok (((c.1, List.take (lBc c.2.1) (List.set (eBc c.2.1) (0 + Int.toNat (iBc b c.2.1)) y3.1), ()), ())))
 (.bad))
 (.bad))
 (.ok (((c.1, List.take (lBc c.2.1) (eBc c.2.1), ()), ())))
def afK (b : BcT) (c : ChT) : TT (ChT × Unit) :=
 .triv (asT Int 4 ≠ 0) zd <| .triv (auQ (AV.ox 7 0 0) (AV.ox 7 0 0)) rfl <| sXc b <| sIc (w64 b.2.1) <| .triv (asT Int 4 ≠ 0) zd <| sIc (Int.tmod (w64 b.2.1) 4) <| sIc (w64 (1 + Int.tmod (w64 b.2.1) 4)) <| .call (aa5 ((reD (b.2.2.2.1.1) b.2.2.2.1), w64 (1 + Int.tmod (w64 b.2.1) 4), ())) Dz9 fun y1 =>
 .triv (auQ (AV.ox 7 0 0) (AV.ox 7 0 0)) rfl <| .triv (auQ (AV.ox 7 0 0) (AV.ox 7 0 0)) rfl <| .need ((0 + 1) * 176 ≤ 140737488355328) <| .ok (((c.1, List.take 1 (List.take 0 [] ++ [(rE y1.1)]), ()), ()))
def afJ (c : ChT) (b : BcT) : TT (ChT × Unit) :=
 .ite (decide ((↑(lBc c.2.1) : Int) > 0))
 (.need ((↑(lBc c.2.1) : Int) ≠ 0) <| .ite (bBc 9 c.2.1)
 (sIc (w64 b.2.1) <| sIc (↑(lBc c.2.1) : Int) <| .need ((↑(lBc c.2.1) : Int) ≠ 0) <| sIc (iBc b c.2.1) <| sIc b.2.2.1 <| .need (inb (iBc b c.2.1) (↑(lBc c.2.1) : Int)) <| .ok (((c.1, List.take (lBc c.2.1) (List.set (eBc c.2.1) (0 + Int.toNat (iBc b c.2.1)) (b.2.2.1, (List.getD (eBc c.2.1) (0 + Int.toNat (iBc b c.2.1)) e0).2)), ()), ())))
 (.bad))
 (.ok (((c.1, List.take (lBc c.2.1) (eBc c.2.1), ()), ())))
def afI (c : ChT) (b : BcT) : TT (ChT × Unit) :=
 .need (asT Int 4 ≠ 0) <| .ite (bBc 9 c.2.1)
 (sXc b <| sIc (w64 b.2.1) <| .need (asT Int 4 ≠ 0) <| sIc (Int.tmod (w64 b.2.1) 4) <| sIc (w64 (1 + Int.tmod (w64 b.2.1) 4)) <| .call (aa5 ((reD (b.2.2.2.1.1) b.2.2.2.1), w64 (1 + Int.tmod (w64 b.2.1) 4), ())) Dz9 fun y2 =>
 .ite (bBc 9 c.2.1)
 (.ite (bBc 9 c.2.1)
 (.need ((lBc c.2.1 + 1) * 176 ≤ 140737488355328) <| .ok (((c.1, List.take (lBc c.2.1 + 1) (List.take (lBc c.2.1) (eBc c.2.1) ++ [(rE y2.1)]), ()), ())))
 (.bad))
 (.bad))
 (.bad)
def afS (b : BcT) (c : ChT) : TT (ChT × Unit) :=
 .tt <| .tt <| .ite (List.isEmpty c.2.1)
 (.both
  (.triv (asT Int 7 ≠ 0) zd <| .ite (Int.tmod b.1 7 == 0)
   (.ok (((b.2.2.1, [], ()), ())))
   (.ite (Int.tmod b.1 7 == 1)
    (.triv (asT Int 4 ≠ 0) zd <| sXc b <| sIc (w64 b.2.1) <| .triv (asT Int 4 ≠ 0) zd <| sIc (Int.tmod (w64 b.2.1) 4) <| sIc (w64 (1 + Int.tmod (w64 b.2.1) 4)) <| .call (aa5 ((reD (b.2.2.2.1.1) b.2.2.2.1), w64 (1 + Int.tmod (w64 b.2.1) 4), ())) Dz9 fun y =>
     .need (1 * 176 ≤ 140737488355328) <| .ok (((c.1, [(rE y.1)], ()), ())))
    (.ite (Int.tmod b.1 7 == 2)
     (.ok (((c.1, [], ()), ())))
     (.ite (Int.tmod b.1 7 == 3)
      (.ok (((c.1, [], ()), ())))
      (.ite (Int.tmod b.1 7 == 4)
       (.ok (((c.1, [], ()), ())))
       (.ite (Int.tmod b.1 7 == 5)
        (.loop 0 (.tt <| .lt ([] : List ElT) fun z => .xC (xK (w64 b.2.1 : Int) <| wl ∧ wa ∧ True) <| .xC (xB wc <| xB (xF 49 c.1 z) True) <| .ok ((z, ()))) (amG b c))
        (.ok (((c.1, [], ()), ())))))))))
  (.need ((lBc c.2.1) * 176 ≤ 140737488355328) <| .ite (List.isEmpty c.2.1)
   (.triv (asT Int 7 ≠ 0) zd <| .ite (Int.tmod b.1 7 == 0)
    (.ok (((b.2.2.1, List.take 0 [], ()), ())))
    (.ite (Int.tmod b.1 7 == 1)
     (afK b c)
     (.ite (Int.tmod b.1 7 == 2)
      (.ok (((c.1, List.take 0 [], ()), ())))
      (.ite (Int.tmod b.1 7 == 3)
       (.ok (((c.1, List.take 0 [], ()), ())))
       (.ite (Int.tmod b.1 7 == 4)
        (.ok (((c.1, List.take 0 [], ()), ())))
        (.ite (Int.tmod b.1 7 == 5)
         (.loop 3 (.tt <| .lt (List.take 0 [] : List ElT) fun z10 => .xC (xK (w64 b.2.1 : Int) <| wl ∧ wa ∧ True) <| .xC (xB wc <| xB (xF 49 c.1 z10) True) <| .ok ((z10, ()))) (amE b c))
         (.ok (((c.1, List.take 0 [], ()), ())))))))))
   (.triv (asT Int 7 ≠ 0) zd <| .ite (Int.tmod b.1 7 == 0)
    (.ok (((b.2.2.1, List.take (lBc c.2.1) (eBc c.2.1), ()), ())))
    (.ite (Int.tmod b.1 7 == 1)
     (afI c b)
     (.ite (Int.tmod b.1 7 == 2)
      (afL c b)
      (.ite (Int.tmod b.1 7 == 3)
       (afJ c b)
       (.ite (Int.tmod b.1 7 == 4)
        (afM c b)
        (.ite (Int.tmod b.1 7 == 5)
         (.loop 5 (.tt <| .lt (List.take (lBc c.2.1) (eBc c.2.1) : List ElT) fun z20 => .xC (xK (w64 b.2.1 : Int) <| wl ∧ wa ∧ True) <| .xC (xB wc <| xB (xF 49 c.1 z20) True) <| .ok ((z20, ()))) (aBZ b c))
         (.ok (((c.1, List.take (lBc c.2.1) (eBc c.2.1), ()), ())))))))))))
 (.need ((lBc c.2.1) * 176 ≤ 140737488355328) <| .ite (List.isEmpty c.2.1)
  (.triv (asT Int 7 ≠ 0) zd <| .ite (Int.tmod b.1 7 == 0)
   (.ok (((b.2.2.1, List.take 0 [], ()), ())))
   (.ite (Int.tmod b.1 7 == 1)
    (afK b c)
    (.ite (Int.tmod b.1 7 == 2)
     (.ok (((c.1, List.take 0 [], ()), ())))
     (.ite (Int.tmod b.1 7 == 3)
      (.ok (((c.1, List.take 0 [], ()), ())))
      (.ite (Int.tmod b.1 7 == 4)
       (.ok (((c.1, List.take 0 [], ()), ())))
       (.ite (Int.tmod b.1 7 == 5)
        (.loop 3 (.tt <| .lt (List.take 0 [] : List ElT) fun z30 => .xC (xK (w64 b.2.1 : Int) <| wl ∧ wa ∧ True) <| .xC (xB wc <| xB (xF 49 c.1 z30) True) <| .ok ((z30, ()))) (aBX b c))
        (.ok (((c.1, List.take 0 [], ()), ())))))))))
  (.triv (asT Int 7 ≠ 0) zd <| .ite (Int.tmod b.1 7 == 0)
   (.ok (((b.2.2.1, List.take (lBc c.2.1) (eBc c.2.1), ()), ())))
   (.ite (Int.tmod b.1 7 == 1)
    (afI c b)
    (.ite (Int.tmod b.1 7 == 2)
     (afL c b)
     (.ite (Int.tmod b.1 7 == 3)
      (afJ c b)
      (.ite (Int.tmod b.1 7 == 4)
       (afM c b)
       (.ite (Int.tmod b.1 7 == 5)
        (.loop 5 (.tt <| .lt (List.take (lBc c.2.1) (eBc c.2.1) : List ElT) fun z40 => .xC (xK (w64 b.2.1 : Int) <| wl ∧ wa ∧ True) <| .xC (xB wc <| xB (xF 49 c.1 z40) True) <| .ok ((z40, ()))) (amC b c))
        (.ok (((c.1, List.take (lBc c.2.1) (eBc c.2.1), ()), ()))))))))))
end
open Go Go.Vg
noncomputable def elB (b : BcT) : Option (ElT × Unit) := aa5 (reD b.2.2.2.1.1 b.2.2.2.1, w64 (1 + Int.tmod (w64 b.2.1) 4), ())
def ajH (n : Int) : ElT := (1, List.replicate n.toNat (1, [], [], ()), [], [], ([], 0, [], ()), [], 0, 0, ())
def af3 (b : BcT) (l : List ElT) : Nat := (Int.tmod b.2.1 l.length).toNat
def ap4 (b : BcT) : Nat := 8 + (Int.tmod b.2.1 2).toNat
open Classical in
noncomputable def aAJ (b : BcT) (c : ChT) : Option ChT :=
 if Int.tmod b.1 7 = 0 then some (b.2.2.1, c.2.1, ())
 else if Int.tmod b.1 7 = 1 then (elB b).map fun x => (c.1, c.2.1 ++ [x.1], ())
 else if Int.tmod b.1 7 = 2 then (if c.2.1 = [] then some c else (elB b).map fun x => (c.1, c.2.1.set (af3 b c.2.1) x.1, ()))
 else if Int.tmod b.1 7 = 3 then some (c.1, c.2.1.set (af3 b c.2.1) (b.2.2.1, (c.2.1.getD (af3 b c.2.1) e0).2), ())
 else if Int.tmod b.1 7 = 4 then some (c.1, c.2.1.eraseIdx (af3 b c.2.1), ())
 else if Int.tmod b.1 7 = 5 then (if 1 ≤ c.1 ∧ c.1 ≤ 4 then some (c.1, List.replicate (ap4 b - c.2.1.length) (ajH c.1) ++ c.2.1, ()) else some c)
 else some c
open Classical in
noncomputable def afV (x : BcT × ChT × Unit) : Option (ChT × Unit) :=
 if (0 ≤ x.1.1 ∧ 0 ≤ x.1.2.1 ∧ x.1.2.1 ≤ 255) ∧ x.2.1.2.1.length ≤ 100 then (aAJ x.1 x.2.1).map fun c => (c, ()) else none
set_option maxRecDepth 100000
open Go Go.Vg Go.Proofs
noncomputable section
def aBV : LTab := []
def af9 (d : DcT) (b : List BcT) : TT (List ChT × Unit) :=
 .call (ai0 ((d.1, d.2.1, d.2.2.1, ()), ())) aNQ fun y =>
 .triv (asT Int 0 ≤ 0 ∧ 0 < (↑2 : Int)) zd <| .call (afV ((reB (List.headD b b0D)), (y.1.1, y.1.2.1, ()), ())) aNQ fun y1 =>
 .triv (asT Int 0 ≤ 1 ∧ 1 < (↑2 : Int)) zd <| .call (afV ((reB (List.headD (List.tail b) b0D)), (y1.1.1, y1.1.2.1, ()), ())) aNQ fun y2 =>
 .ok (([((List.headD [(y.1.1, y.1.2.1, ()), (y1.1.1, y1.1.2.1, ()), (y2.1.1, y2.1.2.1, ())] (0, [], ())).1, (List.headD [(y.1.1, y.1.2.1, ()), (y1.1.1, y1.1.2.1, ()), (y2.1.1, y2.1.2.1, ())] (0, [], ())).2.1, ()), ((List.headD (List.tail [(y.1.1, y.1.2.1, ()), (y1.1.1, y1.1.2.1, ()), (y2.1.1, y2.1.2.1, ())]) (0, [], ())).1, (List.headD (List.tail [(y.1.1, y.1.2.1, ()), (y1.1.1, y1.1.2.1, ()), (y2.1.1, y2.1.2.1, ())]) (0, [], ())).2.1, ()), ((List.headD (List.tail (List.tail [(y.1.1, y.1.2.1, ()), (y1.1.1, y1.1.2.1, ()), (y2.1.1, y2.1.2.1, ())])) (0, [], ())).1, (List.headD (List.tail (List.tail [(y.1.1, y.1.2.1, ()), (y1.1.1, y1.1.2.1, ()), (y2.1.1, y2.1.2.1, ())])) (0, [], ())).2.1, ())], ()))
end
noncomputable def ai1 (x : DcT × List BcT × Unit) : Option (List ChT × Unit) := (af9 x.1 x.2.1).toO
abbrev idC : CvT := (1, [], [], ())
def aCY (b : BcT) (n : Int) (l : List ElT) : List ElT := if 1 ≤ n ∧ n ≤ 4 then List.replicate (ap4 b - l.length) (ajH n) ++ l else l
theorem av2 {b : BcT} (hb : 0 ≤ b.2.1 ∧ b.2.1 ≤ 255) : w64 (8 + Int.tmod (w64 b.2.1) 2) = (ap4 b : Int) ∧ ap4 b ≤ 9 := by
 have h := adJ (a := b.2.1) (k := 2) zc hb.1
 rw [aaD (x := b.2.1) ⟨by omega, by omega⟩, aaD ⟨by omega, by omega⟩]
 unfold ap4
 omega
theorem arI {b : BcT} {n : Int} {l : List ElT} (h : l.length < ap4 b) (hn : 1 ≤ n ∧ n ≤ 4) : aCY b n (ajH n :: l) = aCY b n l := by
 unfold aCY
 rw [if_pos hn, if_pos hn]
 obtain ⟨m, hm⟩ : ∃ m, ap4 b - l.length = m + 1 := ⟨ap4 b - l.length - 1, by omega⟩
 rw [hm, yb, show ap4 b - (l.length + 1) = m by omega, List.replicate_succ', xb]
 rfl
theorem arJ {b : BcT} {n : Int} {l : List ElT} (h : ¬ l.length < ap4 b) : aCY b n l = l := by
 unfold aCY
 split
 ·rw [show ap4 b - l.length = 0 by omega]; rfl
 ·rfl
theorem ahV {b : BcT} {n : Int} {l : List ElT} (h : ¬ (1 ≤ n ∧ n ≤ 4)) : aCY b n l = l := if_neg h
theorem awF {α : Type} (k : Nat) (a : α) : List.take (List.replicate k a).length (List.replicate k a) ++ [a] = List.replicate (k + 1) a := by
 rw [zB, List.replicate_succ']
theorem aJH (b : BcT) (n : Int) (xs : List ElT) (u : Unit) (l : List ElT) (v : Unit) (hl : l.length ≤ 100) (h1 : 1 ≤ n) (h4 : n ≤ 4) :
  adW (fun i => (amF b (n, xs, u) (l, v) i).toO) (0, true, [], ()) = some (.inl (ajH n :: l, ())) := by
 refine abA (fun i : Int × Bool × List CvT × Unit => ∃ k : Nat, k ≤ n.toNat ∧ i.1 = (k : Int) ∧ i.2.2.1 = List.replicate k idC ∧ i.2.1 = decide (k = 0)) (fun i => (n - i.1).toNat) (fun _ => (Sum.inl (ajH n :: l, ()) : (List ElT × Unit) ⊕ (ChT × Unit))) (fun i hi => ?_) _ ⟨0, zA _, rfl, rfl, rfl⟩
 obtain ⟨i, f, cs, w⟩ := i
 obtain ⟨k, hk, e1, e2, e3⟩ := hi
 dsimp only at e1 e2 e3
 subst e1; subst e2; subst e3
 have ek : w64 ((k : Int) + 1) = ((k + 1 : Nat) : Int) := (aaD ⟨by omega, by omega⟩).trans zc
 have eL : ∀ cs : List CvT, cs = List.replicate n.toNat idC → (1, cs, [], [], ([], 0, [], ()), [], 0, 0, ()) :: l = ajH n :: l := fun cs h => by rw [h]; rfl
 unfold amF
 dsimp only
 by_cases k0 : k = 0
 ·subst k0
  refine Or.inl ⟨(1, false, [idC], ()), ?_, ⟨1, by omega, rfl, rfl, rfl⟩, by dsimp only; omega, rfl⟩
  refine uT rfl (uT (zl (show ((0 : Nat) : Int) < n by omega)) ?_)
  refine uV (uV (uB (uB (uV (uV ?_)))))
  show some _ = some _
  rw [ek]; rfl
 ·rw [show decide (k = 0) = false from zk k0]
  refine (fun {p q : Prop} (h : p ∨ q) => h) ?_
  by_cases c : (k : Int) < n
  ·refine Or.inl ⟨((k + 1 : Nat), false, List.replicate (k + 1) idC, ()), ?_, ⟨k + 1, by omega, rfl, rfl, (zk zc).symm⟩, by dsimp only; omega, rfl⟩
   refine uF rfl (uT (zl c) (uN (by rw [zM]; omega) (uV (uB (uB (uV (uN ?_ ?_)))))))
   ·simp
   ·show some _ = some _
    rw [ek, awF]
  ·refine Or.inr ?_
   have hkn : k = n.toNat := zc
   refine uF rfl (uF (zk c) (uN zc ?_))
   by_cases e : l = []
   ·subst e
    refine uT rfl ?_
    refine uV (uB (uV (uV ?_)))
    show some _ = some _
    rw [zB]
    exact congrArg (fun z => some (Sum.inr (Sum.inl (z, ())))) (eL _ (by rw [hkn]))
   ·refine uF (by simp [e]) ?_
    refine uV (uB (uV (uV ?_)))
    show some _ = some _
    rw [zB, zq (by rw [zu]; exact zm _)]
    exact congrArg (fun z => some (Sum.inr (Sum.inl (z, ())))) (eL _ (by rw [hkn]))
theorem aI6 (b : BcT) (hb : 0 ≤ b.2.1 ∧ b.2.1 ≤ 255) (n : Int) (xs : List ElT) (u : Unit) (l : List ElT) (hl : l.length ≤ 100) :
  adW (fun i => (amG b (n, xs, u) i).toO) (l, ()) = some ((n, aCY b n l, ()), ()) := by
 obtain ⟨eT, hT⟩ := av2 hb
 refine abA (fun i : List ElT × Unit => i.1.length ≤ 100) (fun i => ap4 b - i.1.length) (fun i => ((n, aCY b n i.1, ()), ())) (fun i hi => ?_) _ hl
 obtain ⟨l, v⟩ := i
 dsimp only at hi
 unfold amG
 dsimp only
 by_cases c1 : l.length < ap4 b
 ·by_cases c2 : 1 ≤ n
  ·by_cases c3 : n ≤ 4
   ·refine Or.inl ⟨(ajH n :: l, ()), ?_, by show l.length + 1 ≤ 100; omega, by show ap4 b - (l.length + 1) < ap4 b - l.length; omega, by rw [arI c1 ⟨c2, c3⟩]⟩
    exact uV (uT (zl (by rw [eT, aaB]; omega)) (uT (zl c2) (uT (zl c3) (uO (0, true, [], ()) rfl (aJH b n xs u l v hi c2 c3)))))
   ·refine Or.inr ?_
    rw [ahV (fun h => c3 h.2)]
    exact uV (uT (zl (by rw [eT, aaB]; omega)) (uT (zl c2) (uF (zk c3) rfl)))
  ·refine Or.inr ?_
   rw [ahV (fun h => c2 h.1)]
   exact uV (uT (zl (by rw [eT, aaB]; omega)) (uF (zk c2) rfl))
 ·refine Or.inr ?_
  rw [arJ c1]
  exact uV (uF (zk (by rw [eT, aaB]; omega)) rfl)
theorem aJG (b : BcT) (n : Int) (xs : List ElT) (u : Unit) (l : List ElT) (v : Unit) (hl : l.length ≤ 100) (h1 : 1 ≤ n) (h4 : n ≤ 4) :
  adW (fun i => (amD b (n, xs, u) (l, v) i).toO) (0, true, [], ()) = some (.inl (ajH n :: l, ())) := by
 refine abA (fun i : Int × Bool × List CvT × Unit => ∃ k : Nat, k ≤ n.toNat ∧ i.1 = (k : Int) ∧ i.2.2.1 = List.replicate k idC ∧ i.2.1 = decide (k = 0)) (fun i => (n - i.1).toNat) (fun _ => (Sum.inl (ajH n :: l, ()) : (List ElT × Unit) ⊕ (ChT × Unit))) (fun i hi => ?_) _ ⟨0, zA _, rfl, rfl, rfl⟩
 obtain ⟨i, f, cs, w⟩ := i
 obtain ⟨k, hk, e1, e2, e3⟩ := hi
 dsimp only at e1 e2 e3
 subst e1; subst e2; subst e3
 have ek : w64 ((k : Int) + 1) = ((k + 1 : Nat) : Int) := (aaD ⟨by omega, by omega⟩).trans zc
 have eL : ∀ cs : List CvT, cs = List.replicate n.toNat idC → (1, cs, [], [], ([], 0, [], ()), [], 0, 0, ()) :: l = ajH n :: l := fun cs h => by rw [h]; rfl
 unfold amD
 dsimp only
 by_cases k0 : k = 0
 ·subst k0
  refine Or.inl ⟨(1, false, [idC], ()), ?_, ⟨1, by omega, rfl, rfl, rfl⟩, by dsimp only; omega, rfl⟩
  refine uT rfl (uT (zl (show ((0 : Nat) : Int) < n by omega)) ?_)
  refine uV (uV (uB (uB (uV (uV ?_)))))
  show some _ = some _
  rw [ek]; rfl
 ·rw [show decide (k = 0) = false from zk k0]
  refine (fun {p q : Prop} (h : p ∨ q) => h) ?_
  by_cases c : (k : Int) < n
  ·refine Or.inl ⟨((k + 1 : Nat), false, List.replicate (k + 1) idC, ()), ?_, ⟨k + 1, by omega, rfl, rfl, (zk zc).symm⟩, by dsimp only; omega, rfl⟩
   refine uF rfl (uT (zl c) (uN (by rw [zM]; omega) (uV (uB (uB (uV (uN ?_ ?_)))))))
   ·simp
   ·show some _ = some _
    rw [ek, awF]
  ·refine Or.inr ?_
   have hkn : k = n.toNat := zc
   refine uF rfl (uF (zk c) (uN zc ?_))
   by_cases e : l = []
   ·subst e
    refine uT rfl ?_
    refine uV (uB (uV (uV ?_)))
    show some _ = some _
    rw [zB]
    exact congrArg (fun z => some (Sum.inr (Sum.inl (z, ())))) (eL _ (by rw [hkn]))
   ·refine uF (by simp [e]) ?_
    refine uV (uB (uV (uV ?_)))
    show some _ = some _
    rw [zB, zq (by rw [zu]; exact zm _)]
    exact congrArg (fun z => some (Sum.inr (Sum.inl (z, ())))) (eL _ (by rw [hkn]))
theorem aI5 (b : BcT) (hb : 0 ≤ b.2.1 ∧ b.2.1 ≤ 255) (n : Int) (xs : List ElT) (u : Unit) (l : List ElT) (hl : l.length ≤ 100) :
  adW (fun i => (amE b (n, xs, u) i).toO) (l, ()) = some ((n, aCY b n l, ()), ()) := by
 obtain ⟨eT, hT⟩ := av2 hb
 refine abA (fun i : List ElT × Unit => i.1.length ≤ 100) (fun i => ap4 b - i.1.length) (fun i => ((n, aCY b n i.1, ()), ())) (fun i hi => ?_) _ hl
 obtain ⟨l, v⟩ := i
 dsimp only at hi
 unfold amE
 dsimp only
 by_cases c1 : l.length < ap4 b
 ·by_cases c2 : 1 ≤ n
  ·by_cases c3 : n ≤ 4
   ·refine Or.inl ⟨(ajH n :: l, ()), ?_, by show l.length + 1 ≤ 100; omega, by show ap4 b - (l.length + 1) < ap4 b - l.length; omega, by rw [arI c1 ⟨c2, c3⟩]⟩
    exact uV (uT (zl (by rw [eT, aaB]; omega)) (uT (zl c2) (uT (zl c3) (uO (0, true, [], ()) rfl (aJG b n xs u l v hi c2 c3)))))
   ·refine Or.inr ?_
    rw [ahV (fun h => c3 h.2)]
    exact uV (uT (zl (by rw [eT, aaB]; omega)) (uT (zl c2) (uF (zk c3) rfl)))
  ·refine Or.inr ?_
   rw [ahV (fun h => c2 h.1)]
   exact uV (uT (zl (by rw [eT, aaB]; omega)) (uF (zk c2) rfl))
 ·refine Or.inr ?_
  rw [arJ c1]
  exact uV (uF (zk (by rw [eT, aaB]; omega)) rfl)
theorem aHi (b : BcT) (n : Int) (xs : List ElT) (u : Unit) (l : List ElT) (v : Unit) (hl : l.length ≤ 100) (h1 : 1 ≤ n) (h4 : n ≤ 4) :
  adW (fun i => (aj4 b (n, xs, u) (l, v) i).toO) (0, true, [], ()) = some (.inl (ajH n :: l, ())) := by
 refine abA (fun i : Int × Bool × List CvT × Unit => ∃ k : Nat, k ≤ n.toNat ∧ i.1 = (k : Int) ∧ i.2.2.1 = List.replicate k idC ∧ i.2.1 = decide (k = 0)) (fun i => (n - i.1).toNat) (fun _ => (Sum.inl (ajH n :: l, ()) : (List ElT × Unit) ⊕ (ChT × Unit))) (fun i hi => ?_) _ ⟨0, zA _, rfl, rfl, rfl⟩
 obtain ⟨i, f, cs, w⟩ := i
 obtain ⟨k, hk, e1, e2, e3⟩ := hi
 dsimp only at e1 e2 e3
 subst e1; subst e2; subst e3
 have ek : w64 ((k : Int) + 1) = ((k + 1 : Nat) : Int) := (aaD ⟨by omega, by omega⟩).trans zc
 have eL : ∀ cs : List CvT, cs = List.replicate n.toNat idC → (1, cs, [], [], ([], 0, [], ()), [], 0, 0, ()) :: l = ajH n :: l := fun cs h => by rw [h]; rfl
 unfold aj4
 dsimp only
 by_cases k0 : k = 0
 ·subst k0
  refine Or.inl ⟨(1, false, [idC], ()), ?_, ⟨1, by omega, rfl, rfl, rfl⟩, by dsimp only; omega, rfl⟩
  refine uT rfl (uT (zl (show ((0 : Nat) : Int) < n by omega)) ?_)
  refine uV (uV (uB (uB (uV (uV ?_)))))
  show some _ = some _
  rw [ek]; rfl
 ·rw [show decide (k = 0) = false from zk k0]
  refine (fun {p q : Prop} (h : p ∨ q) => h) ?_
  by_cases c : (k : Int) < n
  ·refine Or.inl ⟨((k + 1 : Nat), false, List.replicate (k + 1) idC, ()), ?_, ⟨k + 1, by omega, rfl, rfl, (zk zc).symm⟩, by dsimp only; omega, rfl⟩
   refine uF rfl (uT (zl c) (uN (by rw [zM]; omega) (uV (uB (uB (uV (uN ?_ ?_)))))))
   ·simp
   ·show some _ = some _
    rw [ek, awF]
  ·refine Or.inr ?_
   have hkn : k = n.toNat := zc
   refine uF rfl (uF (zk c) (uN zc ?_))
   by_cases e : l = []
   ·subst e
    refine uT rfl ?_
    refine uV (uB (uV (uV ?_)))
    show some _ = some _
    rw [zB]
    exact congrArg (fun z => some (Sum.inr (Sum.inl (z, ())))) (eL _ (by rw [hkn]))
   ·refine uF (by simp [e]) ?_
    refine uV (uB (uV (uV ?_)))
    show some _ = some _
    rw [zB, zq (by rw [zu]; exact zm _)]
    exact congrArg (fun z => some (Sum.inr (Sum.inl (z, ())))) (eL _ (by rw [hkn]))
theorem aI4 (b : BcT) (hb : 0 ≤ b.2.1 ∧ b.2.1 ≤ 255) (n : Int) (xs : List ElT) (u : Unit) (l : List ElT) (hl : l.length ≤ 100) :
  adW (fun i => (amC b (n, xs, u) i).toO) (l, ()) = some ((n, aCY b n l, ()), ()) := by
 obtain ⟨eT, hT⟩ := av2 hb
 refine abA (fun i : List ElT × Unit => i.1.length ≤ 100) (fun i => ap4 b - i.1.length) (fun i => ((n, aCY b n i.1, ()), ())) (fun i hi => ?_) _ hl
 obtain ⟨l, v⟩ := i
 dsimp only at hi
 unfold amC
 dsimp only
 by_cases c1 : l.length < ap4 b
 ·by_cases c2 : 1 ≤ n
  ·by_cases c3 : n ≤ 4
   ·refine Or.inl ⟨(ajH n :: l, ()), ?_, by show l.length + 1 ≤ 100; omega, by show ap4 b - (l.length + 1) < ap4 b - l.length; omega, by rw [arI c1 ⟨c2, c3⟩]⟩
    exact uV (uT (zl (by rw [eT, aaB]; omega)) (uT (zl c2) (uT (zl c3) (uO (0, true, [], ()) rfl (aHi b n xs u l v hi c2 c3)))))
   ·refine Or.inr ?_
    rw [ahV (fun h => c3 h.2)]
    exact uV (uT (zl (by rw [eT, aaB]; omega)) (uT (zl c2) (uF (zk c3) rfl)))
  ·refine Or.inr ?_
   rw [ahV (fun h => c2 h.1)]
   exact uV (uT (zl (by rw [eT, aaB]; omega)) (uF (zk c2) rfl))
 ·refine Or.inr ?_
  rw [arJ c1]
  exact uV (uF (zk (by rw [eT, aaB]; omega)) rfl)
theorem aO5 {α : Type} {l : List α} {k : Nat} (h : k < l.length) (zs : List α) : List.take (k + (l.drop (k + 1)).length) (over (over l k (l.drop (k + 1))) (k + (l.drop (k + 1)).length) zs) = l.eraseIdx k := by
 rw [List.eraseIdx_eq_take_drop_succ]
 have e1 : over l k (l.drop (k + 1)) = (l.take k ++ l.drop (k + 1)) ++ l.drop (k + (l.drop (k + 1)).length) := rfl
 have hm : (l.take k ++ l.drop (k + 1)).length = k + (l.drop (k + 1)).length := by rw [zu, zQ, yl zc]
 have e2 : List.take (k + (l.drop (k + 1)).length) (over l k (l.drop (k + 1))) = l.take k ++ l.drop (k + 1) := by
  rw [e1, ← hm, List.take_left]
 show List.take (k + (l.drop (k + 1)).length) (List.take (k + (l.drop (k + 1)).length) (over l k (l.drop (k + 1))) ++ zs ++ _) = _
 rw [e2, xb, ← hm, List.take_left]
theorem aLb {α : Type} {x y : TT α} {a : α} (h1 : x.toO = some a) (h2 : y.toO = some a) : (TT.both x y).toO = some a := aIK h1 h2
theorem bt {a k : Int} (h : a = k) : (a == k) = true := zr.2 h
theorem bf {a k : Int} (h : ¬ a = k) : (a == k) = false := beq_eq_false_iff_ne.2 h
theorem aMc (b : BcT) (n : Int) (xs : List ElT) (u : Unit) : (if 1 ≤ n ∧ n ≤ 4 then some (n, List.replicate (ap4 b - xs.length) (ajH n) ++ xs, ()) else some (n, xs, u) : Option ChT) = some (n, aCY b n xs, ()) := by
 unfold aCY; split <;> rfl
theorem aJ8 (b : BcT) (hb : 0 ≤ b.2.1 ∧ b.2.1 ≤ 255) (n : Int) (u : Unit) (r : ChT) (er : aAJ b (n, [], u) = some r) : (afS b (n, [], u)).toO = some (r, ()) := by
 unfold aAJ at er
 dsimp only at er
 unfold afS afI afJ afK afL afM
 refine uV (uV (uT rfl (aLb ?_ (uN (by show (0 + 0) * 176 ≤ 140737488355328; decide) (uT rfl ?_)))))
 ·skip
  refine uV ?_
  by_cases q0 : Int.tmod b.1 7 = 0
  ·rw [if_pos q0] at er; injection er with er; subst er; exact uT (bt q0) rfl
  rw [if_neg q0] at er
  refine uF (bf q0) ?_
  by_cases q1 : Int.tmod b.1 7 = 1
  ·rw [if_pos q1] at er
   obtain ⟨z, ez, e⟩ := yI.1 er
   subst e
   refine uT (bt q1) ?_
   repeat (refine uV ?_)
   refine uC z ez ?_
   repeat (first | refine uV ?_ | refine uN zd ?_)
   rfl
  rw [if_neg q1] at er
  refine uF (bf q1) ?_
  by_cases q2 : Int.tmod b.1 7 = 2
  ·rw [if_pos q2, if_pos rfl] at er; injection er with er; subst er; exact uT (bt q2) rfl
  rw [if_neg q2] at er
  refine uF (bf q2) ?_
  by_cases q3 : Int.tmod b.1 7 = 3
  ·rw [if_pos q3] at er; injection er with er; subst er; exact uT (bt q3) rfl
  rw [if_neg q3] at er
  refine uF (bf q3) ?_
  by_cases q4 : Int.tmod b.1 7 = 4
  ·rw [if_pos q4] at er; injection er with er; subst er; exact uT (bt q4) rfl
  rw [if_neg q4] at er
  refine uF (bf q4) ?_
  by_cases q5 : Int.tmod b.1 7 = 5
  ·rw [if_pos q5] at er
   have er := (aMc b n [] u).symm.trans er
   injection er with er; subst er; exact uT (bt q5) (uO ([], ()) rfl (aI6 b hb n [] u [] (zA _)))
  rw [if_neg q5] at er; injection er with er; subst er
  exact uF (bf q5) rfl
 ·skip
  refine uV ?_
  by_cases q0 : Int.tmod b.1 7 = 0
  ·rw [if_pos q0] at er; injection er with er; subst er; exact uT (bt q0) rfl
  rw [if_neg q0] at er
  refine uF (bf q0) ?_
  by_cases q1 : Int.tmod b.1 7 = 1
  ·rw [if_pos q1] at er
   obtain ⟨z, ez, e⟩ := yI.1 er
   subst e
   refine uT (bt q1) ?_
   repeat (refine uV ?_)
   refine uC z ez ?_
   repeat (first | refine uV ?_ | refine uN zd ?_)
   rfl
  rw [if_neg q1] at er
  refine uF (bf q1) ?_
  by_cases q2 : Int.tmod b.1 7 = 2
  ·rw [if_pos q2, if_pos rfl] at er; injection er with er; subst er; exact uT (bt q2) rfl
  rw [if_neg q2] at er
  refine uF (bf q2) ?_
  by_cases q3 : Int.tmod b.1 7 = 3
  ·rw [if_pos q3] at er; injection er with er; subst er; exact uT (bt q3) rfl
  rw [if_neg q3] at er
  refine uF (bf q3) ?_
  by_cases q4 : Int.tmod b.1 7 = 4
  ·rw [if_pos q4] at er; injection er with er; subst er; exact uT (bt q4) rfl
  rw [if_neg q4] at er
  refine uF (bf q4) ?_
  by_cases q5 : Int.tmod b.1 7 = 5
  ·rw [if_pos q5] at er
   have er := (aMc b n [] u).symm.trans er
   injection er with er; subst er; exact uT (bt q5) (uO ([], ()) rfl (aI5 b hb n [] u [] (zA _)))
  rw [if_neg q5] at er; injection er with er; subst er
  exact uF (bf q5) rfl
theorem aJ7 (b : BcT) (hb : 0 ≤ b.2.1 ∧ b.2.1 ≤ 255) (n : Int) (xs : List ElT) (u : Unit) (hl : xs.length ≤ 100) (hx : xs ≠ []) (r : ChT) (er : aAJ b (n, xs, u) = some r) : (afS b (n, xs, u)).toO = some (r, ()) := by
 unfold aAJ at er
 dsimp only at er
 have hpos : 0 < xs.length := zS.2 hx
 have hE : List.isEmpty xs = false := by simp [hx]
 have hL : lBc xs = xs.length := zw _
 have hT := adJ (a := b.2.1) (k := (xs.length : Int)) zc hb.1
 have hi : iBc b xs = (af3 b xs : Int) := by
  show Int.tmod (w64 b.2.1) ((lBc xs : Nat) : Int) = _
  rw [hL, aaD (x := b.2.1) ⟨by omega, by omega⟩]
  unfold af3; omega
 have hk : af3 b xs < xs.length := by unfold af3; omega
 have hj : jBc b xs = ((af3 b xs + 1 : Nat) : Int) := by
  show w64 (iBc b xs + 1) = _
  rw [hi]; exact (aaD ⟨by omega, by omega⟩).trans zc
 have ht : tBc b xs = xs.drop (af3 b xs + 1) := by
  show List.take (lBc xs - Int.toNat (jBc b xs)) (List.drop (0 + Int.toNat (jBc b xs)) xs) = _
  rw [hj, zz, hL, zw, zq (by rw [zW]; exact zm _)]
 have hB : ∀ k, bBc k xs = true := fun k => by simp [bBc]
 have hD : decide ((↑(lBc xs) : Int) > 0) = true := zl (by rw [hL]; omega)
 have hN : (↑(lBc xs) : Int) ≠ 0 := by rw [hL]; omega
 have hI : inb (iBc b xs) (↑(lBc xs) : Int) := by rw [hi, hL]; exact ⟨by omega, by omega⟩
 have a1 : inc (↑(lBc xs) : Int) (↑(lBc xs) : Int) := ⟨by omega, by omega⟩
 have a2 : inc (jBc b xs) (↑(Int.toNat (↑(lBc xs) : Int)) : Int) := by rw [hj, hL]; exact ⟨by omega, by omega⟩
 have a3 : inc (iBc b xs) (↑(Int.toNat (jBc b xs)) : Int) := by rw [hj, hi]; exact ⟨by omega, by omega⟩
 have a4 : inc (iBc b xs) (↑(lBc xs) : Int) := by rw [hi, hL]; exact ⟨by omega, by omega⟩
 have a5 : inc (jBc b xs) (↑(lBc xs) : Int) := by rw [hj, hL]; exact ⟨by omega, by omega⟩
 have a6 : Int.toNat (iBc b xs) + List.length (tBc b xs) ≤ List.length (eBc xs) := by
  rw [hi, ht, zz, zW]; show _ ≤ xs.length; omega
 have a7 : inc (↑(lBc xs) : Int) (len (over (eBc xs) (Int.toNat (iBc b xs)) (tBc b xs))) := by
  rw [aaB, aaY _ _ _ a6, hL]; show inc _ ((xs.length : Nat) : Int); exact ⟨by omega, by omega⟩
 have a8 : inc (↑(Int.toNat (iBc b xs) + List.length (tBc b xs)) : Int) (↑(Int.toNat (↑(lBc xs) : Int)) : Int) := by
  have h := a6
  have e : List.length (eBc xs) = xs.length := rfl
  rw [hL]; exact ⟨by omega, by omega⟩
 have hF : (iBc b xs == jBc b xs) = false := bf (by rw [hi, hj]; omega)
 have fin : ∀ l : List ElT, l = xs → List.take (lBc xs) l = xs := fun l h => by rw [h, hL, zB]
 have fin4 : ∀ zs, List.take (Int.toNat (iBc b xs) + List.length (tBc b xs)) (over (over (eBc xs) (Int.toNat (iBc b xs)) (tBc b xs)) (0 + Int.toNat (↑(Int.toNat (iBc b xs) + List.length (tBc b xs)) : Int)) zs) = xs.eraseIdx (af3 b xs) := by
  intro zs
  rw [hi, ht, zz, zz, zw]
  exact aO5 hk zs
 unfold afS afI afJ afK afL afM
 refine uV (uV (uF hE (uN (by show (0 + xs.length) * 176 ≤ _; omega) (uF hE (uV ?_)))))
 by_cases q0 : Int.tmod b.1 7 = 0
 ·rw [if_pos q0] at er; injection er with er; subst er
  exact uT (bt q0) (congrArg (fun l : List ElT => some (((b.2.2.1, l, ()) : ChT), ())) (fin _ rfl))
 rw [if_neg q0] at er
 refine uF (bf q0) ?_
 by_cases q1 : Int.tmod b.1 7 = 1
 ·rw [if_pos q1] at er
  obtain ⟨z, ez, e⟩ := yI.1 er
  subst e
  refine uT (bt q1) ?_
  repeat (first | refine uV ?_ | refine uN hN ?_ | refine uN hI ?_ | refine uN a1 ?_ | refine uN a2 ?_ | refine uN a3 ?_ | refine uN a4 ?_ | refine uN a5 ?_ | refine uN a6 ?_ | refine uN a7 ?_ | refine uN a8 ?_ | refine uT (hB _) ?_ | refine uT hD ?_ | refine uN (show asT Int 4 ≠ 0 by decide) ?_)
  refine uC z ez ?_
  repeat (first | refine uV ?_ | refine uN hN ?_ | refine uN hI ?_ | refine uN a1 ?_ | refine uN a2 ?_ | refine uN a3 ?_ | refine uN a4 ?_ | refine uN a5 ?_ | refine uN a6 ?_ | refine uN a7 ?_ | refine uN a8 ?_ | refine uT (hB _) ?_ | refine uT hD ?_ | refine uN (show asT Int 4 ≠ 0 by decide) ?_)
  refine uN (by show (0 + xs.length + 1) * 176 ≤ _; omega) ?_
  refine congrArg (fun l : List ElT => some (((n, l, ()) : ChT), ())) ?_
  show List.take (0 + xs.length + 1) (List.take (lBc xs) xs ++ [z.1]) = xs ++ [z.1]
  rw [fin _ rfl, zq (by rw [zu]; simp)]
 rw [if_neg q1] at er
 refine uF (bf q1) ?_
 by_cases q2 : Int.tmod b.1 7 = 2
 ·rw [if_pos q2, if_neg hx] at er
  obtain ⟨z, ez, e⟩ := yI.1 er
  subst e
  refine uT (bt q2) ?_
  repeat (first | refine uV ?_ | refine uN hN ?_ | refine uN hI ?_ | refine uN a1 ?_ | refine uN a2 ?_ | refine uN a3 ?_ | refine uN a4 ?_ | refine uN a5 ?_ | refine uN a6 ?_ | refine uN a7 ?_ | refine uN a8 ?_ | refine uT (hB _) ?_ | refine uT hD ?_ | refine uN (show asT Int 4 ≠ 0 by decide) ?_)
  refine uC z ez ?_
  repeat (first | refine uV ?_ | refine uN hN ?_ | refine uN hI ?_ | refine uN a1 ?_ | refine uN a2 ?_ | refine uN a3 ?_ | refine uN a4 ?_ | refine uN a5 ?_ | refine uN a6 ?_ | refine uN a7 ?_ | refine uN a8 ?_ | refine uT (hB _) ?_ | refine uT hD ?_ | refine uN (show asT Int 4 ≠ 0 by decide) ?_)
  refine congrArg (fun l : List ElT => some (((n, l, ()) : ChT), ())) ?_
  show List.take (lBc xs) (List.set xs (0 + Int.toNat (iBc b xs)) z.1) = xs.set (af3 b xs) z.1
  rw [hi, zz, zw, hL, zq (by rw [yu]; exact zm _)]
 rw [if_neg q2] at er
 refine uF (bf q2) ?_
 by_cases q3 : Int.tmod b.1 7 = 3
 ·rw [if_pos q3] at er; injection er with er; subst er
  refine uT (bt q3) ?_
  repeat (first | refine uV ?_ | refine uN hN ?_ | refine uN hI ?_ | refine uN a1 ?_ | refine uN a2 ?_ | refine uN a3 ?_ | refine uN a4 ?_ | refine uN a5 ?_ | refine uN a6 ?_ | refine uN a7 ?_ | refine uN a8 ?_ | refine uT (hB _) ?_ | refine uT hD ?_ | refine uN (show asT Int 4 ≠ 0 by decide) ?_)
  refine congrArg (fun l : List ElT => some (((n, l, ()) : ChT), ())) ?_
  show List.take (lBc xs) (List.set xs (0 + Int.toNat (iBc b xs)) (b.2.2.1, (List.getD xs (0 + Int.toNat (iBc b xs)) e0).2)) = xs.set (af3 b xs) (b.2.2.1, (xs.getD (af3 b xs) e0).2)
  rw [hi, zz, zw, hL, zq (by rw [yu]; exact zm _)]
 rw [if_neg q3] at er
 refine uF (bf q3) ?_
 by_cases q4 : Int.tmod b.1 7 = 4
 ·rw [if_pos q4] at er; injection er with er; subst er
  refine uT (bt q4) ?_
  repeat (first | refine uV ?_ | refine uN hN ?_ | refine uN hI ?_ | refine uN a1 ?_ | refine uN a2 ?_ | refine uN a3 ?_ | refine uN a4 ?_ | refine uN a5 ?_ | refine uN a6 ?_ | refine uN a7 ?_ | refine uN a8 ?_ | refine uT (hB _) ?_ | refine uT hD ?_ | refine uN (show asT Int 4 ≠ 0 by decide) ?_)
  refine uF hF ?_
  repeat (first | refine uV ?_ | refine uN hN ?_ | refine uN hI ?_ | refine uN a1 ?_ | refine uN a2 ?_ | refine uN a3 ?_ | refine uN a4 ?_ | refine uN a5 ?_ | refine uN a6 ?_ | refine uN a7 ?_ | refine uN a8 ?_ | refine uT (hB _) ?_ | refine uT hD ?_ | refine uN (show asT Int 4 ≠ 0 by decide) ?_)
  refine aLb ?_ ?_
  ·repeat (first | refine uV ?_ | refine uN hN ?_ | refine uN hI ?_ | refine uN a1 ?_ | refine uN a2 ?_ | refine uN a3 ?_ | refine uN a4 ?_ | refine uN a5 ?_ | refine uN a6 ?_ | refine uN a7 ?_ | refine uN a8 ?_ | refine uT (hB _) ?_ | refine uT hD ?_ | refine uN (show asT Int 4 ≠ 0 by decide) ?_)
   exact congrArg (fun l : List ElT => some (((n, l, ()) : ChT), ())) (fin4 _)
  ·repeat (first | refine uV ?_ | refine uN hN ?_ | refine uN hI ?_ | refine uN a1 ?_ | refine uN a2 ?_ | refine uN a3 ?_ | refine uN a4 ?_ | refine uN a5 ?_ | refine uN a6 ?_ | refine uN a7 ?_ | refine uN a8 ?_ | refine uT (hB _) ?_ | refine uT hD ?_ | refine uN (show asT Int 4 ≠ 0 by decide) ?_)
   exact congrArg (fun l : List ElT => some (((n, l, ()) : ChT), ())) (fin4 _)
 rw [if_neg q4] at er
 refine uF (bf q4) ?_
 by_cases q5 : Int.tmod b.1 7 = 5
 ·rw [if_pos q5] at er
  have er := (aMc b n xs u).symm.trans er
  injection er with er; subst er
  refine uT (bt q5) (uO (xs, ()) ?_ (aI4 b hb n xs u xs hl))
  exact congrArg (fun l : List ElT => some (l, ())) (fin _ rfl)
 rw [if_neg q5] at er; injection er with er; subst er
 exact uF (bf q5) (congrArg (fun l : List ElT => some (((n, l, ()) : ChT), ())) (fin _ rfl))
theorem azW (b : BcT) (c : ChT) (y) (h : afV (b, c, ()) = some y) : (afS b c).toO = some y := by
 unfold afV at h
 split at h
 case isFalse => cases h
 case isTrue hc =>
 obtain ⟨⟨-, hb⟩, hl⟩ := hc
 obtain ⟨r, er, ey⟩ := yI.1 h
 subst ey
 obtain ⟨n, xs, u⟩ := c
 cases xs with
 | nil => exact aJ8 b hb n u r er
 | cons x l => exact aJ7 b hb n (x :: l) u hl zf r er
set_option maxRecDepth 100000
open Go Go.Vg Go.Proofs
noncomputable section
def aBj : LTab := []
def aq8 (c : ChT) : TT wu :=
 .call (aeS ((c.1, c.2.1, ()), ())) Dz2 fun y =>
 .ite (y.1)
 (.ok ((0, ())))
 (.ok ((140, ())))
def aEU : LTab := [(55, 26, 15360, ⟨0, (Int) × Unit, .dat (.s 8) xW <| .nil, [7, 0, 1], [0], 0⟩)]
def amO (c : ChT) (y : Int × Unit) (i : (Int) × Unit) : TT wd :=
 .ite (decide (i.1 < len c.2.1))
 (.need (inb i.1 (len c.2.1)) <| .tt <| .tt <| .call (aeX ((rE (gE c.2.1 i.1)), ())) Dz2 fun y1 =>
 .ite (!y1.1)
 (.ok (.inr ((!decide (i.1 ≥ 0), ()))))
 (.tt <| .lt (w64 (i.1 + 1) : Int) fun z => .xC (xH z (len c.2.1) c.2.1 <| (xK (29 : FuncId) <| True ∧ True) ∧ True) <| .xC (xB (xF 49 c.1 c.2.1) True) <| .ok (.inl ((z, ())))))
 (.ok (.inr ((!decide (asT Int (-1) ≥ 0), ()))))
def aoX (c : ChT) : TT wi :=
 .call (ac4 ((c.1, c.2.1, ()), ())) Dz3 fun y =>
 .ite (y.1 == 0)
 (.tt <| .tt <| .tt <| .tt <| .loop 0 (.tt <| .xC (xH (0 : Int) (len c.2.1) c.2.1 <| (xK (29 : FuncId) <| True ∧ True) ∧ True) <| .xC (xB (xF 49 c.1 c.2.1) True) <| .ok ((0, ()))) (amO c y))
 (.ok ((false, ())))
def aBi : LTab := [(12, 58, 6144, ⟨0, (Int) × Unit, .dat (.s 3) xW <| .nil, [1], [0], 0⟩)]
def ajO (c : ChT) (y : Bool × Unit) (i : (Int) × Unit) : TT wd :=
 .ite (decide (i.1 < len c.2.1))
 (.need (inb i.1 (len c.2.1)) <| .call (agK (gE c.2.1 i.1, ())) Dz2 fun y1 =>
 .ite (!y1.1)
 (.ok (.inr ((false, ()))))
 (.tt <| .lt (w64 (i.1 + 1) : Int) fun z => .xC (xK z <| wb ∧ True) <| .xC (xB (xF 49 c.1 c.2.1) True) <| .ok (.inl ((z, ())))))
 (.ok (.inr ((true, ()))))
def alV (c : ChT) : TT wi :=
 .call (aeS ((c.1, c.2.1, ()), ())) Dz2 fun y =>
 .ite (!y.1)
 (.ok ((false, ())))
 (.loop 0 (.tt <| .xC wK <| .xC (xB (xF 49 c.1 c.2.1) True) <| .ok ((0, ()))) (ajO c y))
end
theorem awM (c : ChT) (y) (h : agJ (c, ()) = some y) : (aq8 c).toO = some y := by
 unfold agJ ac4 at h
 split at h
 case isFalse => cases h
 case isTrue hl =>
 injection h with h
 subst h
 refine uC _ (aIn (c := c) hl) ?_
 cases ae6 c <;> rfl
theorem av0 {x : ElT} (h : shE x) : aeX (rE x, ()) = some (decide (afE x), ()) := if_pos h
theorem aIo {x : ElT} (h : shE x) : agK (x, ()) = some (decide (afE x), ()) := if_pos h
open Classical in
theorem aAf {c : ChT} {m : Int} (h : ae6 c = some m) : ((if (List.range c.2.1.length).all (fun k => decide (afE (c.2.1.getD k e0))) then (true, ()) else (false, ())) : Bool × Unit) = (decide (aoJ c), ()) := by
 rw [agA (adG c.2.1 e0 afE)]
 by_cases d : ∀ x ∈ c.2.1, afE x
 ·rw [if_pos d, zl (show aoJ c from ⟨by rw [h]; rfl, d⟩)]
 ·rw [if_neg d, zk (fun h : aoJ c => d h.2)]
open Classical in
theorem aAC (c : ChT) (y) (h : ae0 (c, ()) = some y) : (aoX c).toO = some y := by
 unfold ae0 at h
 split at h
 case isFalse => cases h
 case isTrue hl =>
 injection h with h
 subst h
 have hl' : c.2.1.length ≤ 1000000000000 := hl.1
 have he := hl.2
 unfold aoX
 refine uC _ (aFj hl) ?_
 cases ec : ae6 c with
 | none =>
  refine uF rfl ?_
  rw [zk (fun h : aoJ c => by have := h.1; rw [ec] at this; cases this)]; rfl
 | some m =>
  refine uT rfl (uV (uV (uV (uV (uO (0, ()) rfl ?_)))))
  refine (aa9 (n := c.2.1.length) (bad := (false, ())) (good := (true, ())) (fun k => decide (afE (c.2.1.getD k e0))) (fun k hk hp => ?_) (fun k hk hp => ?_) ?_).trans ?_
  ·simp only [amO, alG]
   refine uT sd (uN sd (uV (uV (uC _ (av0 (he _ (aa3 hk e0))) (uF (by dsimp only; rw [hp]; rfl) (uV (uB (uV (uV ?_)))))))))
   rw [amU hk hl']; rfl
  ·simp only [amO, alG]
   refine uT sd (uN sd (uV (uV (uC _ (av0 (he _ (aa3 hk e0))) (uT (by dsimp only; rw [hp]; rfl) ?_)))))
   rw [zl (show ((k : Int) ≥ 0) by omega)]; rfl
  ·exact uF sd rfl
  ·rw [aAf ec]
open Classical in
theorem awL (c : ChT) (y) (h : agI (c, ()) = some y) : (alV c).toO = some y := by
 unfold agI ae0 at h
 split at h
 case isFalse => cases h
 case isTrue hl =>
 injection h with h
 subst h
 have hl' : c.2.1.length ≤ 1000000000000 := hl.1
 have he := hl.2
 unfold alV
 refine uC _ (aIn (c := c) hl) ?_
 cases ec : ae6 c with
 | none =>
  refine uT rfl ?_
  rw [zk (fun h : aoJ c => by have := h.1; rw [ec] at this; cases this)]; rfl
 | some m =>
  refine uF rfl (uO (0, ()) rfl ?_)
  refine (aa9 (n := c.2.1.length) (bad := (false, ())) (good := (true, ())) (fun k => decide (afE (c.2.1.getD k e0))) (fun k hk hp => ?_) (fun k hk hp => ?_) ?_).trans ?_
  ·simp only [ajO, alG]
   refine uT sd (uN sd (uC _ (aIo (he _ (aa3 hk e0))) (uF (by dsimp only; rw [hp]; rfl) (uV (uB (uV (uV ?_)))))))
   rw [amU hk hl']; rfl
  ·simp only [ajO, alG]
   exact uT sd (uN sd (uC _ (aIo (he _ (aa3 hk e0))) (uT (by dsimp only; rw [hp]; rfl) rfl)))
  ·exact uF sd rfl
  ·rw [aAf ec]
def wfB (b : BcT) : Prop := (0 ≤ b.1 ∧ b.1 ≤ 255) ∧ (0 ≤ b.2.1 ∧ b.2.1 ≤ 255) ∧ wfE b.2.2.2.1
def aMf (b : List BcT) : Prop := b.length = 2 ∧ ∀ x ∈ b, wfB x
def bndN (c : ChT) (m : Nat) : Prop := c.2.1.length ≤ m ∧ ∀ x ∈ c.2.1, shE x
def bnd (c : ChT) : Prop := bndN c 100
theorem bnd.sh {c : ChT} (h : bnd c) : ayF c := ⟨zF h.1 zc, h.2⟩
theorem bndN.mono {c : ChT} {m k : Nat} (h : bndN c m) (hk : m ≤ k) : bndN c k := ⟨zF h.1 hk, h.2⟩
theorem aCB {b : BcT} (h : wfB b) : wfB (reB b) := ⟨h.1, h.2.1, aFo h.2.2 h.2.2.1⟩
theorem aNi {b : BcT} (h : wfB b) : ∃ x, elB b = some (x, ()) ∧ shE x := by
 have ht := adJ (a := b.2.1) (k := 4) zc h.2.1.1
 have e : w64 (1 + Int.tmod (w64 b.2.1) 4) = 1 + Int.tmod b.2.1 4 := by
  rw [aaD (x := b.2.1) ⟨by have := h.2.1; omega, by have := h.2.1; omega⟩]
  exact aaD ⟨by omega, by omega⟩
 obtain ⟨⟨x, w⟩, ex, r1, r2⟩ := alA (reD b.2.2.2.1.1 b.2.2.2.1) (aFo h.2.2 h.2.2.1) (1 + Int.tmod b.2.1 4) ⟨by omega, by omega⟩
 refine ⟨x, ?_, ayJ r1⟩
 unfold elB
 rw [e]; exact ex
theorem aIP {x : ElT} (h : shE x) (n : Int) : shE (n, x.2) := h
theorem aMz : shE e0 := ⟨⟨zA _, fun _ h => by cases h⟩, ⟨zA _, fun _ h => by cases h⟩, zA _, ⟨zA _, zA _⟩, zA _⟩
theorem aIO {n : Int} (h : n ≤ 4) : shE (ajH n) := by
 refine ⟨⟨?_, fun c hc => ?_⟩, ⟨zA _, fun _ h => by cases h⟩, zA _, ⟨zA _, zA _⟩, zA _⟩
 ·show (List.replicate n.toNat _).length ≤ 1000000000000
  rw [zM]; omega
 ·rw [List.eq_of_mem_replicate hc]; exact ⟨zA _, zA _⟩
theorem aIQ {l : List ElT} (h : ∀ x ∈ l, shE x) (k : Nat) : shE (l.getD k e0) := by
 by_cases c : k < l.length
 ·exact h _ (aa3 c e0)
 ·rw [zX, yC zc]; exact aMz
theorem aIc {b : BcT} {c : ChT} {m : Nat} (hb : wfB b) (hc : bndN c m) (hm : m ≤ 90) : ∃ r, afV (b, c, ()) = some (r, ()) ∧ bndN r (m + 9) := by
 obtain ⟨x, ex, hx⟩ := aNi hb
 obtain ⟨n, xs, u⟩ := c
 obtain ⟨hl, hs⟩ := hc
 dsimp only at hl hs
 have hset : ∀ v, shE v → ∀ k, bndN ((n, xs.set k v, ()) : ChT) (m + 9) := fun v hv k => ⟨by show (xs.set k v).length ≤ _; rw [yu]; omega, fun y hy => (List.mem_or_eq_of_mem_set hy).elim (hs y) (fun e => e ▸ hv)⟩
 have hself : ∀ k w, bndN ((k, xs, w) : ChT) (m + 9) := fun k w => ⟨by show xs.length ≤ _; omega, hs⟩
 suffices h : ∃ r, aAJ b (n, xs, u) = some r ∧ bndN r (m + 9) by
  obtain ⟨r, e, h⟩ := h
  refine ⟨r, ?_, h⟩
  refine (if_pos ⟨⟨hb.1.1, hb.2.1⟩, by show xs.length ≤ 100; omega⟩).trans ?_
  show (aAJ b (n, xs, u)).map _ = _
  rw [e]; rfl
 unfold aAJ
 dsimp only
 rw [ex]
 by_cases q0 : Int.tmod b.1 7 = 0
 ·rw [if_pos q0]; exact ⟨_, rfl, hself _ _⟩
 rw [if_neg q0]
 by_cases q1 : Int.tmod b.1 7 = 1
 ·rw [if_pos q1]
  refine ⟨_, rfl, by show (xs ++ [x]).length ≤ _; rw [zu]; simp; omega, fun y hy => ?_⟩
  rcases zx.1 hy with h | h
  ·exact hs y h
  ·rw [zG.1 h]; exact hx
 rw [if_neg q1]
 by_cases q2 : Int.tmod b.1 7 = 2
 ·rw [if_pos q2]
  by_cases e : xs = []
  ·rw [if_pos e]; exact ⟨_, rfl, hself _ _⟩
  ·rw [if_neg e]; exact ⟨_, rfl, hset _ hx _⟩
 rw [if_neg q2]
 by_cases q3 : Int.tmod b.1 7 = 3
 ·rw [if_pos q3]; exact ⟨_, rfl, hset _ (aIP (aIQ hs _) _) _⟩
 rw [if_neg q3]
 by_cases q4 : Int.tmod b.1 7 = 4
 ·rw [if_pos q4]
  exact ⟨_, rfl, by show (xs.eraseIdx _).length ≤ _; have := List.length_eraseIdx_le xs (af3 b xs); omega, fun y hy => hs y (List.mem_of_mem_eraseIdx hy)⟩
 rw [if_neg q4]
 by_cases q5 : Int.tmod b.1 7 = 5
 ·rw [if_pos q5]
  by_cases e : 1 ≤ n ∧ n ≤ 4
  ·rw [if_pos e]
   have hu := (av2 (b := b) hb.2.1).2
   refine ⟨_, rfl, by show (List.replicate _ _ ++ xs).length ≤ _; rw [zu, zM]; omega, fun y hy => ?_⟩
   rcases zx.1 hy with h | h
   ·rw [List.eq_of_mem_replicate h]; exact aIO e.2
   ·exact hs y h
  ·rw [if_neg e]; exact ⟨_, rfl, hself _ _⟩
 rw [if_neg q5]; exact ⟨_, rfl, hself _ _⟩
theorem aIM (d : DcT) (b : List BcT) (hd : wfC d) (hb : aMf b) : WP (af9 d b) fun y => y.1.length = 3 ∧ ∀ c ∈ y.1, bnd c := by
 obtain ⟨hb2, hbw⟩ := hb
 match b, hb2, hbw with
 | [b0, b1], _, hbw =>
 have w0 := aCB (hbw b0 zf)
 have w1 := aCB (hbw b1 zf)
 obtain ⟨⟨c, u⟩, ec, n, n1, n4, gc⟩ := ayV d hd
 have ec : ai0 ((d.1, d.2.1, d.2.2.1, ()), ()) = some (c, ()) := ec
 have k0 : bndN c 3 := ⟨gc.2.1, gc.2.2.1⟩
 obtain ⟨c1, e1, k1⟩ := aIc w0 k0 zc
 obtain ⟨c2, e2, k2⟩ := aIc w1 k1 zc
 unfold af9
 refine aaN _ ec (aaA (aaN _ e1 (aaA (aaN _ e2 (aaP ⟨rfl, fun z hz => ?_⟩)))))
 have hz : z ∈ [c, c1, c2] := hz
 rcases zp.1 hz with h | hz
 ·rw [h]; exact k0.mono zc
 ·rcases zp.1 hz with h | hz
  ·rw [h]; exact k1.mono zc
  ·rw [zG.1 hz]; exact k2.mono zc
theorem aFp {b : List BcT} (h : aMf b) : aMf [reB (List.headD b b0D), reB (List.headD (List.tail b) b0D)] := by
 obtain ⟨hb2, hbw⟩ := h
 match b, hb2, hbw with
 | [b0, b1], _, hbw =>
 refine ⟨rfl, fun x hx => ?_⟩
 rcases zp.1 hx with h | hx
 ·rw [h]; exact aCB (hbw b0 zf)
 ·rw [zG.1 hx]; exact aCB (hbw b1 zf)
theorem aw7 (d : DcT) (b : List BcT) (y) (h : ai1 (d, b, ()) = some y) : (af9 d b).toO = some y := h
abbrev aOD : Ty := .pair (.int .u8) (.pair (.int .u8) (.pair (.int .i64) (.pair aNW .unit)))
theorem aLq {x : BcT} (h : Wf aOD x) : wfB x := ⟨h.1, h.2.1, aMr h.2.2.2.1⟩
def ai4 (_ : DcT × List BcT × Int × Unit) : Option (Bool × Unit) := some (true, ())
set_option maxRecDepth 100000
open Go Go.Vg Go.Proofs
noncomputable section
abbrev t2B (b : List BcT) : List BcT := [(reB (List.headD b b0D)), (reB (List.headD (List.tail b) b0D))]
abbrev l3K (l : List ChT) : List ChT := [rC (List.headD l (0, [], ())), rC (List.headD (List.tail l) (0, [], ())), rC (List.headD (List.tail (List.tail l)) (0, [], ()))]
abbrev l4K (l : List ChT) (n : Int) : List ChT := List.take 3 (List.take 0 [] ++ l3K l) ++ [(n, [], ())]
abbrev gK (l : List ChT) (n i : Int) : ChT := List.getD (l4K l n) (0 + Int.toNat i) (0, [], ())
def ax3 : LTab := [(3, 122, 31744, ⟨0, (Int) × Unit, .dat (.s 28) xW <| .nil, [27, 26, 7], [26], 0⟩), (3, 250686, 75776, ⟨1, (Int) × Unit, .dat (.s 66) xW <| .nil, [65, 64, 63, 62, 59, 61, 60, 58, 57, 54, 56, 55, 53, 52, 47, 51, 50, 49, 48, 46, 45, 44, 43, 42, 13, 12, 41, 40, 37, 39, 38, 11, 10, 36, 35, 32, 34, 33, 9, 31, 30, 29, 28, 27, 26, 7], [34, 26], 0⟩), (5, 12, 777777777, uS)]
def alO (d : DcT) (b : List BcT) (in0 : Int) (y : Bool × Unit) (y1 : List ChT × Unit) (i : Int × Unit) (y2 : Int × Int × Unit) (y3 : Int × Int × Unit) (y4 : Int × Unit) (y5 : Int × Unit) (y6 : Bool × Unit) (y7 : Bool × Unit) (i1 : (Int) × Unit) : TT wU :=
 .ite (decide (i1.1 < (↑4 : Int)))
 (.need (inb i1.1 (↑4 : Int)) <| .call (agP ((rC (gK y1.1 in0 i.1)), (rC (gK y1.1 in0 i1.1)), ())) Dz2 fun y8 =>
 .call (ah1 ((rC (gK y1.1 in0 i.1)), (rC (gK y1.1 in0 i1.1)), ())) Dz2 fun y9 =>
 .ite (!y8.1 == y9.1)
 (.ok (.inr (.inr ((false, ())))))
 (.tt <| .lt (w64 (i1.1 + 1) : Int) fun z => .triv (((z : Int) = z) ∧ (((↑4 : Int) : Int) = (↑4 : Int)) ∧ (((26) = (26)) ∧ (((0) = (0)) ∧ (((4) = (4)) ∧ ((true) = (true))))) ∧ ((y2.2.1 != y3.2.1) = (y2.2.1 != y3.2.1)) ∧ ((y2.2.1 != y3.2.1) = (y2.2.1 != y3.2.1)) ∧ ((false) = (false)) ∧ ((y3.2.1 : Int) = y3.2.1) ∧ ((y2.2.1 : Int) = y2.2.1) ∧ ((y2.1 != y3.1) = (y2.1 != y3.1)) ∧ ((y2.1 != y3.1) = (y2.1 != y3.1)) ∧ ((false) = (false)) ∧ ((y3.1 : Int) = y3.1) ∧ ((y2.1 : Int) = y2.1) ∧ ((!y6.1 == y7.1) = (!y6.1 == y7.1)) ∧ ((!y6.1 == y7.1) = (!y6.1 == y7.1)) ∧ ((false) = (false)) ∧ ((y7.1) = (y7.1)) ∧ (((rC (gK y1.1 in0 i.1)) : ChT) = (rC (gK y1.1 in0 i.1))) ∧ ((y6.1) = (y6.1)) ∧ (((rC (gK y1.1 in0 i.1)) : ChT) = (rC (gK y1.1 in0 i.1))) ∧ ((y4.1 != y5.1) = (y4.1 != y5.1)) ∧ ((y5.1 : Int) = y5.1) ∧ (((rC (gK y1.1 in0 i.1)) : ChT) = (rC (gK y1.1 in0 i.1))) ∧ ((y4.1 : Int) = y4.1) ∧ (((rC (gK y1.1 in0 i.1)) : ChT) = (rC (gK y1.1 in0 i.1))) ∧ ((y3.2.1 : Int) = y3.2.1) ∧ ((y3.1 : Int) = y3.1) ∧ ((y3.2.1 : Int) = y3.2.1) ∧ ((y3.1 : Int) = y3.1) ∧ (((y3.1 : Int) = y3.1) ∧ (((y3.2.1 : Int) = y3.2.1) ∧ True)) ∧ (((y3.1 : Int) = y3.1) ∧ (((y3.2.1 : Int) = y3.2.1) ∧ True)) ∧ (((rC (gK y1.1 in0 i.1)) : ChT) = (rC (gK y1.1 in0 i.1))) ∧ ((y2.2.1 : Int) = y2.2.1) ∧ ((y2.1 : Int) = y2.1) ∧ ((y2.2.1 : Int) = y2.2.1) ∧ ((y2.1 : Int) = y2.1) ∧ (((y2.1 : Int) = y2.1) ∧ (((y2.2.1 : Int) = y2.2.1) ∧ True)) ∧ (((y2.1 : Int) = y2.1) ∧ (((y2.2.1 : Int) = y2.2.1) ∧ True)) ∧ (((rC (gK y1.1 in0 i.1)) : ChT) = (rC (gK y1.1 in0 i.1))) ∧ (((34) = (34)) ∧ (((0) = (0)) ∧ ((true) = (true)))) ∧ ((gK y1.1 in0 i.1 : ChT) = gK y1.1 in0 i.1) ∧ (((26) = (26)) ∧ (((0 + Int.toNat i.1) = (0 + Int.toNat i.1)) ∧ ((true) = (true)))) ∧ ((decide (i.1 < (↑4 : Int))) = (decide (i.1 < (↑4 : Int)))) ∧ ((i.1 : Int) = i.1) ∧ (((↑4 : Int) : Int) = (↑4 : Int)) ∧ (((26) = (26)) ∧ (((0) = (0)) ∧ (((4) = (4)) ∧ ((true) = (true))))) ∧ (((26) = (26)) ∧ (((0) = (0)) ∧ (((4) = (4)) ∧ ((true) = (true))))) ∧ True) ⟨rfl, rfl, ⟨rfl, ⟨rfl, ⟨rfl, rfl⟩⟩⟩, rfl, rfl, rfl, rfl, rfl, rfl, rfl, rfl, rfl, rfl, rfl, rfl, rfl, rfl, rfl, rfl, rfl, rfl, rfl, rfl, rfl, rfl, rfl, rfl, rfl, rfl, ⟨rfl, ⟨rfl, trivial⟩⟩, ⟨rfl, ⟨rfl, trivial⟩⟩, rfl, rfl, rfl, rfl, rfl, ⟨rfl, ⟨rfl, trivial⟩⟩, ⟨rfl, ⟨rfl, trivial⟩⟩, rfl, ⟨rfl, ⟨rfl, rfl⟩⟩, rfl, ⟨rfl, ⟨rfl, rfl⟩⟩, rfl, rfl, rfl, ⟨rfl, ⟨rfl, ⟨rfl, rfl⟩⟩⟩, ⟨rfl, ⟨rfl, ⟨rfl, rfl⟩⟩⟩, trivial⟩ <| .xC (xB (xF 49 ((gK y1.1 in0 i.1).1 : Int) ((gK y1.1 in0 i.1).2.1 : List ElT)) <| xB (xR 49 (l4K y1.1 in0 : List ChT)) True) <| .ok (.inl ((z, ())))))
 (.tt <| .lt (w64 (i.1 + 1) : Int) fun z1 => .triv (((z1 : Int) = z1) ∧ (((↑4 : Int) : Int) = (↑4 : Int)) ∧ (((26) = (26)) ∧ (((0) = (0)) ∧ (((4) = (4)) ∧ ((true) = (true))))) ∧ (((26) = (26)) ∧ (((0) = (0)) ∧ (((4) = (4)) ∧ ((true) = (true))))) ∧ True) ⟨rfl, rfl, ⟨rfl, ⟨rfl, ⟨rfl, rfl⟩⟩⟩, ⟨rfl, ⟨rfl, ⟨rfl, rfl⟩⟩⟩, trivial⟩ <| .xC (xB (xR 49 (l4K y1.1 in0 : List ChT)) True) <| .ok (.inr (.inl ((z1, ())))))
def alP (d : DcT) (b : List BcT) (in0 : Int) (y : Bool × Unit) (y1 : List ChT × Unit) (i : (Int) × Unit) : TT wd :=
 .ite (decide (i.1 < (↑4 : Int)))
 (.need (inb i.1 (↑4 : Int)) <| .call (aeA ((rC (gK y1.1 in0 i.1)), ())) Dz0 fun y2 =>
 .call (ah2 ((rC (gK y1.1 in0 i.1)), ())) Dz0 fun y3 =>
 .call (ac4 ((rC (gK y1.1 in0 i.1)), ())) Dz3 fun y4 =>
 .call (agJ ((rC (gK y1.1 in0 i.1)), ())) Dz3 fun y5 =>
 .ite (y4.1 != y5.1)
 (.ok (.inr ((false, ()))))
 (.call (ae0 ((rC (gK y1.1 in0 i.1)), ())) Dz2 fun y6 =>
 .call (agI ((rC (gK y1.1 in0 i.1)), ())) Dz2 fun y7 =>
 .ite (!y6.1 == y7.1)
 (.ok (.inr ((false, ()))))
 (.ite (y2.1 != y3.1)
 (.ok (.inr ((false, ()))))
 (.ite (y2.2.1 != y3.2.1)
 (.ok (.inr ((false, ()))))
 (.loop 1 (.tt <| .triv (((0 : Int) = 0) ∧ (((↑4 : Int) : Int) = (↑4 : Int)) ∧ (((26) = (26)) ∧ (((0) = (0)) ∧ (((4) = (4)) ∧ ((true) = (true))))) ∧ ((y2.2.1 != y3.2.1) = (y2.2.1 != y3.2.1)) ∧ ((y2.2.1 != y3.2.1) = (y2.2.1 != y3.2.1)) ∧ ((false) = (false)) ∧ ((y3.2.1 : Int) = y3.2.1) ∧ ((y2.2.1 : Int) = y2.2.1) ∧ ((y2.1 != y3.1) = (y2.1 != y3.1)) ∧ ((y2.1 != y3.1) = (y2.1 != y3.1)) ∧ ((false) = (false)) ∧ ((y3.1 : Int) = y3.1) ∧ ((y2.1 : Int) = y2.1) ∧ ((!y6.1 == y7.1) = (!y6.1 == y7.1)) ∧ ((!y6.1 == y7.1) = (!y6.1 == y7.1)) ∧ ((false) = (false)) ∧ ((y7.1) = (y7.1)) ∧ (((rC (gK y1.1 in0 i.1)) : ChT) = (rC (gK y1.1 in0 i.1))) ∧ ((y6.1) = (y6.1)) ∧ (((rC (gK y1.1 in0 i.1)) : ChT) = (rC (gK y1.1 in0 i.1))) ∧ ((y4.1 != y5.1) = (y4.1 != y5.1)) ∧ ((y5.1 : Int) = y5.1) ∧ (((rC (gK y1.1 in0 i.1)) : ChT) = (rC (gK y1.1 in0 i.1))) ∧ ((y4.1 : Int) = y4.1) ∧ (((rC (gK y1.1 in0 i.1)) : ChT) = (rC (gK y1.1 in0 i.1))) ∧ ((y3.2.1 : Int) = y3.2.1) ∧ ((y3.1 : Int) = y3.1) ∧ ((y3.2.1 : Int) = y3.2.1) ∧ ((y3.1 : Int) = y3.1) ∧ (((y3.1 : Int) = y3.1) ∧ (((y3.2.1 : Int) = y3.2.1) ∧ True)) ∧ (((y3.1 : Int) = y3.1) ∧ (((y3.2.1 : Int) = y3.2.1) ∧ True)) ∧ (((rC (gK y1.1 in0 i.1)) : ChT) = (rC (gK y1.1 in0 i.1))) ∧ ((y2.2.1 : Int) = y2.2.1) ∧ ((y2.1 : Int) = y2.1) ∧ ((y2.2.1 : Int) = y2.2.1) ∧ ((y2.1 : Int) = y2.1) ∧ (((y2.1 : Int) = y2.1) ∧ (((y2.2.1 : Int) = y2.2.1) ∧ True)) ∧ (((y2.1 : Int) = y2.1) ∧ (((y2.2.1 : Int) = y2.2.1) ∧ True)) ∧ (((rC (gK y1.1 in0 i.1)) : ChT) = (rC (gK y1.1 in0 i.1))) ∧ (((34) = (34)) ∧ (((0) = (0)) ∧ ((true) = (true)))) ∧ ((gK y1.1 in0 i.1 : ChT) = gK y1.1 in0 i.1) ∧ (((26) = (26)) ∧ (((0 + Int.toNat i.1) = (0 + Int.toNat i.1)) ∧ ((true) = (true)))) ∧ ((decide (i.1 < (↑4 : Int))) = (decide (i.1 < (↑4 : Int)))) ∧ ((i.1 : Int) = i.1) ∧ (((↑4 : Int) : Int) = (↑4 : Int)) ∧ (((26) = (26)) ∧ (((0) = (0)) ∧ (((4) = (4)) ∧ ((true) = (true))))) ∧ (((26) = (26)) ∧ (((0) = (0)) ∧ (((4) = (4)) ∧ ((true) = (true))))) ∧ True) ⟨rfl, rfl, ⟨rfl, ⟨rfl, ⟨rfl, rfl⟩⟩⟩, rfl, rfl, rfl, rfl, rfl, rfl, rfl, rfl, rfl, rfl, rfl, rfl, rfl, rfl, rfl, rfl, rfl, rfl, rfl, rfl, rfl, rfl, rfl, rfl, rfl, rfl, ⟨rfl, ⟨rfl, trivial⟩⟩, ⟨rfl, ⟨rfl, trivial⟩⟩, rfl, rfl, rfl, rfl, rfl, ⟨rfl, ⟨rfl, trivial⟩⟩, ⟨rfl, ⟨rfl, trivial⟩⟩, rfl, ⟨rfl, ⟨rfl, rfl⟩⟩, rfl, ⟨rfl, ⟨rfl, rfl⟩⟩, rfl, rfl, rfl, ⟨rfl, ⟨rfl, ⟨rfl, rfl⟩⟩⟩, ⟨rfl, ⟨rfl, ⟨rfl, rfl⟩⟩⟩, trivial⟩ <| .xC (xB (xF 49 ((gK y1.1 in0 i.1).1 : Int) ((gK y1.1 in0 i.1).2.1 : List ElT)) <| xB (xR 49 (l4K y1.1 in0 : List ChT)) True) <| .ok ((0, ()))) (alO d b in0 y y1 i y2 y3 y4 y5 y6 y7))))))
 (.ok (.inr ((true, ()))))
def afQ (d : DcT) (b : List BcT) (in0 : Int) : TT wi :=
 .call (atF ()) Dz2 fun y =>
 .ite (!y.1)
 (.ok ((false, ())))
 (.tt <| .tt <| .call (ai1 ((d.1, d.2.1, d.2.2.1, ()), (t2B (t2B b)), ())) aO7 fun y1 =>
 .tt <| .tt <| .need ((0 + List.length (l3K y1.1)) * 32 ≤ 140737488355328) <| .need ((3 + 1) * 32 ≤ 140737488355328) <| .loop 0 (.tt <| .triv (((0 : Int) = 0) ∧ (((↑4 : Int) : Int) = (↑4 : Int)) ∧ (((26) = (26)) ∧ (((0) = (0)) ∧ (((4) = (4)) ∧ ((true) = (true))))) ∧ (((26) = (26)) ∧ (((0) = (0)) ∧ (((4) = (4)) ∧ ((true) = (true))))) ∧ True) ⟨rfl, rfl, ⟨rfl, ⟨rfl, ⟨rfl, rfl⟩⟩⟩, ⟨rfl, ⟨rfl, ⟨rfl, rfl⟩⟩⟩, trivial⟩ <| .xC (xB (xR 49 (l4K y1.1 in0 : List ChT)) True) <| .ok ((0, ()))) (alP d b in0 y y1))
end
theorem aM6 {l : List ChT} (h3 : l.length = 3) (hl : ∀ c ∈ l, bnd c) (n : Int) (k : Nat) (hk : k < 4) : bnd (gK l n (k : Int)) := by
 match l, h3, hl with
 | [a, b, c], _, hl =>
 have : k = 0 ∨ k = 1 ∨ k = 2 ∨ k = 3 := zc
 rcases this with rfl | rfl | rfl | rfl
 ·exact hl a zf
 ·exact hl b zf
 ·exact hl c zf
 ·exact ⟨zA _, fun _ h => by cases h⟩
theorem O1 {c : ChT} (h : ayF c) : ∃ v, aeA (c, ()) = some v ∧ ah2 (c, ()) = some v := ⟨_, if_pos h, if_pos h⟩
theorem Q1 {c : ChT} (h : ayF c) : ∃ v, ac4 (c, ()) = some v ∧ agJ (c, ()) = some v := ⟨_, if_pos h, if_pos h⟩
theorem E1 {c : ChT} (h : ayF c) : ∃ v, ae0 (c, ()) = some (v, ()) ∧ agI (c, ()) = some (v, ()) := ⟨_, if_pos h, if_pos h⟩
theorem Sm1 {a b : ChT} (h : ayF a) : agP (a, b, ()) = some (eqb a b, ()) := if_pos h
theorem Sm2 {a b : ChT} (h : ayF a) : ah1 (a, b, ()) = some (eqb a b, ()) := if_pos h
theorem auH (d : DcT) (b : List BcT) (in0 : Int) (hd : wfC d) (hb : aMf b) : WP (afQ d b in0) fun y => y = (true, ()) := by
 obtain ⟨⟨l, u2⟩, el, hl3, hl⟩ := aIM d (t2B (t2B b)) hd (aFp (aFp hb))
 have el : ai1 ((d.1, d.2.1, d.2.2.1, ()), t2B (t2B b), ()) = some (l, ()) := el
 dsimp only at hl3 hl
 unfold afQ
 refine aaN _ (show atF () = some (true, ()) from rfl) (aaL (fun h => by cases h) (fun _ => aaA (aaA (aaN _ el (aaA (aaA (aaF (by show (0 + 3) * 32 ≤ 140737488355328; decide) (aaF zd ?_))))))))
 refine adY (fun i : Int × Unit => ∃ k : Nat, k ≤ 4 ∧ i.1 = (k : Int)) (fun i => (4 - i.1).toNat) (aaA (aaA (aaA (aaP ⟨0, by omega, rfl⟩)))) ?_
 intro i hi
 obtain ⟨i, ui⟩ := i
 obtain ⟨k, hk4, e⟩ := hi
 dsimp only at e
 subst e
 unfold alP
 dsimp only
 refine aaL (fun a => ?_) (fun a => aaP rfl)
 have hk : k < 4 := by have := of_decide_eq_true a; omega
 have bc := aM6 hl3 hl in0 k hk
 have ek : w64 ((k : Int) + 1) = ((k + 1 : Nat) : Int) := (aaD ⟨by omega, by omega⟩).trans zc
 obtain ⟨v, x1, x2⟩ := E1 bc.sh
 obtain ⟨vo, o1, o2⟩ := O1 bc.sh
 obtain ⟨vq, q1, q2⟩ := Q1 bc.sh
 refine aaF ⟨by omega, by omega⟩ (aaN _ o1 (aaN _ o2 (aaN _ q1 (aaN _ q2 (aaL (fun h => by simp at h) (fun _ => aaN _ x1 (aaN _ x2 (aaL (fun h => by simp at h) (fun _ => aaL (fun h => by simp at h) (fun _ => aaL (fun h => by simp at h) (fun _ => ?_)))))))))))
 refine adY (fun i : Int × Unit => ∃ k : Nat, k ≤ 4 ∧ i.1 = (k : Int)) (fun i => (4 - i.1).toNat) (aaA (aaA (aaA (aaP ⟨0, by omega, rfl⟩)))) ?_
 intro i1 hi1
 obtain ⟨i1, ui1⟩ := i1
 obtain ⟨k1, hk14, e⟩ := hi1
 dsimp only at e
 subst e
 unfold alO
 dsimp only
 refine aaL (fun a => ?_) (fun a => ?_)
 ·have hk1 : k1 < 4 := by have := of_decide_eq_true a; omega
  have ek1 : w64 ((k1 : Int) + 1) = ((k1 + 1 : Nat) : Int) := (aaD ⟨by omega, by omega⟩).trans zc
  refine aaF ⟨by omega, by omega⟩ (aaN _ (Sm1 bc.sh) (aaN _ (Sm2 bc.sh) (aaL (fun h => by simp at h) (fun _ => aaA (aaQ (aaA (aaA (aaP ?_))))))))
  refine ⟨⟨k1 + 1, by omega, ek1⟩, ?_⟩
  show (4 - w64 ((k1 : Int) + 1)).toNat < (4 - (k1 : Int)).toNat
  rw [ek1]; omega
 ·refine aaA (aaQ (aaA (aaA (aaP ?_))))
  refine ⟨⟨k + 1, by omega, ek⟩, ?_⟩
  show (4 - w64 ((k : Int) + 1)).toNat < (4 - (k : Int)).toNat
  rw [ek]; omega
theorem atL (d : DcT) (b : List BcT) (in0 : Int) (hp : wfC d ∧ aMf b) (y) (h : ai4 (d, b, in0, ()) = some y) : (afQ d b in0).toO = some y := by
 injection h with h
 subst h
 obtain ⟨r, e, q⟩ := auH d b in0 hp.1 hp.2
 rw [e, q]
theorem aNS {x : DcT × List BcT × Int × Unit} (h : Wf (.pair aOC (.pair (.arr 2 aOD) (.pair (.int .i64) .unit))) x) : wfC x.1 ∧ aMf x.2.1 :=
 ⟨aNT h.1, ⟨h.2.1.1, fun z hz => aLq (h.2.1.2 z hz)⟩⟩
set_option maxRecDepth 1000000
open Go Go.Vg Go.Proofs
noncomputable section
def aGQ : OkC := ⟨4, _, aEb⟩
def aBB := okT 66 (P2 tL tL) (P1 .bool) ahJ aLw [] Tryz.func66 (fun x => aA5 x.1 x.2.1) fun _ y _ h => aFC _ _ y h
def aJl := okT 67 (P2 (P3 tL tI tL) (P3 tL tI tL)) (P1 .bool) ai2 aJO [aBB] Tryz.func67 (fun x => axC x.1 x.2.1) fun _ y _ h => aEH _ _ y h
def aLJ := okT 68 (P2 (.sl tB) (.sl tB)) (P1 .bool) amR aLv [] Tryz.func68 (fun x => aA4 x.1 x.2.1) fun _ y _ h => aFB _ _ y h
def aLI := okT 113 (P2 (.sl tS) (.sl tS)) (P1 .bool) atG aLu [] Tryz.func113 (fun x => aA3 x.1 x.2.1) fun _ y _ h => aFA _ _ y h
def aJo := okT 63 (P2 tC tC) (P1 .bool) anK aJ5 [aBB, aLI] Tryz.func63 (fun x => axV x.1 x.2.1) fun _ y _ h => aE2 _ _ y h
def aGV := okT 33 (P2 (.pair tI (.pair (.sl tC) (.pair (.sl tL) (.pair tL (P4 (P3 tL tI tL) (.sl tB) tI tI))))) (.pair tI (.pair (.sl tC) (.pair (.sl tL) (.pair tL (P4 (P3 tL tI tL) (.sl tB) tI tI)))))) (P1 .bool) agN aHH [aBB, aJl, aLJ, aJo] Tryz.func33 (fun x => asL x.1 x.2.1) fun _ y _ h => aCb _ _ y h
def aGY := okT 13 (P2 (P2 tI (.sl (.pair tI (.pair (.sl tC) (.pair (.sl tL) (.pair tL (P4 (P3 tL tI tL) (.sl tB) tI tI))))))) (P2 tI (.sl (.pair tI (.pair (.sl tC) (.pair (.sl tL) (.pair tL (P4 (P3 tL tI tL) (.sl tB) tI tI)))))))) (P1 .bool) agP aH3 [aGV] Tryz.func13 (fun x => as1 x.1 x.2.1) fun _ y _ h => aCm _ _ y h
def au8 := okT 69 (P2 tL tL) (P1 .bool) adV aD5 [] Tryz.func69 (fun x => an5 x.1 x.2.1) fun _ y _ h => azA _ _ y h
def aGR := okT 72 (P2 tC tC) (P1 .bool) akD aFT [] Tryz.func72 (fun x => aq2 x.1 x.2.1) fun _ y _ h => aBf _ _ y h
def aEm := okT 70 (P2 (P3 tL tI tL) (P3 tL tI tL)) (P1 .bool) ah6 aD3 [au8] Tryz.func70 (fun x => an4 x.1 x.2.1) fun _ y _ h => ay7 _ _ y h
def aEk := okT 71 (P2 (.sl tB) (.sl tB)) (P1 .bool) ah5 aD0 [] Tryz.func71 (fun x => an3 x.1 x.2.1) fun _ y _ h => ay2 _ _ y h
def aEj := okT 34 (P2 (.pair tI (.pair (.sl tC) (.pair (.sl tL) (.pair tL (P4 (P3 tL tI tL) (.sl tB) tI tI))))) (.pair tI (.pair (.sl tC) (.pair (.sl tL) (.pair tL (P4 (P3 tL tI tL) (.sl tB) tI tI)))))) (P1 .bool) ah4 aDY [au8, aGR, aEm, aEk] Tryz.func34 (fun x => an1 x.1 x.2.1) fun _ y _ h => ayZ _ _ y h
end
set_option maxRecDepth 1000000
open Go Go.Vg Go.Proofs
noncomputable section
def aEf := okT 14 (P2 (P2 tI (.sl (.pair tI (.pair (.sl tC) (.pair (.sl tL) (.pair tL (P4 (P3 tL tI tL) (.sl tB) tI tI))))))) (P2 tI (.sl (.pair tI (.pair (.sl tC) (.pair (.sl tL) (.pair tL (P4 (P3 tL tI tL) (.sl tB) tI tI)))))))) (P1 .bool) ah1 aDU [aEj] Tryz.func14 (fun x => anX x.1 x.2.1) fun _ y _ h => ayT _ _ y h
def avA := okT 234 (P3 tI tI tI) (P1 .bool) ac5 aE1 [] Tryz.func234 (fun x => aoY x.1 x.2.1 x.2.2.1) fun _ y _ h => aAG _ _ _ y h
def at8 := okT 155 (P1 tL) (P1 .bool) ahK auD [avA] Tryz.func155 (fun x => ahI x.1) fun _ y _ h => ap2 _ y h
def aEt := okT 235 (P1 (P3 tS tI .bool)) (P1 .bool) aeZ aES [avA] Tryz.func235 (fun x => aoT x.1) fun _ y _ h => aAs _ y h
def aoB := okT 156 (P1 tC) (P1 .bool) ae1 aoZ [aEt] Tryz.func156 (fun x => aeQ x.1) fun _ y _ h => amP _ y h
def azN := okT 105 (P1 tC) (P1 tI) akG aH9 [at8, aoB] Tryz.func105 (fun x => as4 x.1) fun _ y _ h => aCr _ y h
def arS := okT 100 (P1 (.sl tC)) (P1 .bool) ac0 asK [azN] Tryz.func100 (fun x => agE x.1) fun _ y _ h => aoO _ y h
def aJm := okT 151 (P1 tI) (P1 .bool) anJ aJU [] Tryz.func151 (fun x => axJ x.1) fun _ y _ h => aEO _ y h
def arR := okT 101 (P2 (.sl tL) tL) (P1 .bool) acJ asJ [aJm] Tryz.func101 (fun x => agD x.1 x.2.1) fun _ y _ h => aoN _ _ y h
def aEr := okT 152 (P3 tI tI tI) (P1 .bool) aeW aEG [] Tryz.func152 (fun x => aoE x.1 x.2.1 x.2.2.1) fun _ y _ h => az6 _ _ _ y h
def aBO := okT 153 (P1 tL) (P1 tI) adI aB2 [] Tryz.func153 (fun x => amJ x.1) fun _ y _ h => axB _ y h
def aGU := okT 102 (P1 (P3 tL tI tL)) (P1 tI) ah8 aHr [aEr, aBO] Tryz.func102 (fun x => ar3 x.1) fun _ y _ h => aB3 _ y h
end
set_option maxRecDepth 1000000
open Go Go.Vg Go.Proofs
noncomputable section
def aEo := okT 232 (P1 tI) (P2 tI .bool) ah7 aD7 [] Tryz.func232 (fun x => an6 x.1) fun _ y _ h => azC _ y h
def aw4 := okT 233 (P3 tB tI tI) (P1 .bool) ad9 awZ [] Tryz.func233 (fun x => aiH x.1 x.2.1 x.2.2.1) fun _ y _ h => arG _ _ _ y h
def aBM := okT 154 (P3 (.sl tB) tI tI) tB agM aBy [aEo, aw4] Tryz.func154 (fun x => al6 x.1 x.2.1 x.2.2.1) fun _ y _ h => awY _ _ _ y h
def aEp := okT 103 (P3 (.sl tB) tI tI) (P1 tI) afU aD8 [aBM] Tryz.func103 (fun x => an7 x.1 x.2.1 x.2.2.1) fun _ y _ h => azD _ _ _ y h
def aoA := okT 56 (P1 (.pair tI (.pair (.sl tC) (.pair (.sl tL) (.pair tL (P4 (P3 tL tI tL) (.sl tB) tI tI)))))) (P1 tI) aeY aER [arS, arR, aGU, aEp] Tryz.func56 (fun x => aoQ x.1) fun _ y _ h => aAp _ y h
def aJn := okT 51 (P1 (.pair tI (.pair (.sl tC) (.pair (.sl tL) (.pair tL (P4 (P3 tL tI tL) (.sl tB) tI tI)))))) tB ai3 aJV [aoA] Tryz.func51 (fun x => axK x.1) fun _ y _ h => aEP _ y h
def aGW := okT 52 (P1 (.pair tI (.pair (.sl tC) (.pair (.sl tL) (.pair tL (P4 (P3 tL tI tL) (.sl tB) tI tI)))))) tB ae9 aHI [aoA] Tryz.func52 (fun x => asM x.1) fun _ y _ h => aCc _ y h
def aGX := okT 25 (P1 (P1 (P2 tI (.sl (.pair tI (.pair (.sl tC) (.pair (.sl tL) (.pair tL (P4 (P3 tL tI tL) (.sl tB) tI tI))))))))) (P2 tI .bool) agO aH2 [aJn, aGW] Tryz.func25 (fun x => as0 x.1) fun _ y _ h => aCl _ y h
def azM := okT 7 (P1 (P2 tI (.sl (.pair tI (.pair (.sl tC) (.pair (.sl tL) (.pair tL (P4 (P3 tL tI tL) (.sl tB) tI tI)))))))) tB aeA aH4 [aGX] Tryz.func7 (fun x => aAB x.1) fun _ y _ h => aCn _ y h
def aEi := okT 107 (P1 (P3 tL tI tL)) (P1 .bool) ah3 aDX [] Tryz.func107 (fun x => an0 x.1) fun _ y _ h => ayY _ y h
def arN := okT 162 (P3 tI tI tI) (P1 .bool) ab0 aBc [] Tryz.func162 (fun x => alR x.1 x.2.1 x.2.2.1) fun _ y _ h => awG _ _ _ y h
def arO := okT 237 tB (P1 .bool) abB aBe [] Tryz.func237 (fun x => alS x.1 x.2.1) fun _ y _ h => awJ _ _ y h
end
end Go.Vs
