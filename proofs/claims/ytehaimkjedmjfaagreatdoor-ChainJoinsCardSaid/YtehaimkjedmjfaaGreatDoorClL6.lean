/-
  Trees of what the functions compute, and their laws. Own work; no condition.
-/
import Derived.Test.YtehaimkjedmjfaaGreatDoorClL5
import Derived.Test.YtehaimkjedmjfaaGreatDoorProg
set_option linter.unusedVariables false
set_option linter.unusedSimpArgs false
set_option maxRecDepth 100000
namespace Go.Vs
open Go Go.Vg Go.Proofs
noncomputable section
abbrev BcT := Int × Int × Int × DeT × Unit
abbrev b0D : BcT := (0, 0, 0, d0D, ())
abbrev reB (b : BcT) : BcT := (b.1, b.2.1, b.2.2.1, (reD (b.2.2.2.1.1) b.2.2.2.1), ())
abbrev aOf : Ty := (Ty.pair wz (Ty.pair wz (Ty.pair (Ty.arr 4 (Ty.pair wz (Ty.pair (Ty.sl (Ty.int IntKind.u16)) (Ty.pair (Ty.sl (Ty.pair wz (Ty.pair wL (Ty.pair wL (Ty.pair wL (Ty.pair wz (Ty.pair wz Ty.unit))))))) (Ty.pair Ty.bool wJ))))) (Ty.pair (Ty.arr 4 (Ty.arr 4 wL)) (Ty.pair (Ty.arr 4 wL) (Ty.pair (Ty.pair (Ty.sl wz) (Ty.pair wz (Ty.pair (Ty.sl (Ty.int IntKind.u16)) wJ))) (Ty.pair (Ty.pair wz (Ty.pair wz (Ty.pair (Ty.sl (Ty.pair wz (Ty.pair wL Ty.unit))) Ty.unit))) Ty.unit)))))))
abbrev aXc (b : BcT) : AV := AV.d aOf (asT DeT (reD (b.2.2.2.1.1) b.2.2.2.1))
abbrev lBc (l : List ElT) : Nat := 0 + List.length l
abbrev eBc (l : List ElT) : List ElT := List.take 0 [] ++ l
abbrev iBc (b : BcT) (l : List ElT) : Int := Int.tmod (w64 b.2.1) (↑(lBc l) : Int)
abbrev jBc (b : BcT) (l : List ElT) : Int := w64 (iBc b l + 1)
abbrev tBc (b : BcT) (l : List ElT) : List ElT := List.take (lBc l - Int.toNat (jBc b l)) (List.drop (0 + Int.toNat (jBc b l)) (eBc l))
abbrev bBc (k : Nat) (l : List ElT) : Bool := Nat.beq k k && Nat.beq 0 0 && Nat.beq (lBc l) (lBc l)
abbrev sIc {α : Type} (n : Int) (x : TT α) : TT α := .triv (acU (AV.d xX (asT Int n)) (AV.d xX (asT Int n))) rfl x
abbrev sXc {α : Type} (b : BcT) (x : TT α) : TT α := .triv (acU (aXc b) (aXc b)) rfl x
def aD9 : LTab := [(24, 1007612, 28675, ⟨0, (List ElT) × Unit, .dat (.c 1 1) (Ty.sl tyE) <| .nil, [5, 4, 3], [2, 1], 0⟩), (24, 128974378, 51209, ⟨1, (Int) × Bool × (List CvT) × Unit, .dat (.s 113) xX <| .appN (.c 46 1) 50 112 tyV <| .nil, [112, 111, 9, 110, 109, 108, 105, 107, 106, 104, 103, 100, 102, 101, 99, 98, 97, 96, 95, 94, 93, 5, 4, 3], [46, 2, 1], 1⟩), (24, 128974378, 51207, ⟨2, (Int) × Bool × (List CvT) × Unit, .dat (.s 113) xX <| .appN (.c 46 1) 50 112 tyV <| .nil, [112, 111, 9, 110, 109, 108, 105, 107, 106, 104, 103, 100, 102, 101, 99, 98, 97, 96, 95, 94, 93, 5, 4, 3], [46, 2, 1], 1⟩), (24, 1007612, 30721, ⟨3, (List ElT) × Unit, .dat (.c 1 1) (Ty.sl tyE) <| .nil, [5, 4, 3], [2, 1], 0⟩), (24, 128974378, 53255, ⟨4, (Int) × Bool × (List CvT) × Unit, .dat (.s 113) xX <| .appN (.c 48 1) 52 112 tyV <| .nil, [112, 111, 9, 110, 109, 108, 105, 107, 106, 104, 103, 100, 102, 101, 99, 98, 97, 96, 95, 94, 93, 5, 4, 3], [48, 2, 1], 1⟩), (24, 1007612, 31745, ⟨5, (List ElT) × Unit, .dat (.c 1 1) (Ty.sl tyE) <| .nil, [5, 4, 3], [2, 1], 0⟩), (24, 128974378, 54279, ⟨6, (Int) × Bool × (List CvT) × Unit, .dat (.s 113) xX <| .appN (.c 49 1) 53 112 tyV <| .nil, [112, 111, 9, 110, 109, 108, 105, 107, 106, 104, 103, 100, 102, 101, 99, 98, 97, 96, 95, 94, 93, 5, 4, 3], [49, 9, 2, 1], 1⟩), (24, 1966, 777777777, uS), (24, 62966, 777777777, uS), (24, 251894, 777777777, uS), (24, 1007606, 777777777, uS), (46, 12, 777777777, uS), (47, 6, 777777777, uS), (47, 62, 777777777, uS), (47, 126, 777777777, uS)]
def al0 (b : BcT) (c : ChT) (i : List ElT × Unit) (i1 : (Int) × Bool × (List CvT) × Unit) : TT (((Int) × Bool × (List CvT) × Unit) ⊕ (((List ElT) × Unit) ⊕ (ChT × Unit))) :=
 .ite (i1.2.1)
 (.ite (decide (i1.1 < c.1))
 (.triv (1 * 56 ≤ 140737488355328) zd <| .tt <| .lt (w64 (i1.1 + 1) : Int) fun z2 => .lt ([(1, [], [], ())] : List CvT) fun z3 => .xD (xQ z2 c.1 <| wb ∧ ((xJ 46 0 true) ∧ (wo ∧ (xK (decide (c.1 ≤ 4)) (decide (c.1 ≤ 4)) true c.1 <| wb ∧ (xK (decide (c.1 ≥ 1)) (decide (c.1 ≥ 1)) true c.1 <| wb ∧ (xT (decide (len i.1 < w64 (8 + Int.tmod (w64 b.2.1) 2))) (w64 (8 + Int.tmod (w64 b.2.1) 2)) (Int.tmod (w64 b.2.1) 2) (w64 b.2.1 : Int) (len i.1) i.1 <| wB ∧ (xL (w64 b.2.1 : Int) <| wm ∧ wb ∧ True))))))) <| .xD (xC (xS 112 z3) <| xC (xQ 82 (1 : Int) <| (xU 50 0 1 true) ∧ xZ) <| xC wd <| xC (xH 47 c.1 i.1) True) <| .ok (.inl ((z2, false, z3, ()))))
 (.need ((1 + List.length i.1) * 176 ≤ 140737488355328) <| .ite (List.isEmpty i.1)
 (.tt <| .lt ([(1, [], [], [], ([], 0, [], ()), [], 0, 0, ())] : List ElT) fun z4 => .xD (xL (w64 b.2.1 : Int) <| wm ∧ wb ∧ True) <| .xD (xC wd <| xC (xH 47 c.1 z4) True) <| .ok (.inr (.inl ((z4, ())))))
 (.tt <| .lt (List.take (1 + List.length i.1) ([(1, [], [], [], ([], 0, [], ()), [], 0, 0, ())] ++ i.1) : List ElT) fun z5 => .xD (xL (w64 b.2.1 : Int) <| wm ∧ wb ∧ True) <| .xD (xC wd <| xC (xH 47 c.1 z5) True) <| .ok (.inr (.inl ((z5, ())))))))
 (.ite (decide (i1.1 < c.1))
 (.need ((List.length i1.2.2.1 + 1) * 56 ≤ 140737488355328) <| .tt <| .lt (w64 (i1.1 + 1) : Int) fun z6 => .lt (List.take (List.length i1.2.2.1) i1.2.2.1 ++ [(1, [], [], ())] : List CvT) fun z7 => .xD (xQ z6 c.1 <| wb ∧ ((xJ 46 0 true) ∧ (wo ∧ (xK (decide (c.1 ≤ 4)) (decide (c.1 ≤ 4)) true c.1 <| wb ∧ (xK (decide (c.1 ≥ 1)) (decide (c.1 ≥ 1)) true c.1 <| wb ∧ (xT (decide (len i.1 < w64 (8 + Int.tmod (w64 b.2.1) 2))) (w64 (8 + Int.tmod (w64 b.2.1) 2)) (Int.tmod (w64 b.2.1) 2) (w64 b.2.1 : Int) (len i.1) i.1 <| wB ∧ (xL (w64 b.2.1 : Int) <| wm ∧ wb ∧ True))))))) <| .need ((((112 : TypeId) = 112) ∧ ((z7 : List CvT) = z7)) ∧ (true = true) ∧ (((82 : TypeId) = 82) ∧ (((1 : Int) = 1) ∧ ((((50) = (50)) ∧ (((0) = (0)) ∧ ((List.length i1.2.2.1 + 1 = List.length z7) ∧ ((true) = (true))))) ∧ (True ∧ (True ∧ (True ∧ (((0 : Int) = 0) ∧ (True ∧ (True ∧ (((0 : Int) = 0) ∧ (((0 : Int) = 0) ∧ True))))))))))) ∧ (true = true) ∧ (((47 : TypeId) = 47) ∧ (((0 : Int) = 0) ∧ wq)) ∧ (true = true) ∧ (((47 : TypeId) = 47) ∧ (((c.1 : Int) = c.1) ∧ (((i.1 : List ElT) = i.1) ∧ True))) ∧ (true = true) ∧ True) <| .ok (.inl ((z6, false, z7, ()))))
 (.need ((1 + List.length i.1) * 176 ≤ 140737488355328) <| .ite (List.isEmpty i.1)
 (.tt <| .lt ([(1, List.take (List.length i1.2.2.1) i1.2.2.1, [], [], ([], 0, [], ()), [], 0, 0, ())] : List ElT) fun z8 => .xD (xL (w64 b.2.1 : Int) <| wm ∧ wb ∧ True) <| .xD (xC wd <| xC (xH 47 c.1 z8) True) <| .ok (.inr (.inl ((z8, ())))))
 (.tt <| .lt (List.take (1 + List.length i.1) ([(1, List.take (List.length i1.2.2.1) i1.2.2.1, [], [], ([], 0, [], ()), [], 0, 0, ())] ++ i.1) : List ElT) fun z9 => .xD (xL (w64 b.2.1 : Int) <| wm ∧ wb ∧ True) <| .xD (xC wd <| xC (xH 47 c.1 z9) True) <| .ok (.inr (.inl ((z9, ())))))))
def al1 (b : BcT) (c : ChT) (i : (List ElT) × Unit) : TT (((List ElT) × Unit) ⊕ (ChT × Unit)) :=
 .triv (asT Int 2 ≠ 0) zd <| .ite (decide (len i.1 < w64 (8 + Int.tmod (w64 b.2.1) 2)))
 (.ite (decide (c.1 ≥ 1))
 (.ite (decide (c.1 ≤ 4))
 (.loop 2 (.tt <| .lt ([] : List CvT) fun z1 => .xD (xQ (0 : Int) c.1 <| wb ∧ ((xJ 46 0 true) ∧ (wo ∧ (xK (decide (c.1 ≤ 4)) (decide (c.1 ≤ 4)) true c.1 <| wb ∧ (xK (decide (c.1 ≥ 1)) (decide (c.1 ≥ 1)) true c.1 <| wb ∧ (xT (decide (len i.1 < w64 (8 + Int.tmod (w64 b.2.1) 2))) (w64 (8 + Int.tmod (w64 b.2.1) 2)) (Int.tmod (w64 b.2.1) 2) (w64 b.2.1 : Int) (len i.1) i.1 <| wB ∧ (xL (w64 b.2.1 : Int) <| wm ∧ wb ∧ True))))))) <| .xD (xC wH <| xC wd <| xC (xH 47 c.1 i.1) True) <| .ok ((0, true, z1, ()))) (al0 b c i))
 (.ok (.inr (((c.1, i.1, ()), ())))))
 (.ok (.inr (((c.1, i.1, ()), ())))))
 (.ok (.inr (((c.1, i.1, ()), ()))))
def alY (b : BcT) (c : ChT) (i2 : List ElT × Unit) (i3 : (Int) × Bool × (List CvT) × Unit) : TT (((Int) × Bool × (List CvT) × Unit) ⊕ (((List ElT) × Unit) ⊕ (ChT × Unit))) :=
 .ite (i3.2.1)
 (.ite (decide (i3.1 < c.1))
 (.triv (1 * 56 ≤ 140737488355328) zd <| .tt <| .lt (w64 (i3.1 + 1) : Int) fun z12 => .lt ([(1, [], [], ())] : List CvT) fun z13 => .xD (xQ z12 c.1 <| wb ∧ (wT ∧ (wo ∧ (xK (decide (c.1 ≤ 4)) (decide (c.1 ≤ 4)) true c.1 <| wb ∧ (xK (decide (c.1 ≥ 1)) (decide (c.1 ≥ 1)) true c.1 <| wb ∧ (xT (decide (len i2.1 < w64 (8 + Int.tmod (w64 b.2.1) 2))) (w64 (8 + Int.tmod (w64 b.2.1) 2)) (Int.tmod (w64 b.2.1) 2) (w64 b.2.1 : Int) (len i2.1) i2.1 <| wB ∧ (xL (w64 b.2.1 : Int) <| wm ∧ wb ∧ True))))))) <| .xD (xC (xS 112 z13) <| xC (xQ 82 (1 : Int) <| (xU 52 0 1 true) ∧ xZ) <| xC wd <| xC (xH 47 c.1 i2.1) True) <| .ok (.inl ((z12, false, z13, ()))))
 (.need ((1 + List.length i2.1) * 176 ≤ 140737488355328) <| .ite (List.isEmpty i2.1)
 (.tt <| .lt ([(1, [], [], [], ([], 0, [], ()), [], 0, 0, ())] : List ElT) fun z14 => .xD (xL (w64 b.2.1 : Int) <| wm ∧ wb ∧ True) <| .xD (xC wd <| xC (xH 47 c.1 z14) True) <| .ok (.inr (.inl ((z14, ())))))
 (.tt <| .lt (List.take (1 + List.length i2.1) ([(1, [], [], [], ([], 0, [], ()), [], 0, 0, ())] ++ i2.1) : List ElT) fun z15 => .xD (xL (w64 b.2.1 : Int) <| wm ∧ wb ∧ True) <| .xD (xC wd <| xC (xH 47 c.1 z15) True) <| .ok (.inr (.inl ((z15, ())))))))
 (.ite (decide (i3.1 < c.1))
 (.need ((List.length i3.2.2.1 + 1) * 56 ≤ 140737488355328) <| .tt <| .lt (w64 (i3.1 + 1) : Int) fun z16 => .lt (List.take (List.length i3.2.2.1) i3.2.2.1 ++ [(1, [], [], ())] : List CvT) fun z17 => .xD (xQ z16 c.1 <| wb ∧ (wT ∧ (wo ∧ (xK (decide (c.1 ≤ 4)) (decide (c.1 ≤ 4)) true c.1 <| wb ∧ (xK (decide (c.1 ≥ 1)) (decide (c.1 ≥ 1)) true c.1 <| wb ∧ (xT (decide (len i2.1 < w64 (8 + Int.tmod (w64 b.2.1) 2))) (w64 (8 + Int.tmod (w64 b.2.1) 2)) (Int.tmod (w64 b.2.1) 2) (w64 b.2.1 : Int) (len i2.1) i2.1 <| wB ∧ (xL (w64 b.2.1 : Int) <| wm ∧ wb ∧ True))))))) <| .need ((((112 : TypeId) = 112) ∧ ((z17 : List CvT) = z17)) ∧ (true = true) ∧ (((82 : TypeId) = 82) ∧ (((1 : Int) = 1) ∧ ((((52) = (52)) ∧ (((0) = (0)) ∧ ((List.length i3.2.2.1 + 1 = List.length z17) ∧ ((true) = (true))))) ∧ (True ∧ (True ∧ (True ∧ (((0 : Int) = 0) ∧ (True ∧ (True ∧ (((0 : Int) = 0) ∧ (((0 : Int) = 0) ∧ True))))))))))) ∧ (true = true) ∧ (((47 : TypeId) = 47) ∧ (((0 : Int) = 0) ∧ wq)) ∧ (true = true) ∧ (((47 : TypeId) = 47) ∧ (((c.1 : Int) = c.1) ∧ (((i2.1 : List ElT) = i2.1) ∧ True))) ∧ (true = true) ∧ True) <| .ok (.inl ((z16, false, z17, ()))))
 (.need ((1 + List.length i2.1) * 176 ≤ 140737488355328) <| .ite (List.isEmpty i2.1)
 (.tt <| .lt ([(1, List.take (List.length i3.2.2.1) i3.2.2.1, [], [], ([], 0, [], ()), [], 0, 0, ())] : List ElT) fun z18 => .xD (xL (w64 b.2.1 : Int) <| wm ∧ wb ∧ True) <| .xD (xC wd <| xC (xH 47 c.1 z18) True) <| .ok (.inr (.inl ((z18, ())))))
 (.tt <| .lt (List.take (1 + List.length i2.1) ([(1, List.take (List.length i3.2.2.1) i3.2.2.1, [], [], ([], 0, [], ()), [], 0, 0, ())] ++ i2.1) : List ElT) fun z19 => .xD (xL (w64 b.2.1 : Int) <| wm ∧ wb ∧ True) <| .xD (xC wd <| xC (xH 47 c.1 z19) True) <| .ok (.inr (.inl ((z19, ())))))))
def alZ (b : BcT) (c : ChT) (i2 : (List ElT) × Unit) : TT (((List ElT) × Unit) ⊕ (ChT × Unit)) :=
 .triv (asT Int 2 ≠ 0) zd <| .ite (decide (len i2.1 < w64 (8 + Int.tmod (w64 b.2.1) 2)))
 (.ite (decide (c.1 ≥ 1))
 (.ite (decide (c.1 ≤ 4))
 (.loop 4 (.tt <| .lt ([] : List CvT) fun z11 => .xD (xQ (0 : Int) c.1 <| wb ∧ (wT ∧ (wo ∧ (xK (decide (c.1 ≤ 4)) (decide (c.1 ≤ 4)) true c.1 <| wb ∧ (xK (decide (c.1 ≥ 1)) (decide (c.1 ≥ 1)) true c.1 <| wb ∧ (xT (decide (len i2.1 < w64 (8 + Int.tmod (w64 b.2.1) 2))) (w64 (8 + Int.tmod (w64 b.2.1) 2)) (Int.tmod (w64 b.2.1) 2) (w64 b.2.1 : Int) (len i2.1) i2.1 <| wB ∧ (xL (w64 b.2.1 : Int) <| wm ∧ wb ∧ True))))))) <| .xD (xC wH <| xC wd <| xC (xH 47 c.1 i2.1) True) <| .ok ((0, true, z11, ()))) (alY b c i2))
 (.ok (.inr (((c.1, i2.1, ()), ())))))
 (.ok (.inr (((c.1, i2.1, ()), ())))))
 (.ok (.inr (((c.1, i2.1, ()), ()))))
def aBr (b : BcT) (c : ChT) (i4 : List ElT × Unit) (i5 : (Int) × Bool × (List CvT) × Unit) : TT (((Int) × Bool × (List CvT) × Unit) ⊕ (((List ElT) × Unit) ⊕ (ChT × Unit))) :=
 .ite (i5.2.1)
 (.ite (decide (i5.1 < c.1))
 (.triv (1 * 56 ≤ 140737488355328) zd <| .tt <| .lt (w64 (i5.1 + 1) : Int) fun z22 => .lt ([(1, [], [], ())] : List CvT) fun z23 => .xD (xQ z22 c.1 <| wb ∧ (wU ∧ (wo ∧ (xK (decide (c.1 ≤ 4)) (decide (c.1 ≤ 4)) true c.1 <| wb ∧ (xK (decide (c.1 ≥ 1)) (decide (c.1 ≥ 1)) true c.1 <| wb ∧ (xT (decide (len i4.1 < w64 (8 + Int.tmod (w64 b.2.1) 2))) (w64 (8 + Int.tmod (w64 b.2.1) 2)) (Int.tmod (w64 b.2.1) 2) (w64 b.2.1 : Int) (len i4.1) i4.1 <| wB ∧ (xL (w64 b.2.1 : Int) <| wm ∧ wb ∧ True))))))) <| .xD (xC (xS 112 z23) <| xC (xQ 82 (1 : Int) <| (xU 53 0 1 true) ∧ xZ) <| xC wd <| xC (xH 47 c.1 i4.1) True) <| .ok (.inl ((z22, false, z23, ()))))
 (.need ((1 + List.length i4.1) * 176 ≤ 140737488355328) <| .ite (List.isEmpty i4.1)
 (.tt <| .lt ([(1, [], [], [], ([], 0, [], ()), [], 0, 0, ())] : List ElT) fun z24 => .xD (xL (w64 b.2.1 : Int) <| wm ∧ wb ∧ True) <| .xD (xC wd <| xC (xH 47 c.1 z24) True) <| .ok (.inr (.inl ((z24, ())))))
 (.tt <| .lt (List.take (1 + List.length i4.1) ([(1, [], [], [], ([], 0, [], ()), [], 0, 0, ())] ++ i4.1) : List ElT) fun z25 => .xD (xL (w64 b.2.1 : Int) <| wm ∧ wb ∧ True) <| .xD (xC wd <| xC (xH 47 c.1 z25) True) <| .ok (.inr (.inl ((z25, ())))))))
 (.ite (decide (i5.1 < c.1))
 (.need ((List.length i5.2.2.1 + 1) * 56 ≤ 140737488355328) <| .tt <| .lt (w64 (i5.1 + 1) : Int) fun z26 => .lt (List.take (List.length i5.2.2.1) i5.2.2.1 ++ [(1, [], [], ())] : List CvT) fun z27 => .xD (xQ z26 c.1 <| wb ∧ (wU ∧ (wo ∧ (xK (decide (c.1 ≤ 4)) (decide (c.1 ≤ 4)) true c.1 <| wb ∧ (xK (decide (c.1 ≥ 1)) (decide (c.1 ≥ 1)) true c.1 <| wb ∧ (xT (decide (len i4.1 < w64 (8 + Int.tmod (w64 b.2.1) 2))) (w64 (8 + Int.tmod (w64 b.2.1) 2)) (Int.tmod (w64 b.2.1) 2) (w64 b.2.1 : Int) (len i4.1) i4.1 <| wB ∧ (xL (w64 b.2.1 : Int) <| wm ∧ wb ∧ True))))))) <| .need ((((112 : TypeId) = 112) ∧ ((z27 : List CvT) = z27)) ∧ (true = true) ∧ (((82 : TypeId) = 82) ∧ (((1 : Int) = 1) ∧ ((((53) = (53)) ∧ (((0) = (0)) ∧ ((List.length i5.2.2.1 + 1 = List.length z27) ∧ ((true) = (true))))) ∧ (True ∧ (True ∧ (True ∧ (((0 : Int) = 0) ∧ (True ∧ (True ∧ (((0 : Int) = 0) ∧ (((0 : Int) = 0) ∧ True))))))))))) ∧ (true = true) ∧ (((47 : TypeId) = 47) ∧ (((0 : Int) = 0) ∧ wq)) ∧ (true = true) ∧ (((47 : TypeId) = 47) ∧ (((c.1 : Int) = c.1) ∧ (((i4.1 : List ElT) = i4.1) ∧ True))) ∧ (true = true) ∧ True) <| .ok (.inl ((z26, false, z27, ()))))
 (.need ((1 + List.length i4.1) * 176 ≤ 140737488355328) <| .ite (List.isEmpty i4.1)
 (.tt <| .lt ([(1, List.take (List.length i5.2.2.1) i5.2.2.1, [], [], ([], 0, [], ()), [], 0, 0, ())] : List ElT) fun z28 => .xD (xL (w64 b.2.1 : Int) <| wm ∧ wb ∧ True) <| .xD (xC wd <| xC (xH 47 c.1 z28) True) <| .ok (.inr (.inl ((z28, ())))))
 (.tt <| .lt (List.take (1 + List.length i4.1) ([(1, List.take (List.length i5.2.2.1) i5.2.2.1, [], [], ([], 0, [], ()), [], 0, 0, ())] ++ i4.1) : List ElT) fun z29 => .xD (xL (w64 b.2.1 : Int) <| wm ∧ wb ∧ True) <| .xD (xC wd <| xC (xH 47 c.1 z29) True) <| .ok (.inr (.inl ((z29, ())))))))
def aBt (b : BcT) (c : ChT) (i4 : (List ElT) × Unit) : TT (((List ElT) × Unit) ⊕ (ChT × Unit)) :=
 .triv (asT Int 2 ≠ 0) zd <| .ite (decide (len i4.1 < w64 (8 + Int.tmod (w64 b.2.1) 2)))
 (.ite (decide (c.1 ≥ 1))
 (.ite (decide (c.1 ≤ 4))
 (.loop 6 (.tt <| .lt ([] : List CvT) fun z21 => .xD (xQ (0 : Int) c.1 <| wb ∧ (wU ∧ (wo ∧ (xK (decide (c.1 ≤ 4)) (decide (c.1 ≤ 4)) true c.1 <| wb ∧ (xK (decide (c.1 ≥ 1)) (decide (c.1 ≥ 1)) true c.1 <| wb ∧ (xT (decide (len i4.1 < w64 (8 + Int.tmod (w64 b.2.1) 2))) (w64 (8 + Int.tmod (w64 b.2.1) 2)) (Int.tmod (w64 b.2.1) 2) (w64 b.2.1 : Int) (len i4.1) i4.1 <| wB ∧ (xL (w64 b.2.1 : Int) <| wm ∧ wb ∧ True))))))) <| .xD (xC wH <| xC wd <| xC (xH 47 c.1 i4.1) True) <| .ok ((0, true, z21, ()))) (aBr b c i4))
 (.ok (.inr (((c.1, i4.1, ()), ())))))
 (.ok (.inr (((c.1, i4.1, ()), ())))))
 (.ok (.inr (((c.1, i4.1, ()), ()))))
def aBp (b : BcT) (c : ChT) (i6 : List ElT × Unit) (i7 : (Int) × Bool × (List CvT) × Unit) : TT (((Int) × Bool × (List CvT) × Unit) ⊕ (((List ElT) × Unit) ⊕ (ChT × Unit))) :=
 .ite (i7.2.1)
 (.ite (decide (i7.1 < c.1))
 (.triv (1 * 56 ≤ 140737488355328) zd <| .tt <| .lt (w64 (i7.1 + 1) : Int) fun z32 => .lt ([(1, [], [], ())] : List CvT) fun z33 => .xD (xQ z32 c.1 <| wb ∧ (wT ∧ (wo ∧ (xK (decide (c.1 ≤ 4)) (decide (c.1 ≤ 4)) true c.1 <| wb ∧ (xK (decide (c.1 ≥ 1)) (decide (c.1 ≥ 1)) true c.1 <| wb ∧ (xT (decide (len i6.1 < w64 (8 + Int.tmod (w64 b.2.1) 2))) (w64 (8 + Int.tmod (w64 b.2.1) 2)) (Int.tmod (w64 b.2.1) 2) (w64 b.2.1 : Int) (len i6.1) i6.1 <| wB ∧ (xL (w64 b.2.1 : Int) <| wm ∧ wb ∧ True))))))) <| .xD (xC (xS 112 z33) <| xC (xQ 82 (1 : Int) <| (xU 52 0 1 true) ∧ xZ) <| xC wd <| xC (xH 47 c.1 i6.1) True) <| .ok (.inl ((z32, false, z33, ()))))
 (.need ((1 + List.length i6.1) * 176 ≤ 140737488355328) <| .ite (List.isEmpty i6.1)
 (.tt <| .lt ([(1, [], [], [], ([], 0, [], ()), [], 0, 0, ())] : List ElT) fun z34 => .xD (xL (w64 b.2.1 : Int) <| wm ∧ wb ∧ True) <| .xD (xC wd <| xC (xH 47 c.1 z34) True) <| .ok (.inr (.inl ((z34, ())))))
 (.tt <| .lt (List.take (1 + List.length i6.1) ([(1, [], [], [], ([], 0, [], ()), [], 0, 0, ())] ++ i6.1) : List ElT) fun z35 => .xD (xL (w64 b.2.1 : Int) <| wm ∧ wb ∧ True) <| .xD (xC wd <| xC (xH 47 c.1 z35) True) <| .ok (.inr (.inl ((z35, ())))))))
 (.ite (decide (i7.1 < c.1))
 (.need ((List.length i7.2.2.1 + 1) * 56 ≤ 140737488355328) <| .tt <| .lt (w64 (i7.1 + 1) : Int) fun z36 => .lt (List.take (List.length i7.2.2.1) i7.2.2.1 ++ [(1, [], [], ())] : List CvT) fun z37 => .xD (xQ z36 c.1 <| wb ∧ (wT ∧ (wo ∧ (xK (decide (c.1 ≤ 4)) (decide (c.1 ≤ 4)) true c.1 <| wb ∧ (xK (decide (c.1 ≥ 1)) (decide (c.1 ≥ 1)) true c.1 <| wb ∧ (xT (decide (len i6.1 < w64 (8 + Int.tmod (w64 b.2.1) 2))) (w64 (8 + Int.tmod (w64 b.2.1) 2)) (Int.tmod (w64 b.2.1) 2) (w64 b.2.1 : Int) (len i6.1) i6.1 <| wB ∧ (xL (w64 b.2.1 : Int) <| wm ∧ wb ∧ True))))))) <| .need ((((112 : TypeId) = 112) ∧ ((z37 : List CvT) = z37)) ∧ (true = true) ∧ (((82 : TypeId) = 82) ∧ (((1 : Int) = 1) ∧ ((((52) = (52)) ∧ (((0) = (0)) ∧ ((List.length i7.2.2.1 + 1 = List.length z37) ∧ ((true) = (true))))) ∧ (True ∧ (True ∧ (True ∧ (((0 : Int) = 0) ∧ (True ∧ (True ∧ (((0 : Int) = 0) ∧ (((0 : Int) = 0) ∧ True))))))))))) ∧ (true = true) ∧ (((47 : TypeId) = 47) ∧ (((0 : Int) = 0) ∧ wq)) ∧ (true = true) ∧ (((47 : TypeId) = 47) ∧ (((c.1 : Int) = c.1) ∧ (((i6.1 : List ElT) = i6.1) ∧ True))) ∧ (true = true) ∧ True) <| .ok (.inl ((z36, false, z37, ()))))
 (.need ((1 + List.length i6.1) * 176 ≤ 140737488355328) <| .ite (List.isEmpty i6.1)
 (.tt <| .lt ([(1, List.take (List.length i7.2.2.1) i7.2.2.1, [], [], ([], 0, [], ()), [], 0, 0, ())] : List ElT) fun z38 => .xD (xL (w64 b.2.1 : Int) <| wm ∧ wb ∧ True) <| .xD (xC wd <| xC (xH 47 c.1 z38) True) <| .ok (.inr (.inl ((z38, ())))))
 (.tt <| .lt (List.take (1 + List.length i6.1) ([(1, List.take (List.length i7.2.2.1) i7.2.2.1, [], [], ([], 0, [], ()), [], 0, 0, ())] ++ i6.1) : List ElT) fun z39 => .xD (xL (w64 b.2.1 : Int) <| wm ∧ wb ∧ True) <| .xD (xC wd <| xC (xH 47 c.1 z39) True) <| .ok (.inr (.inl ((z39, ())))))))
def aBq (b : BcT) (c : ChT) (i6 : (List ElT) × Unit) : TT (((List ElT) × Unit) ⊕ (ChT × Unit)) :=
 .triv (asT Int 2 ≠ 0) zd <| .ite (decide (len i6.1 < w64 (8 + Int.tmod (w64 b.2.1) 2)))
 (.ite (decide (c.1 ≥ 1))
 (.ite (decide (c.1 ≤ 4))
 (.loop 4 (.tt <| .lt ([] : List CvT) fun z31 => .xD (xQ (0 : Int) c.1 <| wb ∧ (wT ∧ (wo ∧ (xK (decide (c.1 ≤ 4)) (decide (c.1 ≤ 4)) true c.1 <| wb ∧ (xK (decide (c.1 ≥ 1)) (decide (c.1 ≥ 1)) true c.1 <| wb ∧ (xT (decide (len i6.1 < w64 (8 + Int.tmod (w64 b.2.1) 2))) (w64 (8 + Int.tmod (w64 b.2.1) 2)) (Int.tmod (w64 b.2.1) 2) (w64 b.2.1 : Int) (len i6.1) i6.1 <| wB ∧ (xL (w64 b.2.1 : Int) <| wm ∧ wb ∧ True))))))) <| .xD (xC wH <| xC wd <| xC (xH 47 c.1 i6.1) True) <| .ok ((0, true, z31, ()))) (aBp b c i6))
 (.ok (.inr (((c.1, i6.1, ()), ())))))
 (.ok (.inr (((c.1, i6.1, ()), ())))))
 (.ok (.inr (((c.1, i6.1, ()), ()))))
def ajU (b : BcT) (c : ChT) (i8 : List ElT × Unit) (i9 : (Int) × Bool × (List CvT) × Unit) : TT (((Int) × Bool × (List CvT) × Unit) ⊕ (((List ElT) × Unit) ⊕ (ChT × Unit))) :=
 .ite (i9.2.1)
 (.ite (decide (i9.1 < c.1))
 (.triv (1 * 56 ≤ 140737488355328) zd <| .tt <| .lt (w64 (i9.1 + 1) : Int) fun z42 => .lt ([(1, [], [], ())] : List CvT) fun z43 => .xD (xQ z42 c.1 <| wb ∧ (wU ∧ (wo ∧ (xK (decide (c.1 ≤ 4)) (decide (c.1 ≤ 4)) true c.1 <| wb ∧ (xK (decide (c.1 ≥ 1)) (decide (c.1 ≥ 1)) true c.1 <| wb ∧ (xT (decide (len i8.1 < w64 (8 + Int.tmod (w64 b.2.1) 2))) (w64 (8 + Int.tmod (w64 b.2.1) 2)) (Int.tmod (w64 b.2.1) 2) (w64 b.2.1 : Int) (len i8.1) i8.1 <| wB ∧ (xL (w64 b.2.1 : Int) <| wm ∧ wb ∧ True))))))) <| .xD (xC (xS 112 z43) <| xC (xQ 82 (1 : Int) <| (xU 53 0 1 true) ∧ xZ) <| xC wd <| xC (xH 47 c.1 i8.1) True) <| .ok (.inl ((z42, false, z43, ()))))
 (.need ((1 + List.length i8.1) * 176 ≤ 140737488355328) <| .ite (List.isEmpty i8.1)
 (.tt <| .lt ([(1, [], [], [], ([], 0, [], ()), [], 0, 0, ())] : List ElT) fun z44 => .xD (xL (w64 b.2.1 : Int) <| wm ∧ wb ∧ True) <| .xD (xC wd <| xC (xH 47 c.1 z44) True) <| .ok (.inr (.inl ((z44, ())))))
 (.tt <| .lt (List.take (1 + List.length i8.1) ([(1, [], [], [], ([], 0, [], ()), [], 0, 0, ())] ++ i8.1) : List ElT) fun z45 => .xD (xL (w64 b.2.1 : Int) <| wm ∧ wb ∧ True) <| .xD (xC wd <| xC (xH 47 c.1 z45) True) <| .ok (.inr (.inl ((z45, ())))))))
 (.ite (decide (i9.1 < c.1))
 (.need ((List.length i9.2.2.1 + 1) * 56 ≤ 140737488355328) <| .tt <| .lt (w64 (i9.1 + 1) : Int) fun z46 => .lt (List.take (List.length i9.2.2.1) i9.2.2.1 ++ [(1, [], [], ())] : List CvT) fun z47 => .xD (xQ z46 c.1 <| wb ∧ (wU ∧ (wo ∧ (xK (decide (c.1 ≤ 4)) (decide (c.1 ≤ 4)) true c.1 <| wb ∧ (xK (decide (c.1 ≥ 1)) (decide (c.1 ≥ 1)) true c.1 <| wb ∧ (xT (decide (len i8.1 < w64 (8 + Int.tmod (w64 b.2.1) 2))) (w64 (8 + Int.tmod (w64 b.2.1) 2)) (Int.tmod (w64 b.2.1) 2) (w64 b.2.1 : Int) (len i8.1) i8.1 <| wB ∧ (xL (w64 b.2.1 : Int) <| wm ∧ wb ∧ True))))))) <| .need ((((112 : TypeId) = 112) ∧ ((z47 : List CvT) = z47)) ∧ (true = true) ∧ (((82 : TypeId) = 82) ∧ (((1 : Int) = 1) ∧ ((((53) = (53)) ∧ (((0) = (0)) ∧ ((List.length i9.2.2.1 + 1 = List.length z47) ∧ ((true) = (true))))) ∧ (True ∧ (True ∧ (True ∧ (((0 : Int) = 0) ∧ (True ∧ (True ∧ (((0 : Int) = 0) ∧ (((0 : Int) = 0) ∧ True))))))))))) ∧ (true = true) ∧ (((47 : TypeId) = 47) ∧ (((0 : Int) = 0) ∧ wq)) ∧ (true = true) ∧ (((47 : TypeId) = 47) ∧ (((c.1 : Int) = c.1) ∧ (((i8.1 : List ElT) = i8.1) ∧ True))) ∧ (true = true) ∧ True) <| .ok (.inl ((z46, false, z47, ()))))
 (.need ((1 + List.length i8.1) * 176 ≤ 140737488355328) <| .ite (List.isEmpty i8.1)
 (.tt <| .lt ([(1, List.take (List.length i9.2.2.1) i9.2.2.1, [], [], ([], 0, [], ()), [], 0, 0, ())] : List ElT) fun z48 => .xD (xL (w64 b.2.1 : Int) <| wm ∧ wb ∧ True) <| .xD (xC wd <| xC (xH 47 c.1 z48) True) <| .ok (.inr (.inl ((z48, ())))))
 (.tt <| .lt (List.take (1 + List.length i8.1) ([(1, List.take (List.length i9.2.2.1) i9.2.2.1, [], [], ([], 0, [], ()), [], 0, 0, ())] ++ i8.1) : List ElT) fun z49 => .xD (xL (w64 b.2.1 : Int) <| wm ∧ wb ∧ True) <| .xD (xC wd <| xC (xH 47 c.1 z49) True) <| .ok (.inr (.inl ((z49, ())))))))
def alX (b : BcT) (c : ChT) (i8 : (List ElT) × Unit) : TT (((List ElT) × Unit) ⊕ (ChT × Unit)) :=
 .triv (asT Int 2 ≠ 0) zd <| .ite (decide (len i8.1 < w64 (8 + Int.tmod (w64 b.2.1) 2)))
 (.ite (decide (c.1 ≥ 1))
 (.ite (decide (c.1 ≤ 4))
 (.loop 6 (.tt <| .lt ([] : List CvT) fun z41 => .xD (xQ (0 : Int) c.1 <| wb ∧ (wU ∧ (wo ∧ (xK (decide (c.1 ≤ 4)) (decide (c.1 ≤ 4)) true c.1 <| wb ∧ (xK (decide (c.1 ≥ 1)) (decide (c.1 ≥ 1)) true c.1 <| wb ∧ (xT (decide (len i8.1 < w64 (8 + Int.tmod (w64 b.2.1) 2))) (w64 (8 + Int.tmod (w64 b.2.1) 2)) (Int.tmod (w64 b.2.1) 2) (w64 b.2.1 : Int) (len i8.1) i8.1 <| wB ∧ (xL (w64 b.2.1 : Int) <| wm ∧ wb ∧ True))))))) <| .xD (xC wH <| xC wd <| xC (xH 47 c.1 i8.1) True) <| .ok ((0, true, z41, ()))) (ajU b c i8))
 (.ok (.inr (((c.1, i8.1, ()), ())))))
 (.ok (.inr (((c.1, i8.1, ()), ())))))
 (.ok (.inr (((c.1, i8.1, ()), ()))))
def afO (c : ChT) (b : BcT) : TT (ChT × Unit) :=
 .ite (decide ((↑(lBc c.2.1) : Int) > 0))
 (.need ((↑(lBc c.2.1) : Int) ≠ 0) <| .need ((↑(lBc c.2.1) : Int) ≠ 0) <| .ite (bBc 9 c.2.1)
 (sIc (w64 b.2.1) <| sIc (↑(lBc c.2.1) : Int) <| .need ((↑(lBc c.2.1) : Int) ≠ 0) <| sIc (iBc b c.2.1) <| sIc (w64 b.2.1) <| sIc (↑(lBc c.2.1) : Int) <| .need ((↑(lBc c.2.1) : Int) ≠ 0) <| sIc (iBc b c.2.1) <| sIc (jBc b c.2.1) <| .tt <| .tt <| .need (inc (↑(lBc c.2.1) : Int) (↑(lBc c.2.1) : Int)) <| .need (inc (jBc b c.2.1) (↑(Int.toNat (↑(lBc c.2.1) : Int)) : Int)) <| .need (inc (iBc b c.2.1) (↑(Int.toNat (jBc b c.2.1)) : Int)) <| .ite (iBc b c.2.1 == jBc b c.2.1)
 (.ok (((c.1, List.take (lBc c.2.1) (eBc c.2.1), ()), ())))
 (.ite (bBc 9 c.2.1)
 (sIc (iBc b c.2.1) <| .ite (bBc 9 c.2.1)
 (sIc (jBc b c.2.1) <| .both
 (.need (inc (iBc b c.2.1) (↑(lBc c.2.1) : Int)) <| .ite (bBc 9 c.2.1)
 (sIc (jBc b c.2.1) <| .need (inc (jBc b c.2.1) (↑(lBc c.2.1) : Int)) <| .need (Int.toNat (iBc b c.2.1) + List.length (tBc b c.2.1) ≤ List.length (eBc c.2.1)) <| .need (inc (↑(lBc c.2.1) : Int) (len (over (eBc c.2.1) (Int.toNat (iBc b c.2.1)) (tBc b c.2.1)))) <| .need (inc (↑(Int.toNat (iBc b c.2.1) + List.length (tBc b c.2.1)) : Int) (↑(Int.toNat (↑(lBc c.2.1) : Int)) : Int)) <| .ok (((c.1, List.take (Int.toNat (iBc b c.2.1) + List.length (tBc b c.2.1)) (over (over (eBc c.2.1) (Int.toNat (iBc b c.2.1)) (tBc b c.2.1)) (0 + Int.toNat (↑(Int.toNat (iBc b c.2.1) + List.length (tBc b c.2.1)) : Int)) (List.replicate (Int.toNat (↑(lBc c.2.1) : Int) - Int.toNat (↑(Int.toNat (iBc b c.2.1) + List.length (tBc b c.2.1)) : Int)) e0)), ()), ())))
 (.bad))
 (.need (inc (jBc b c.2.1) (↑(lBc c.2.1) : Int)) <| .ite (bBc 9 c.2.1)
 (sIc (iBc b c.2.1) <| .need (inc (iBc b c.2.1) (↑(lBc c.2.1) : Int)) <| .need (Int.toNat (iBc b c.2.1) + List.length (tBc b c.2.1) ≤ List.length (eBc c.2.1)) <| .need (inc (↑(lBc c.2.1) : Int) (len (over (eBc c.2.1) (Int.toNat (iBc b c.2.1)) (tBc b c.2.1)))) <| .need (inc (↑(Int.toNat (iBc b c.2.1) + List.length (tBc b c.2.1)) : Int) (↑(Int.toNat (↑(lBc c.2.1) : Int)) : Int)) <| .ok (((c.1, List.take (Int.toNat (iBc b c.2.1) + List.length (tBc b c.2.1)) (over (over (eBc c.2.1) (Int.toNat (iBc b c.2.1)) (tBc b c.2.1)) (0 + Int.toNat (↑(Int.toNat (iBc b c.2.1) + List.length (tBc b c.2.1)) : Int)) (List.replicate (Int.toNat (↑(lBc c.2.1) : Int) - Int.toNat (↑(Int.toNat (iBc b c.2.1) + List.length (tBc b c.2.1)) : Int)) e0)), ()), ())))
 (.bad)))
 (.bad))
 (.bad)))
 (.bad))
 (.ok (((c.1, List.take (lBc c.2.1) (eBc c.2.1), ()), ())))
def afN (c : ChT) (b : BcT) : TT (ChT × Unit) :=
 .ite (decide ((↑(lBc c.2.1) : Int) > 0))
 (.need ((↑(lBc c.2.1) : Int) ≠ 0) <| .need (asT Int 4 ≠ 0) <| .ite (bBc 9 c.2.1)
 (sIc (w64 b.2.1) <| sIc (↑(lBc c.2.1) : Int) <| .need ((↑(lBc c.2.1) : Int) ≠ 0) <| sIc (iBc b c.2.1) <| sXc b <| sIc (w64 b.2.1) <| .need (asT Int 4 ≠ 0) <| sIc (Int.tmod (w64 b.2.1) 4) <| sIc (w64 (1 + Int.tmod (w64 b.2.1) 4)) <| .call (aa4 ((reD (b.2.2.2.1.1) b.2.2.2.1), w64 (1 + Int.tmod (w64 b.2.1) 4), ())) Dz9 fun y3 =>
 .ite (bBc 9 c.2.1)
 (sIc (w64 b.2.1) <| sIc (↑(lBc c.2.1) : Int) <| .need ((↑(lBc c.2.1) : Int) ≠ 0) <| sIc (iBc b c.2.1) <| .need (inb (iBc b c.2.1) (↑(lBc c.2.1) : Int)) <| .ok (((c.1, List.take (lBc c.2.1) (List.set (eBc c.2.1) (0 + Int.toNat (iBc b c.2.1)) y3.1), ()), ())))
 (.bad))
 (.bad))
 (.ok (((c.1, List.take (lBc c.2.1) (eBc c.2.1), ()), ())))
def afM (b : BcT) (c : ChT) : TT (ChT × Unit) :=
 .triv (asT Int 4 ≠ 0) zd <| .triv (acU (AV.ox 7 0 0) (AV.ox 7 0 0)) rfl <| sXc b <| sIc (w64 b.2.1) <| .triv (asT Int 4 ≠ 0) zd <| sIc (Int.tmod (w64 b.2.1) 4) <| sIc (w64 (1 + Int.tmod (w64 b.2.1) 4)) <| .call (aa4 ((reD (b.2.2.2.1.1) b.2.2.2.1), w64 (1 + Int.tmod (w64 b.2.1) 4), ())) Dz9 fun y1 =>
 .triv (acU (AV.ox 7 0 0) (AV.ox 7 0 0)) rfl <| .triv (acU (AV.ox 7 0 0) (AV.ox 7 0 0)) rfl <| .need ((0 + 1) * 176 ≤ 140737488355328) <| .ok (((c.1, List.take 1 (List.take 0 [] ++ [(rE y1.1)]), ()), ()))
def afL (c : ChT) (b : BcT) : TT (ChT × Unit) :=
 .ite (decide ((↑(lBc c.2.1) : Int) > 0))
 (.need ((↑(lBc c.2.1) : Int) ≠ 0) <| .ite (bBc 9 c.2.1)
 (sIc (w64 b.2.1) <| sIc (↑(lBc c.2.1) : Int) <| .need ((↑(lBc c.2.1) : Int) ≠ 0) <| sIc (iBc b c.2.1) <| sIc b.2.2.1 <| .need (inb (iBc b c.2.1) (↑(lBc c.2.1) : Int)) <| .ok (((c.1, List.take (lBc c.2.1) (List.set (eBc c.2.1) (0 + Int.toNat (iBc b c.2.1)) (b.2.2.1, (List.getD (eBc c.2.1) (0 + Int.toNat (iBc b c.2.1)) e0).2)), ()), ())))
 (.bad))
 (.ok (((c.1, List.take (lBc c.2.1) (eBc c.2.1), ()), ())))
def afK (c : ChT) (b : BcT) : TT (ChT × Unit) :=
 .need (asT Int 4 ≠ 0) <| .ite (bBc 9 c.2.1)
 (sXc b <| sIc (w64 b.2.1) <| .need (asT Int 4 ≠ 0) <| sIc (Int.tmod (w64 b.2.1) 4) <| sIc (w64 (1 + Int.tmod (w64 b.2.1) 4)) <| .call (aa4 ((reD (b.2.2.2.1.1) b.2.2.2.1), w64 (1 + Int.tmod (w64 b.2.1) 4), ())) Dz9 fun y2 =>
 .ite (bBc 9 c.2.1)
 (.ite (bBc 9 c.2.1)
 (.need ((lBc c.2.1 + 1) * 176 ≤ 140737488355328) <| .ok (((c.1, List.take (lBc c.2.1 + 1) (List.take (lBc c.2.1) (eBc c.2.1) ++ [(rE y2.1)]), ()), ())))
 (.bad))
 (.bad))
 (.bad)
def afT (b : BcT) (c : ChT) : TT (ChT × Unit) :=
 .tt <| .tt <| .ite (List.isEmpty c.2.1)
 (.both
  (.triv (asT Int 7 ≠ 0) zd <| .ite (Int.tmod b.1 7 == 0)
   (.ok (((b.2.2.1, [], ()), ())))
   (.ite (Int.tmod b.1 7 == 1)
    (.triv (asT Int 4 ≠ 0) zd <| sXc b <| sIc (w64 b.2.1) <| .triv (asT Int 4 ≠ 0) zd <| sIc (Int.tmod (w64 b.2.1) 4) <| sIc (w64 (1 + Int.tmod (w64 b.2.1) 4)) <| .call (aa4 ((reD (b.2.2.2.1.1) b.2.2.2.1), w64 (1 + Int.tmod (w64 b.2.1) 4), ())) Dz9 fun y =>
     .need (1 * 176 ≤ 140737488355328) <| .ok (((c.1, [(rE y.1)], ()), ())))
    (.ite (Int.tmod b.1 7 == 2)
     (.ok (((c.1, [], ()), ())))
     (.ite (Int.tmod b.1 7 == 3)
      (.ok (((c.1, [], ()), ())))
      (.ite (Int.tmod b.1 7 == 4)
       (.ok (((c.1, [], ()), ())))
       (.ite (Int.tmod b.1 7 == 5)
        (.loop 0 (.tt <| .lt ([] : List ElT) fun z => .xD (xL (w64 b.2.1 : Int) <| wm ∧ wb ∧ True) <| .xD (xC wd <| xC (xH 47 c.1 z) True) <| .ok ((z, ()))) (al1 b c))
        (.ok (((c.1, [], ()), ())))))))))
  (.need ((lBc c.2.1) * 176 ≤ 140737488355328) <| .ite (List.isEmpty c.2.1)
   (.triv (asT Int 7 ≠ 0) zd <| .ite (Int.tmod b.1 7 == 0)
    (.ok (((b.2.2.1, List.take 0 [], ()), ())))
    (.ite (Int.tmod b.1 7 == 1)
     (afM b c)
     (.ite (Int.tmod b.1 7 == 2)
      (.ok (((c.1, List.take 0 [], ()), ())))
      (.ite (Int.tmod b.1 7 == 3)
       (.ok (((c.1, List.take 0 [], ()), ())))
       (.ite (Int.tmod b.1 7 == 4)
        (.ok (((c.1, List.take 0 [], ()), ())))
        (.ite (Int.tmod b.1 7 == 5)
         (.loop 3 (.tt <| .lt (List.take 0 [] : List ElT) fun z10 => .xD (xL (w64 b.2.1 : Int) <| wm ∧ wb ∧ True) <| .xD (xC wd <| xC (xH 47 c.1 z10) True) <| .ok ((z10, ()))) (alZ b c))
         (.ok (((c.1, List.take 0 [], ()), ())))))))))
   (.triv (asT Int 7 ≠ 0) zd <| .ite (Int.tmod b.1 7 == 0)
    (.ok (((b.2.2.1, List.take (lBc c.2.1) (eBc c.2.1), ()), ())))
    (.ite (Int.tmod b.1 7 == 1)
     (afK c b)
     (.ite (Int.tmod b.1 7 == 2)
      (afN c b)
      (.ite (Int.tmod b.1 7 == 3)
       (afL c b)
       (.ite (Int.tmod b.1 7 == 4)
        (afO c b)
        (.ite (Int.tmod b.1 7 == 5)
         (.loop 5 (.tt <| .lt (List.take (lBc c.2.1) (eBc c.2.1) : List ElT) fun z20 => .xD (xL (w64 b.2.1 : Int) <| wm ∧ wb ∧ True) <| .xD (xC wd <| xC (xH 47 c.1 z20) True) <| .ok ((z20, ()))) (aBt b c))
         (.ok (((c.1, List.take (lBc c.2.1) (eBc c.2.1), ()), ())))))))))))
 (.need ((lBc c.2.1) * 176 ≤ 140737488355328) <| .ite (List.isEmpty c.2.1)
  (.triv (asT Int 7 ≠ 0) zd <| .ite (Int.tmod b.1 7 == 0)
   (.ok (((b.2.2.1, List.take 0 [], ()), ())))
   (.ite (Int.tmod b.1 7 == 1)
    (afM b c)
    (.ite (Int.tmod b.1 7 == 2)
     (.ok (((c.1, List.take 0 [], ()), ())))
     (.ite (Int.tmod b.1 7 == 3)
      (.ok (((c.1, List.take 0 [], ()), ())))
      (.ite (Int.tmod b.1 7 == 4)
       (.ok (((c.1, List.take 0 [], ()), ())))
       (.ite (Int.tmod b.1 7 == 5)
        (.loop 3 (.tt <| .lt (List.take 0 [] : List ElT) fun z30 => .xD (xL (w64 b.2.1 : Int) <| wm ∧ wb ∧ True) <| .xD (xC wd <| xC (xH 47 c.1 z30) True) <| .ok ((z30, ()))) (aBq b c))
        (.ok (((c.1, List.take 0 [], ()), ())))))))))
  (.triv (asT Int 7 ≠ 0) zd <| .ite (Int.tmod b.1 7 == 0)
   (.ok (((b.2.2.1, List.take (lBc c.2.1) (eBc c.2.1), ()), ())))
   (.ite (Int.tmod b.1 7 == 1)
    (afK c b)
    (.ite (Int.tmod b.1 7 == 2)
     (afN c b)
     (.ite (Int.tmod b.1 7 == 3)
      (afL c b)
      (.ite (Int.tmod b.1 7 == 4)
       (afO c b)
       (.ite (Int.tmod b.1 7 == 5)
        (.loop 5 (.tt <| .lt (List.take (lBc c.2.1) (eBc c.2.1) : List ElT) fun z40 => .xD (xL (w64 b.2.1 : Int) <| wm ∧ wb ∧ True) <| .xD (xC wd <| xC (xH 47 c.1 z40) True) <| .ok ((z40, ()))) (alX b c))
        (.ok (((c.1, List.take (lBc c.2.1) (eBc c.2.1), ()), ()))))))))))
end
open Go Go.Vg
noncomputable def elB (b : BcT) : Option (ElT × Unit) := aa4 (reD b.2.2.2.1.1 b.2.2.2.1, w64 (1 + Int.tmod (w64 b.2.1) 4), ())
def ai9 (n : Int) : ElT := (1, List.replicate n.toNat (1, [], [], ()), [], [], ([], 0, [], ()), [], 0, 0, ())
def af7 (b : BcT) (l : List ElT) : Nat := (Int.tmod b.2.1 l.length).toNat
def axG (b : BcT) : Nat := 8 + (Int.tmod b.2.1 2).toNat
open Classical in
noncomputable def aAk (b : BcT) (c : ChT) : Option ChT :=
 if Int.tmod b.1 7 = 0 then some (b.2.2.1, c.2.1, ())
 else if Int.tmod b.1 7 = 1 then (elB b).map fun x => (c.1, c.2.1 ++ [x.1], ())
 else if Int.tmod b.1 7 = 2 then (if c.2.1 = [] then some c else (elB b).map fun x => (c.1, c.2.1.set (af7 b c.2.1) x.1, ()))
 else if Int.tmod b.1 7 = 3 then some (c.1, c.2.1.set (af7 b c.2.1) (b.2.2.1, (c.2.1.getD (af7 b c.2.1) e0).2), ())
 else if Int.tmod b.1 7 = 4 then some (c.1, c.2.1.eraseIdx (af7 b c.2.1), ())
 else if Int.tmod b.1 7 = 5 then (if 1 ≤ c.1 ∧ c.1 ≤ 4 then some (c.1, List.replicate (axG b - c.2.1.length) (ai9 c.1) ++ c.2.1, ()) else some c)
 else some c
open Classical in
noncomputable def afX (x : BcT × ChT × Unit) : Option (ChT × Unit) :=
 if (0 ≤ x.1.1 ∧ 0 ≤ x.1.2.1 ∧ x.1.2.1 ≤ 255) ∧ x.2.1.2.1.length ≤ 100 then (aAk x.1 x.2.1).map fun c => (c, ()) else none
set_option maxRecDepth 100000
open Go Go.Vg Go.Proofs
noncomputable section
def aBo : LTab := []
def agE (d : DcT) (b : List BcT) : TT (List ChT × Unit) :=
 .call (aeU ((d.1, d.2.1, d.2.2.1, ()), ())) aLM fun y =>
 .triv (asT Int 0 ≤ 0 ∧ 0 < (↑2 : Int)) zd <| .call (afX ((reB (List.headD b b0D)), (y.1.1, y.1.2.1, ()), ())) aLM fun y1 =>
 .triv (asT Int 0 ≤ 1 ∧ 1 < (↑2 : Int)) zd <| .call (afX ((reB (List.headD (List.tail b) b0D)), (y1.1.1, y1.1.2.1, ()), ())) aLM fun y2 =>
 .ok (([((List.headD [(y.1.1, y.1.2.1, ()), (y1.1.1, y1.1.2.1, ()), (y2.1.1, y2.1.2.1, ())] (0, [], ())).1, (List.headD [(y.1.1, y.1.2.1, ()), (y1.1.1, y1.1.2.1, ()), (y2.1.1, y2.1.2.1, ())] (0, [], ())).2.1, ()), ((List.headD (List.tail [(y.1.1, y.1.2.1, ()), (y1.1.1, y1.1.2.1, ()), (y2.1.1, y2.1.2.1, ())]) (0, [], ())).1, (List.headD (List.tail [(y.1.1, y.1.2.1, ()), (y1.1.1, y1.1.2.1, ()), (y2.1.1, y2.1.2.1, ())]) (0, [], ())).2.1, ()), ((List.headD (List.tail (List.tail [(y.1.1, y.1.2.1, ()), (y1.1.1, y1.1.2.1, ()), (y2.1.1, y2.1.2.1, ())])) (0, [], ())).1, (List.headD (List.tail (List.tail [(y.1.1, y.1.2.1, ()), (y1.1.1, y1.1.2.1, ()), (y2.1.1, y2.1.2.1, ())])) (0, [], ())).2.1, ())], ()))
end
noncomputable def aiW (x : DcT × List BcT × Unit) : Option (List ChT × Unit) := (agE x.1 x.2.1).toO
def aj7 (_ : DcT × DcT × List BcT × Int × Int × Unit) : Option (Bool × Unit) := some (true, ())
abbrev idC : CvT := (1, [], [], ())
def aCt (b : BcT) (n : Int) (l : List ElT) : List ElT := if 1 ≤ n ∧ n ≤ 4 then List.replicate (axG b - l.length) (ai9 n) ++ l else l
theorem avI {b : BcT} (hb : 0 ≤ b.2.1 ∧ b.2.1 ≤ 255) : w64 (8 + Int.tmod (w64 b.2.1) 2) = (axG b : Int) ∧ axG b ≤ 9 := by
 have h := adK (a := b.2.1) (k := 2) zc hb.1
 rw [aaD (x := b.2.1) ⟨by omega, by omega⟩, aaD ⟨by omega, by omega⟩]
 unfold axG
 omega
theorem aq0 {b : BcT} {n : Int} {l : List ElT} (h : l.length < axG b) (hn : 1 ≤ n ∧ n ≤ 4) : aCt b n (ai9 n :: l) = aCt b n l := by
 unfold aCt
 rw [if_pos hn, if_pos hn]
 obtain ⟨m, hm⟩ : ∃ m, axG b - l.length = m + 1 := ⟨axG b - l.length - 1, by omega⟩
 rw [hm, zP, show axG b - (l.length + 1) = m by omega, List.replicate_succ', yR]
 rfl
theorem aq1 {b : BcT} {n : Int} {l : List ElT} (h : ¬ l.length < axG b) : aCt b n l = l := by
 unfold aCt
 split
 ·rw [show axG b - l.length = 0 by omega]; rfl
 ·rfl
theorem ahT {b : BcT} {n : Int} {l : List ElT} (h : ¬ (1 ≤ n ∧ n ≤ 4)) : aCt b n l = l := if_neg h
theorem avV {α : Type} (k : Nat) (a : α) : List.take (List.replicate k a).length (List.replicate k a) ++ [a] = List.replicate (k + 1) a := by
 rw [zB, List.replicate_succ']
theorem aI2 (b : BcT) (n : Int) (xs : List ElT) (u : Unit) (l : List ElT) (v : Unit) (hl : l.length ≤ 100) (h1 : 1 ≤ n) (h4 : n ≤ 4) :
  adX (fun i => (al0 b (n, xs, u) (l, v) i).toO) (0, true, [], ()) = some (.inl (ai9 n :: l, ())) := by
 refine abE (fun i : Int × Bool × List CvT × Unit => ∃ k : Nat, k ≤ n.toNat ∧ i.1 = (k : Int) ∧ i.2.2.1 = List.replicate k idC ∧ i.2.1 = decide (k = 0)) (fun i => (n - i.1).toNat) (fun _ => (Sum.inl (ai9 n :: l, ()) : (List ElT × Unit) ⊕ (ChT × Unit))) (fun i hi => ?_) _ ⟨0, zA _, rfl, rfl, rfl⟩
 obtain ⟨i, f, cs, w⟩ := i
 obtain ⟨k, hk, e1, e2, e3⟩ := hi
 dsimp only at e1 e2 e3
 subst e1; subst e2; subst e3
 have ek : w64 ((k : Int) + 1) = ((k + 1 : Nat) : Int) := (aaD ⟨by omega, by omega⟩).trans zc
 have eL : ∀ cs : List CvT, cs = List.replicate n.toNat idC → (1, cs, [], [], ([], 0, [], ()), [], 0, 0, ()) :: l = ai9 n :: l := fun cs h => by rw [h]; rfl
 unfold al0
 dsimp only
 by_cases k0 : k = 0
 ·subst k0
  refine Or.inl ⟨(1, false, [idC], ()), ?_, ⟨1, by omega, rfl, rfl, rfl⟩, by dsimp only; omega, rfl⟩
  refine uT rfl (uT (zl (show ((0 : Nat) : Int) < n by omega)) ?_)
  refine uV (uV (uB (uB (uV (uV ?_)))))
  show some _ = some _
  rw [ek]; rfl
 ·rw [show decide (k = 0) = false from zk k0]
  refine (fun {p q : Prop} (h : p ∨ q) => h) ?_
  by_cases c : (k : Int) < n
  ·refine Or.inl ⟨((k + 1 : Nat), false, List.replicate (k + 1) idC, ()), ?_, ⟨k + 1, by omega, rfl, rfl, (zk zc).symm⟩, by dsimp only; omega, rfl⟩
   refine uF rfl (uT (zl c) (uN (by rw [zN]; omega) (uV (uB (uB (uV (uN ?_ ?_)))))))
   ·simp
   ·show some _ = some _
    rw [ek, avV]
  ·refine Or.inr ?_
   have hkn : k = n.toNat := zc
   refine uF rfl (uF (zk c) (uN zc ?_))
   by_cases e : l = []
   ·subst e
    refine uT rfl ?_
    refine uV (uB (uV (uV ?_)))
    show some _ = some _
    rw [zB]
    exact congrArg (fun z => some (Sum.inr (Sum.inl (z, ())))) (eL _ (by rw [hkn]))
   ·refine uF (by simp [e]) ?_
    refine uV (uB (uV (uV ?_)))
    show some _ = some _
    rw [zB, zx (by rw [zq]; exact zm _)]
    exact congrArg (fun z => some (Sum.inr (Sum.inl (z, ())))) (eL _ (by rw [hkn]))
theorem aIt (b : BcT) (hb : 0 ≤ b.2.1 ∧ b.2.1 ≤ 255) (n : Int) (xs : List ElT) (u : Unit) (l : List ElT) (hl : l.length ≤ 100) :
  adX (fun i => (al1 b (n, xs, u) i).toO) (l, ()) = some ((n, aCt b n l, ()), ()) := by
 obtain ⟨eT, hT⟩ := avI hb
 refine abE (fun i : List ElT × Unit => i.1.length ≤ 100) (fun i => axG b - i.1.length) (fun i => ((n, aCt b n i.1, ()), ())) (fun i hi => ?_) _ hl
 obtain ⟨l, v⟩ := i
 dsimp only at hi
 unfold al1
 dsimp only
 by_cases c1 : l.length < axG b
 ·by_cases c2 : 1 ≤ n
  ·by_cases c3 : n ≤ 4
   ·refine Or.inl ⟨(ai9 n :: l, ()), ?_, by show l.length + 1 ≤ 100; omega, by show axG b - (l.length + 1) < axG b - l.length; omega, by rw [aq0 c1 ⟨c2, c3⟩]⟩
    exact uV (uT (zl (by rw [eT, aaB]; omega)) (uT (zl c2) (uT (zl c3) (uO (0, true, [], ()) rfl (aI2 b n xs u l v hi c2 c3)))))
   ·refine Or.inr ?_
    rw [ahT (fun h => c3 h.2)]
    exact uV (uT (zl (by rw [eT, aaB]; omega)) (uT (zl c2) (uF (zk c3) rfl)))
  ·refine Or.inr ?_
   rw [ahT (fun h => c2 h.1)]
   exact uV (uT (zl (by rw [eT, aaB]; omega)) (uF (zk c2) rfl))
 ·refine Or.inr ?_
  rw [aq1 c1]
  exact uV (uF (zk (by rw [eT, aaB]; omega)) rfl)
theorem aI1 (b : BcT) (n : Int) (xs : List ElT) (u : Unit) (l : List ElT) (v : Unit) (hl : l.length ≤ 100) (h1 : 1 ≤ n) (h4 : n ≤ 4) :
  adX (fun i => (alY b (n, xs, u) (l, v) i).toO) (0, true, [], ()) = some (.inl (ai9 n :: l, ())) := by
 refine abE (fun i : Int × Bool × List CvT × Unit => ∃ k : Nat, k ≤ n.toNat ∧ i.1 = (k : Int) ∧ i.2.2.1 = List.replicate k idC ∧ i.2.1 = decide (k = 0)) (fun i => (n - i.1).toNat) (fun _ => (Sum.inl (ai9 n :: l, ()) : (List ElT × Unit) ⊕ (ChT × Unit))) (fun i hi => ?_) _ ⟨0, zA _, rfl, rfl, rfl⟩
 obtain ⟨i, f, cs, w⟩ := i
 obtain ⟨k, hk, e1, e2, e3⟩ := hi
 dsimp only at e1 e2 e3
 subst e1; subst e2; subst e3
 have ek : w64 ((k : Int) + 1) = ((k + 1 : Nat) : Int) := (aaD ⟨by omega, by omega⟩).trans zc
 have eL : ∀ cs : List CvT, cs = List.replicate n.toNat idC → (1, cs, [], [], ([], 0, [], ()), [], 0, 0, ()) :: l = ai9 n :: l := fun cs h => by rw [h]; rfl
 unfold alY
 dsimp only
 by_cases k0 : k = 0
 ·subst k0
  refine Or.inl ⟨(1, false, [idC], ()), ?_, ⟨1, by omega, rfl, rfl, rfl⟩, by dsimp only; omega, rfl⟩
  refine uT rfl (uT (zl (show ((0 : Nat) : Int) < n by omega)) ?_)
  refine uV (uV (uB (uB (uV (uV ?_)))))
  show some _ = some _
  rw [ek]; rfl
 ·rw [show decide (k = 0) = false from zk k0]
  refine (fun {p q : Prop} (h : p ∨ q) => h) ?_
  by_cases c : (k : Int) < n
  ·refine Or.inl ⟨((k + 1 : Nat), false, List.replicate (k + 1) idC, ()), ?_, ⟨k + 1, by omega, rfl, rfl, (zk zc).symm⟩, by dsimp only; omega, rfl⟩
   refine uF rfl (uT (zl c) (uN (by rw [zN]; omega) (uV (uB (uB (uV (uN ?_ ?_)))))))
   ·simp
   ·show some _ = some _
    rw [ek, avV]
  ·refine Or.inr ?_
   have hkn : k = n.toNat := zc
   refine uF rfl (uF (zk c) (uN zc ?_))
   by_cases e : l = []
   ·subst e
    refine uT rfl ?_
    refine uV (uB (uV (uV ?_)))
    show some _ = some _
    rw [zB]
    exact congrArg (fun z => some (Sum.inr (Sum.inl (z, ())))) (eL _ (by rw [hkn]))
   ·refine uF (by simp [e]) ?_
    refine uV (uB (uV (uV ?_)))
    show some _ = some _
    rw [zB, zx (by rw [zq]; exact zm _)]
    exact congrArg (fun z => some (Sum.inr (Sum.inl (z, ())))) (eL _ (by rw [hkn]))
theorem aIs (b : BcT) (hb : 0 ≤ b.2.1 ∧ b.2.1 ≤ 255) (n : Int) (xs : List ElT) (u : Unit) (l : List ElT) (hl : l.length ≤ 100) :
  adX (fun i => (alZ b (n, xs, u) i).toO) (l, ()) = some ((n, aCt b n l, ()), ()) := by
 obtain ⟨eT, hT⟩ := avI hb
 refine abE (fun i : List ElT × Unit => i.1.length ≤ 100) (fun i => axG b - i.1.length) (fun i => ((n, aCt b n i.1, ()), ())) (fun i hi => ?_) _ hl
 obtain ⟨l, v⟩ := i
 dsimp only at hi
 unfold alZ
 dsimp only
 by_cases c1 : l.length < axG b
 ·by_cases c2 : 1 ≤ n
  ·by_cases c3 : n ≤ 4
   ·refine Or.inl ⟨(ai9 n :: l, ()), ?_, by show l.length + 1 ≤ 100; omega, by show axG b - (l.length + 1) < axG b - l.length; omega, by rw [aq0 c1 ⟨c2, c3⟩]⟩
    exact uV (uT (zl (by rw [eT, aaB]; omega)) (uT (zl c2) (uT (zl c3) (uO (0, true, [], ()) rfl (aI1 b n xs u l v hi c2 c3)))))
   ·refine Or.inr ?_
    rw [ahT (fun h => c3 h.2)]
    exact uV (uT (zl (by rw [eT, aaB]; omega)) (uT (zl c2) (uF (zk c3) rfl)))
  ·refine Or.inr ?_
   rw [ahT (fun h => c2 h.1)]
   exact uV (uT (zl (by rw [eT, aaB]; omega)) (uF (zk c2) rfl))
 ·refine Or.inr ?_
  rw [aq1 c1]
  exact uV (uF (zk (by rw [eT, aaB]; omega)) rfl)
theorem aGJ (b : BcT) (n : Int) (xs : List ElT) (u : Unit) (l : List ElT) (v : Unit) (hl : l.length ≤ 100) (h1 : 1 ≤ n) (h4 : n ≤ 4) :
  adX (fun i => (ajU b (n, xs, u) (l, v) i).toO) (0, true, [], ()) = some (.inl (ai9 n :: l, ())) := by
 refine abE (fun i : Int × Bool × List CvT × Unit => ∃ k : Nat, k ≤ n.toNat ∧ i.1 = (k : Int) ∧ i.2.2.1 = List.replicate k idC ∧ i.2.1 = decide (k = 0)) (fun i => (n - i.1).toNat) (fun _ => (Sum.inl (ai9 n :: l, ()) : (List ElT × Unit) ⊕ (ChT × Unit))) (fun i hi => ?_) _ ⟨0, zA _, rfl, rfl, rfl⟩
 obtain ⟨i, f, cs, w⟩ := i
 obtain ⟨k, hk, e1, e2, e3⟩ := hi
 dsimp only at e1 e2 e3
 subst e1; subst e2; subst e3
 have ek : w64 ((k : Int) + 1) = ((k + 1 : Nat) : Int) := (aaD ⟨by omega, by omega⟩).trans zc
 have eL : ∀ cs : List CvT, cs = List.replicate n.toNat idC → (1, cs, [], [], ([], 0, [], ()), [], 0, 0, ()) :: l = ai9 n :: l := fun cs h => by rw [h]; rfl
 unfold ajU
 dsimp only
 by_cases k0 : k = 0
 ·subst k0
  refine Or.inl ⟨(1, false, [idC], ()), ?_, ⟨1, by omega, rfl, rfl, rfl⟩, by dsimp only; omega, rfl⟩
  refine uT rfl (uT (zl (show ((0 : Nat) : Int) < n by omega)) ?_)
  refine uV (uV (uB (uB (uV (uV ?_)))))
  show some _ = some _
  rw [ek]; rfl
 ·rw [show decide (k = 0) = false from zk k0]
  refine (fun {p q : Prop} (h : p ∨ q) => h) ?_
  by_cases c : (k : Int) < n
  ·refine Or.inl ⟨((k + 1 : Nat), false, List.replicate (k + 1) idC, ()), ?_, ⟨k + 1, by omega, rfl, rfl, (zk zc).symm⟩, by dsimp only; omega, rfl⟩
   refine uF rfl (uT (zl c) (uN (by rw [zN]; omega) (uV (uB (uB (uV (uN ?_ ?_)))))))
   ·simp
   ·show some _ = some _
    rw [ek, avV]
  ·refine Or.inr ?_
   have hkn : k = n.toNat := zc
   refine uF rfl (uF (zk c) (uN zc ?_))
   by_cases e : l = []
   ·subst e
    refine uT rfl ?_
    refine uV (uB (uV (uV ?_)))
    show some _ = some _
    rw [zB]
    exact congrArg (fun z => some (Sum.inr (Sum.inl (z, ())))) (eL _ (by rw [hkn]))
   ·refine uF (by simp [e]) ?_
    refine uV (uB (uV (uV ?_)))
    show some _ = some _
    rw [zB, zx (by rw [zq]; exact zm _)]
    exact congrArg (fun z => some (Sum.inr (Sum.inl (z, ())))) (eL _ (by rw [hkn]))
theorem aIr (b : BcT) (hb : 0 ≤ b.2.1 ∧ b.2.1 ≤ 255) (n : Int) (xs : List ElT) (u : Unit) (l : List ElT) (hl : l.length ≤ 100) :
  adX (fun i => (alX b (n, xs, u) i).toO) (l, ()) = some ((n, aCt b n l, ()), ()) := by
 obtain ⟨eT, hT⟩ := avI hb
 refine abE (fun i : List ElT × Unit => i.1.length ≤ 100) (fun i => axG b - i.1.length) (fun i => ((n, aCt b n i.1, ()), ())) (fun i hi => ?_) _ hl
 obtain ⟨l, v⟩ := i
 dsimp only at hi
 unfold alX
 dsimp only
 by_cases c1 : l.length < axG b
 ·by_cases c2 : 1 ≤ n
  ·by_cases c3 : n ≤ 4
   ·refine Or.inl ⟨(ai9 n :: l, ()), ?_, by show l.length + 1 ≤ 100; omega, by show axG b - (l.length + 1) < axG b - l.length; omega, by rw [aq0 c1 ⟨c2, c3⟩]⟩
    exact uV (uT (zl (by rw [eT, aaB]; omega)) (uT (zl c2) (uT (zl c3) (uO (0, true, [], ()) rfl (aGJ b n xs u l v hi c2 c3)))))
   ·refine Or.inr ?_
    rw [ahT (fun h => c3 h.2)]
    exact uV (uT (zl (by rw [eT, aaB]; omega)) (uT (zl c2) (uF (zk c3) rfl)))
  ·refine Or.inr ?_
   rw [ahT (fun h => c2 h.1)]
   exact uV (uT (zl (by rw [eT, aaB]; omega)) (uF (zk c2) rfl))
 ·refine Or.inr ?_
  rw [aq1 c1]
  exact uV (uF (zk (by rw [eT, aaB]; omega)) rfl)
theorem aOo {α : Type} {l : List α} {k : Nat} (h : k < l.length) (zs : List α) : List.take (k + (l.drop (k + 1)).length) (over (over l k (l.drop (k + 1))) (k + (l.drop (k + 1)).length) zs) = l.eraseIdx k := by
 rw [List.eraseIdx_eq_take_drop_succ]
 have e1 : over l k (l.drop (k + 1)) = (l.take k ++ l.drop (k + 1)) ++ l.drop (k + (l.drop (k + 1)).length) := rfl
 have hm : (l.take k ++ l.drop (k + 1)).length = k + (l.drop (k + 1)).length := by rw [zq, zK, yk zc]
 have e2 : List.take (k + (l.drop (k + 1)).length) (over l k (l.drop (k + 1))) = l.take k ++ l.drop (k + 1) := by
  rw [e1, ← hm, List.take_left]
 show List.take (k + (l.drop (k + 1)).length) (List.take (k + (l.drop (k + 1)).length) (over l k (l.drop (k + 1))) ++ zs ++ _) = _
 rw [e2, yR, ← hm, List.take_left]
theorem aKz {α : Type} {x y : TT α} {a : α} (h1 : x.toO = some a) (h2 : y.toO = some a) : (TT.both x y).toO = some a := aH7 h1 h2
theorem bt {a k : Int} (h : a = k) : (a == k) = true := zz.2 h
theorem bf {a k : Int} (h : ¬ a = k) : (a == k) = false := beq_eq_false_iff_ne.2 h
theorem aLu (b : BcT) (n : Int) (xs : List ElT) (u : Unit) : (if 1 ≤ n ∧ n ≤ 4 then some (n, List.replicate (axG b - xs.length) (ai9 n) ++ xs, ()) else some (n, xs, u) : Option ChT) = some (n, aCt b n xs, ()) := by
 unfold aCt; split <;> rfl
theorem aJs (b : BcT) (hb : 0 ≤ b.2.1 ∧ b.2.1 ≤ 255) (n : Int) (u : Unit) (r : ChT) (er : aAk b (n, [], u) = some r) : (afT b (n, [], u)).toO = some (r, ()) := by
 unfold aAk at er
 dsimp only at er
 unfold afT afK afL afM afN afO
 refine uV (uV (uT rfl (aKz ?_ (uN (by show (0 + 0) * 176 ≤ 140737488355328; decide) (uT rfl ?_)))))
 ·skip
  refine uV ?_
  by_cases q0 : Int.tmod b.1 7 = 0
  ·rw [if_pos q0] at er; injection er with er; subst er; exact uT (bt q0) rfl
  rw [if_neg q0] at er
  refine uF (bf q0) ?_
  by_cases q1 : Int.tmod b.1 7 = 1
  ·rw [if_pos q1] at er
   obtain ⟨z, ez, e⟩ := yK.1 er
   subst e
   refine uT (bt q1) ?_
   repeat (refine uV ?_)
   refine uC z ez ?_
   repeat (first | refine uV ?_ | refine uN zd ?_)
   rfl
  rw [if_neg q1] at er
  refine uF (bf q1) ?_
  by_cases q2 : Int.tmod b.1 7 = 2
  ·rw [if_pos q2, if_pos rfl] at er; injection er with er; subst er; exact uT (bt q2) rfl
  rw [if_neg q2] at er
  refine uF (bf q2) ?_
  by_cases q3 : Int.tmod b.1 7 = 3
  ·rw [if_pos q3] at er; injection er with er; subst er; exact uT (bt q3) rfl
  rw [if_neg q3] at er
  refine uF (bf q3) ?_
  by_cases q4 : Int.tmod b.1 7 = 4
  ·rw [if_pos q4] at er; injection er with er; subst er; exact uT (bt q4) rfl
  rw [if_neg q4] at er
  refine uF (bf q4) ?_
  by_cases q5 : Int.tmod b.1 7 = 5
  ·rw [if_pos q5] at er
   have er := (aLu b n [] u).symm.trans er
   injection er with er; subst er; exact uT (bt q5) (uO ([], ()) rfl (aIt b hb n [] u [] (zA _)))
  rw [if_neg q5] at er; injection er with er; subst er
  exact uF (bf q5) rfl
 ·skip
  refine uV ?_
  by_cases q0 : Int.tmod b.1 7 = 0
  ·rw [if_pos q0] at er; injection er with er; subst er; exact uT (bt q0) rfl
  rw [if_neg q0] at er
  refine uF (bf q0) ?_
  by_cases q1 : Int.tmod b.1 7 = 1
  ·rw [if_pos q1] at er
   obtain ⟨z, ez, e⟩ := yK.1 er
   subst e
   refine uT (bt q1) ?_
   repeat (refine uV ?_)
   refine uC z ez ?_
   repeat (first | refine uV ?_ | refine uN zd ?_)
   rfl
  rw [if_neg q1] at er
  refine uF (bf q1) ?_
  by_cases q2 : Int.tmod b.1 7 = 2
  ·rw [if_pos q2, if_pos rfl] at er; injection er with er; subst er; exact uT (bt q2) rfl
  rw [if_neg q2] at er
  refine uF (bf q2) ?_
  by_cases q3 : Int.tmod b.1 7 = 3
  ·rw [if_pos q3] at er; injection er with er; subst er; exact uT (bt q3) rfl
  rw [if_neg q3] at er
  refine uF (bf q3) ?_
  by_cases q4 : Int.tmod b.1 7 = 4
  ·rw [if_pos q4] at er; injection er with er; subst er; exact uT (bt q4) rfl
  rw [if_neg q4] at er
  refine uF (bf q4) ?_
  by_cases q5 : Int.tmod b.1 7 = 5
  ·rw [if_pos q5] at er
   have er := (aLu b n [] u).symm.trans er
   injection er with er; subst er; exact uT (bt q5) (uO ([], ()) rfl (aIs b hb n [] u [] (zA _)))
  rw [if_neg q5] at er; injection er with er; subst er
  exact uF (bf q5) rfl
theorem aJr (b : BcT) (hb : 0 ≤ b.2.1 ∧ b.2.1 ≤ 255) (n : Int) (xs : List ElT) (u : Unit) (hl : xs.length ≤ 100) (hx : xs ≠ []) (r : ChT) (er : aAk b (n, xs, u) = some r) : (afT b (n, xs, u)).toO = some (r, ()) := by
 unfold aAk at er
 dsimp only at er
 have hpos : 0 < xs.length := zT.2 hx
 have hE : List.isEmpty xs = false := by simp [hx]
 have hL : lBc xs = xs.length := zv _
 have hT := adK (a := b.2.1) (k := (xs.length : Int)) zc hb.1
 have hi : iBc b xs = (af7 b xs : Int) := by
  show Int.tmod (w64 b.2.1) ((lBc xs : Nat) : Int) = _
  rw [hL, aaD (x := b.2.1) ⟨by omega, by omega⟩]
  unfold af7; omega
 have hk : af7 b xs < xs.length := by unfold af7; omega
 have hj : jBc b xs = ((af7 b xs + 1 : Nat) : Int) := by
  show w64 (iBc b xs + 1) = _
  rw [hi]; exact (aaD ⟨by omega, by omega⟩).trans zc
 have ht : tBc b xs = xs.drop (af7 b xs + 1) := by
  show List.take (lBc xs - Int.toNat (jBc b xs)) (List.drop (0 + Int.toNat (jBc b xs)) xs) = _
  rw [hj, zt, hL, zv, zx (by rw [zS]; exact zm _)]
 have hB : ∀ k, bBc k xs = true := fun k => by simp [bBc]
 have hD : decide ((↑(lBc xs) : Int) > 0) = true := zl (by rw [hL]; omega)
 have hN : (↑(lBc xs) : Int) ≠ 0 := by rw [hL]; omega
 have hI : inb (iBc b xs) (↑(lBc xs) : Int) := by rw [hi, hL]; exact ⟨by omega, by omega⟩
 have a1 : inc (↑(lBc xs) : Int) (↑(lBc xs) : Int) := ⟨by omega, by omega⟩
 have a2 : inc (jBc b xs) (↑(Int.toNat (↑(lBc xs) : Int)) : Int) := by rw [hj, hL]; exact ⟨by omega, by omega⟩
 have a3 : inc (iBc b xs) (↑(Int.toNat (jBc b xs)) : Int) := by rw [hj, hi]; exact ⟨by omega, by omega⟩
 have a4 : inc (iBc b xs) (↑(lBc xs) : Int) := by rw [hi, hL]; exact ⟨by omega, by omega⟩
 have a5 : inc (jBc b xs) (↑(lBc xs) : Int) := by rw [hj, hL]; exact ⟨by omega, by omega⟩
 have a6 : Int.toNat (iBc b xs) + List.length (tBc b xs) ≤ List.length (eBc xs) := by
  rw [hi, ht, zt, zS]; show _ ≤ xs.length; omega
 have a7 : inc (↑(lBc xs) : Int) (len (over (eBc xs) (Int.toNat (iBc b xs)) (tBc b xs))) := by
  rw [aaB, aaY _ _ _ a6, hL]; show inc _ ((xs.length : Nat) : Int); exact ⟨by omega, by omega⟩
 have a8 : inc (↑(Int.toNat (iBc b xs) + List.length (tBc b xs)) : Int) (↑(Int.toNat (↑(lBc xs) : Int)) : Int) := by
  have h := a6
  have e : List.length (eBc xs) = xs.length := rfl
  rw [hL]; exact ⟨by omega, by omega⟩
 have hF : (iBc b xs == jBc b xs) = false := bf (by rw [hi, hj]; omega)
 have fin : ∀ l : List ElT, l = xs → List.take (lBc xs) l = xs := fun l h => by rw [h, hL, zB]
 have fin4 : ∀ zs, List.take (Int.toNat (iBc b xs) + List.length (tBc b xs)) (over (over (eBc xs) (Int.toNat (iBc b xs)) (tBc b xs)) (0 + Int.toNat (↑(Int.toNat (iBc b xs) + List.length (tBc b xs)) : Int)) zs) = xs.eraseIdx (af7 b xs) := by
  intro zs
  rw [hi, ht, zt, zt, zv]
  exact aOo hk zs
 unfold afT afK afL afM afN afO
 refine uV (uV (uF hE (uN (by show (0 + xs.length) * 176 ≤ _; omega) (uF hE (uV ?_)))))
 by_cases q0 : Int.tmod b.1 7 = 0
 ·rw [if_pos q0] at er; injection er with er; subst er
  exact uT (bt q0) (congrArg (fun l : List ElT => some (((b.2.2.1, l, ()) : ChT), ())) (fin _ rfl))
 rw [if_neg q0] at er
 refine uF (bf q0) ?_
 by_cases q1 : Int.tmod b.1 7 = 1
 ·rw [if_pos q1] at er
  obtain ⟨z, ez, e⟩ := yK.1 er
  subst e
  refine uT (bt q1) ?_
  repeat (first | refine uV ?_ | refine uN hN ?_ | refine uN hI ?_ | refine uN a1 ?_ | refine uN a2 ?_ | refine uN a3 ?_ | refine uN a4 ?_ | refine uN a5 ?_ | refine uN a6 ?_ | refine uN a7 ?_ | refine uN a8 ?_ | refine uT (hB _) ?_ | refine uT hD ?_ | refine uN (show asT Int 4 ≠ 0 by decide) ?_)
  refine uC z ez ?_
  repeat (first | refine uV ?_ | refine uN hN ?_ | refine uN hI ?_ | refine uN a1 ?_ | refine uN a2 ?_ | refine uN a3 ?_ | refine uN a4 ?_ | refine uN a5 ?_ | refine uN a6 ?_ | refine uN a7 ?_ | refine uN a8 ?_ | refine uT (hB _) ?_ | refine uT hD ?_ | refine uN (show asT Int 4 ≠ 0 by decide) ?_)
  refine uN (by show (0 + xs.length + 1) * 176 ≤ _; omega) ?_
  refine congrArg (fun l : List ElT => some (((n, l, ()) : ChT), ())) ?_
  show List.take (0 + xs.length + 1) (List.take (lBc xs) xs ++ [z.1]) = xs ++ [z.1]
  rw [fin _ rfl, zx (by rw [zq]; simp)]
 rw [if_neg q1] at er
 refine uF (bf q1) ?_
 by_cases q2 : Int.tmod b.1 7 = 2
 ·rw [if_pos q2, if_neg hx] at er
  obtain ⟨z, ez, e⟩ := yK.1 er
  subst e
  refine uT (bt q2) ?_
  repeat (first | refine uV ?_ | refine uN hN ?_ | refine uN hI ?_ | refine uN a1 ?_ | refine uN a2 ?_ | refine uN a3 ?_ | refine uN a4 ?_ | refine uN a5 ?_ | refine uN a6 ?_ | refine uN a7 ?_ | refine uN a8 ?_ | refine uT (hB _) ?_ | refine uT hD ?_ | refine uN (show asT Int 4 ≠ 0 by decide) ?_)
  refine uC z ez ?_
  repeat (first | refine uV ?_ | refine uN hN ?_ | refine uN hI ?_ | refine uN a1 ?_ | refine uN a2 ?_ | refine uN a3 ?_ | refine uN a4 ?_ | refine uN a5 ?_ | refine uN a6 ?_ | refine uN a7 ?_ | refine uN a8 ?_ | refine uT (hB _) ?_ | refine uT hD ?_ | refine uN (show asT Int 4 ≠ 0 by decide) ?_)
  refine congrArg (fun l : List ElT => some (((n, l, ()) : ChT), ())) ?_
  show List.take (lBc xs) (List.set xs (0 + Int.toNat (iBc b xs)) z.1) = xs.set (af7 b xs) z.1
  rw [hi, zt, zv, hL, zx (by rw [yr]; exact zm _)]
 rw [if_neg q2] at er
 refine uF (bf q2) ?_
 by_cases q3 : Int.tmod b.1 7 = 3
 ·rw [if_pos q3] at er; injection er with er; subst er
  refine uT (bt q3) ?_
  repeat (first | refine uV ?_ | refine uN hN ?_ | refine uN hI ?_ | refine uN a1 ?_ | refine uN a2 ?_ | refine uN a3 ?_ | refine uN a4 ?_ | refine uN a5 ?_ | refine uN a6 ?_ | refine uN a7 ?_ | refine uN a8 ?_ | refine uT (hB _) ?_ | refine uT hD ?_ | refine uN (show asT Int 4 ≠ 0 by decide) ?_)
  refine congrArg (fun l : List ElT => some (((n, l, ()) : ChT), ())) ?_
  show List.take (lBc xs) (List.set xs (0 + Int.toNat (iBc b xs)) (b.2.2.1, (List.getD xs (0 + Int.toNat (iBc b xs)) e0).2)) = xs.set (af7 b xs) (b.2.2.1, (xs.getD (af7 b xs) e0).2)
  rw [hi, zt, zv, hL, zx (by rw [yr]; exact zm _)]
 rw [if_neg q3] at er
 refine uF (bf q3) ?_
 by_cases q4 : Int.tmod b.1 7 = 4
 ·rw [if_pos q4] at er; injection er with er; subst er
  refine uT (bt q4) ?_
  repeat (first | refine uV ?_ | refine uN hN ?_ | refine uN hI ?_ | refine uN a1 ?_ | refine uN a2 ?_ | refine uN a3 ?_ | refine uN a4 ?_ | refine uN a5 ?_ | refine uN a6 ?_ | refine uN a7 ?_ | refine uN a8 ?_ | refine uT (hB _) ?_ | refine uT hD ?_ | refine uN (show asT Int 4 ≠ 0 by decide) ?_)
  refine uF hF ?_
  repeat (first | refine uV ?_ | refine uN hN ?_ | refine uN hI ?_ | refine uN a1 ?_ | refine uN a2 ?_ | refine uN a3 ?_ | refine uN a4 ?_ | refine uN a5 ?_ | refine uN a6 ?_ | refine uN a7 ?_ | refine uN a8 ?_ | refine uT (hB _) ?_ | refine uT hD ?_ | refine uN (show asT Int 4 ≠ 0 by decide) ?_)
  refine aKz ?_ ?_
  ·repeat (first | refine uV ?_ | refine uN hN ?_ | refine uN hI ?_ | refine uN a1 ?_ | refine uN a2 ?_ | refine uN a3 ?_ | refine uN a4 ?_ | refine uN a5 ?_ | refine uN a6 ?_ | refine uN a7 ?_ | refine uN a8 ?_ | refine uT (hB _) ?_ | refine uT hD ?_ | refine uN (show asT Int 4 ≠ 0 by decide) ?_)
   exact congrArg (fun l : List ElT => some (((n, l, ()) : ChT), ())) (fin4 _)
  ·repeat (first | refine uV ?_ | refine uN hN ?_ | refine uN hI ?_ | refine uN a1 ?_ | refine uN a2 ?_ | refine uN a3 ?_ | refine uN a4 ?_ | refine uN a5 ?_ | refine uN a6 ?_ | refine uN a7 ?_ | refine uN a8 ?_ | refine uT (hB _) ?_ | refine uT hD ?_ | refine uN (show asT Int 4 ≠ 0 by decide) ?_)
   exact congrArg (fun l : List ElT => some (((n, l, ()) : ChT), ())) (fin4 _)
 rw [if_neg q4] at er
 refine uF (bf q4) ?_
 by_cases q5 : Int.tmod b.1 7 = 5
 ·rw [if_pos q5] at er
  have er := (aLu b n xs u).symm.trans er
  injection er with er; subst er
  refine uT (bt q5) (uO (xs, ()) ?_ (aIr b hb n xs u xs hl))
  exact congrArg (fun l : List ElT => some (l, ())) (fin _ rfl)
 rw [if_neg q5] at er; injection er with er; subst er
 exact uF (bf q5) (congrArg (fun l : List ElT => some (((n, l, ()) : ChT), ())) (fin _ rfl))
theorem ay8 (b : BcT) (c : ChT) (y) (h : afX (b, c, ()) = some y) : (afT b c).toO = some y := by
 unfold afX at h
 split at h
 case isFalse => cases h
 case isTrue hc =>
 obtain ⟨⟨-, hb⟩, hl⟩ := hc
 obtain ⟨r, er, ey⟩ := yK.1 h
 subst ey
 obtain ⟨n, xs, u⟩ := c
 cases xs with
 | nil => exact aJs b hb n u r er
 | cons x l => exact aJr b hb n (x :: l) u hl ze r er
def wfB (b : BcT) : Prop := (0 ≤ b.1 ∧ b.1 ≤ 255) ∧ (0 ≤ b.2.1 ∧ b.2.1 ≤ 255) ∧ wfE b.2.2.2.1
def aLy (b : List BcT) : Prop := b.length = 2 ∧ ∀ x ∈ b, wfB x
def bndN (c : ChT) (m : Nat) : Prop := c.2.1.length ≤ m ∧ ∀ x ∈ c.2.1, shE x
def bnd (c : ChT) : Prop := bndN c 100
theorem bnd.sh {c : ChT} (h : bnd c) : as8 c := ⟨zF h.1 zc, h.2⟩
theorem bndN.mono {c : ChT} {m k : Nat} (h : bndN c m) (hk : m ≤ k) : bndN c k := ⟨zF h.1 hk, h.2⟩
theorem aB8 {b : BcT} (h : wfB b) : wfB (reB b) := ⟨h.1, h.2.1, aEQ h.2.2 h.2.2.1⟩
theorem aME {b : BcT} (h : wfB b) : ∃ x, elB b = some (x, ()) ∧ shE x := by
 have ht := adK (a := b.2.1) (k := 4) zc h.2.1.1
 have e : w64 (1 + Int.tmod (w64 b.2.1) 4) = 1 + Int.tmod b.2.1 4 := by
  rw [aaD (x := b.2.1) ⟨by have := h.2.1; omega, by have := h.2.1; omega⟩]
  exact aaD ⟨by omega, by omega⟩
 obtain ⟨⟨x, w⟩, ex, r1, r2⟩ := ak1 (reD b.2.2.2.1.1 b.2.2.2.1) (aEQ h.2.2 h.2.2.1) (1 + Int.tmod b.2.1 4) ⟨by omega, by omega⟩
 refine ⟨x, ?_, axW r1⟩
 unfold elB
 rw [e]; exact ex
theorem aIc {x : ElT} (h : shE x) (n : Int) : shE (n, x.2) := h
theorem aLX : shE e0 := ⟨⟨zA _, fun _ h => by cases h⟩, ⟨zA _, fun _ h => by cases h⟩, zA _, ⟨zA _, zA _⟩, zA _⟩
theorem aIb {n : Int} (h : n ≤ 4) : shE (ai9 n) := by
 refine ⟨⟨?_, fun c hc => ?_⟩, ⟨zA _, fun _ h => by cases h⟩, zA _, ⟨zA _, zA _⟩, zA _⟩
 ·show (List.replicate n.toNat _).length ≤ 1000000000000
  rw [zN]; omega
 ·rw [List.eq_of_mem_replicate hc]; exact ⟨zA _, zA _⟩
theorem aId {l : List ElT} (h : ∀ x ∈ l, shE x) (k : Nat) : shE (l.getD k e0) := by
 by_cases c : k < l.length
 ·exact h _ (aa9 c e0)
 ·rw [zX, yD zc]; exact aLX
theorem aHA {b : BcT} {c : ChT} {m : Nat} (hb : wfB b) (hc : bndN c m) (hm : m ≤ 90) : ∃ r, afX (b, c, ()) = some (r, ()) ∧ bndN r (m + 9) := by
 obtain ⟨x, ex, hx⟩ := aME hb
 obtain ⟨n, xs, u⟩ := c
 obtain ⟨hl, hs⟩ := hc
 dsimp only at hl hs
 have hset : ∀ v, shE v → ∀ k, bndN ((n, xs.set k v, ()) : ChT) (m + 9) := fun v hv k => ⟨by show (xs.set k v).length ≤ _; rw [yr]; omega, fun y hy => (List.mem_or_eq_of_mem_set hy).elim (hs y) (fun e => e ▸ hv)⟩
 have hself : ∀ k w, bndN ((k, xs, w) : ChT) (m + 9) := fun k w => ⟨by show xs.length ≤ _; omega, hs⟩
 suffices h : ∃ r, aAk b (n, xs, u) = some r ∧ bndN r (m + 9) by
  obtain ⟨r, e, h⟩ := h
  refine ⟨r, ?_, h⟩
  refine (if_pos ⟨⟨hb.1.1, hb.2.1⟩, by show xs.length ≤ 100; omega⟩).trans ?_
  show (aAk b (n, xs, u)).map _ = _
  rw [e]; rfl
 unfold aAk
 dsimp only
 rw [ex]
 by_cases q0 : Int.tmod b.1 7 = 0
 ·rw [if_pos q0]; exact ⟨_, rfl, hself _ _⟩
 rw [if_neg q0]
 by_cases q1 : Int.tmod b.1 7 = 1
 ·rw [if_pos q1]
  refine ⟨_, rfl, by show (xs ++ [x]).length ≤ _; rw [zq]; simp; omega, fun y hy => ?_⟩
  rcases zw.1 hy with h | h
  ·exact hs y h
  ·rw [zG.1 h]; exact hx
 rw [if_neg q1]
 by_cases q2 : Int.tmod b.1 7 = 2
 ·rw [if_pos q2]
  by_cases e : xs = []
  ·rw [if_pos e]; exact ⟨_, rfl, hself _ _⟩
  ·rw [if_neg e]; exact ⟨_, rfl, hset _ hx _⟩
 rw [if_neg q2]
 by_cases q3 : Int.tmod b.1 7 = 3
 ·rw [if_pos q3]; exact ⟨_, rfl, hset _ (aIc (aId hs _) _) _⟩
 rw [if_neg q3]
 by_cases q4 : Int.tmod b.1 7 = 4
 ·rw [if_pos q4]
  exact ⟨_, rfl, by show (xs.eraseIdx _).length ≤ _; have := List.length_eraseIdx_le xs (af7 b xs); omega, fun y hy => hs y (List.mem_of_mem_eraseIdx hy)⟩
 rw [if_neg q4]
 by_cases q5 : Int.tmod b.1 7 = 5
 ·rw [if_pos q5]
  by_cases e : 1 ≤ n ∧ n ≤ 4
  ·rw [if_pos e]
   have hu := (avI (b := b) hb.2.1).2
   refine ⟨_, rfl, by show (List.replicate _ _ ++ xs).length ≤ _; rw [zq, zN]; omega, fun y hy => ?_⟩
   rcases zw.1 hy with h | h
   ·rw [List.eq_of_mem_replicate h]; exact aIb e.2
   ·exact hs y h
  ·rw [if_neg e]; exact ⟨_, rfl, hself _ _⟩
 rw [if_neg q5]; exact ⟨_, rfl, hself _ _⟩
theorem aH9 (d : DcT) (b : List BcT) (hd : wfC d) (hb : aLy b) : WP (agE d b) fun y => y.1.length = 3 ∧ ∀ c ∈ y.1, bnd c := by
 obtain ⟨hb2, hbw⟩ := hb
 match b, hb2, hbw with
 | [b0, b1], _, hbw =>
 have w0 := aB8 (hbw b0 ze)
 have w1 := aB8 (hbw b1 ze)
 obtain ⟨⟨c, u⟩, ec, n, n1, n4, gc⟩ := aoU d hd
 have ec : aeU ((d.1, d.2.1, d.2.2.1, ()), ()) = some (c, ()) := ec
 have k0 : bndN c 3 := ⟨gc.2.1, gc.2.2.1⟩
 obtain ⟨c1, e1, k1⟩ := aHA w0 k0 zc
 obtain ⟨c2, e2, k2⟩ := aHA w1 k1 zc
 unfold agE
 refine aaM _ ec (aaA (aaM _ e1 (aaA (aaM _ e2 (aaN ⟨rfl, fun z hz => ?_⟩)))))
 have hz : z ∈ [c, c1, c2] := hz
 rcases zp.1 hz with h | hz
 ·rw [h]; exact k0.mono zc
 ·rcases zp.1 hz with h | hz
  ·rw [h]; exact k1.mono zc
  ·rw [zG.1 hz]; exact k2.mono zc
theorem aKM {b : List BcT} (h : aLy b) : aLy [reB (List.headD b b0D), reB (List.headD (List.tail b) b0D)] := by
 obtain ⟨hb2, hbw⟩ := h
 match b, hb2, hbw with
 | [b0, b1], _, hbw =>
 refine ⟨rfl, fun x hx => ?_⟩
 rcases zp.1 hx with h | hx
 ·rw [h]; exact aB8 (hbw b0 ze)
 ·rw [zG.1 hx]; exact aB8 (hbw b1 ze)
end Go.Vs
