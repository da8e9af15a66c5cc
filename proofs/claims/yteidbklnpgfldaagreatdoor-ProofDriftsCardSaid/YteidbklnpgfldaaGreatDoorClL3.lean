/-
  Trees of what the functions compute, and their laws. Own work; no condition.
-/
import Derived.Test.YteidbklnpgfldaaGreatDoorClL2
import Derived.Test.YteidbklnpgfldaaGreatDoorProg
set_option linter.unusedVariables false
set_option linter.unusedSimpArgs false
namespace Go.Vs
open Go Go.Vg
abbrev xD (d : DrT) (i : Int) : List Int := gi d.2.1 i (List.replicate 7 0)
def xT : Nat → List Int → List Int
 | 0, l => l
 | n + 1, l => List.tail (xT n l)
abbrev xk (d : DrT) (i : Int) (k : Nat) : Int := List.headD (xT k (xD d i)) 0
abbrev qX (d : DrT) (i : Int) : Prop := Qq (103 : TypeId) ∧ Qq (xk d i 0) ∧ Qq (xk d i 1) ∧ Qq (xk d i 2) ∧ Qq (xk d i 3) ∧ Qq (xk d i 4) ∧ Qq (xk d i 5) ∧ Qq (xk d i 6) ∧ True
abbrev aMf : Ty := (Ty.pair Ty.str (Ty.pair uI (Ty.pair (Ty.arr 3 vC) Ty.unit)))
abbrev gP (l : List PtT) (i : Int) : PtT := gi l i p0
abbrev zF3 : List FxT := [zF, zF, zF]
abbrev kP (l : List PtT) (i : Int) : DK := DK.s (gP l i).1
abbrev pJ (l : List (List Int)) (i k : Int) : Int := gi (gi l i (List.replicate 2 0)) k 0
abbrev eQ (a b : List PtT) (j i k : Int) : Int := w64 (gi (gP b j).2.2.1 k 0 - gi (gP a i).2.2.1 k 0)
abbrev t3 (a b c : FxT) : List FxT := [(a.1, a.2.1, ()), (b.1, b.2.1, ()), (c.1, c.2.1, ())]
abbrev hF (l : List FxT) : FxT := List.headD l ([], [], ())
abbrev u3 (l : List FxT) : List FxT := [((hF l).1, (hF l).2.1, ()), ((hF (List.tail l)).1, (hF (List.tail l)).2.1, ()), ((hF (List.tail (List.tail l))).1, (hF (List.tail (List.tail l))).2.1, ())]
abbrev qP (a b : List PtT) : List (List PtT) := [List.headD [a, b] [], List.headD (List.tail [a, b]) []]
abbrev p5 (a b c d : List PtT) : List (List (List PtT)) := [qP a b, qP b a, qP a c, qP a d, qP d a]
abbrev gX (a b c d : List PtT) (i : Int) : List (List PtT) := gi (asT (List (List (List PtT))) (p5 a b c d)) i (List.replicate 2 [])
abbrev gB (a b : List PtT) (d : List (List UInt8 × Int)) (i : Int) : PtT := gi b (apU KK.str 0 (kP a i) d) p0
abbrev dP (a b : List PtT) (d : List (List UInt8 × Int)) (i k : Int) : Int := w64 (gi (gB a b d i).2.2.1 k 0 - gi (gP a i).2.2.1 k 0)
abbrev dL (a b : List PtT) (d : List (List UInt8 × Int)) (i : Int) : List Int := [dP a b d i 0, dP a b d i (w64 (0 + 1)), dP a b d i (w64 (w64 (0 + 1) + 1))]
abbrev Df0 := Ty.dflt vT
abbrev Df1 := Ty.dflt vV
abbrev Df2 := Ty.dflt (Ty.pair vG vV)
abbrev Df3 := Ty.dflt (Ty.pair vC vV)
abbrev Df4 := Ty.dflt (Ty.pair vG Ty.unit)
abbrev Df5 := Ty.dflt (Ty.pair (Ty.sl uW) vV)
abbrev Df6 := Ty.dflt uM
abbrev Df7 := Ty.dflt (Ty.pair Ty.str vV)
abbrev Df8 := Ty.dflt (Ty.pair aMf Ty.unit)
abbrev Df9 := Ty.dflt (Ty.pair (Ty.sl aMf) Ty.unit)
abbrev aQY := Ty.dflt (Ty.pair (Ty.pair vC (Ty.pair (Ty.arr 3 vG) (Ty.pair vG (Ty.pair vG vV)))) vV)
abbrev aSk := Ty.dflt (Ty.pair (Ty.sl aMf) (Ty.pair (Ty.sl aMf) Ty.unit))
set_option maxRecDepth 100000
open Go Go.Vg Go.Proofs
noncomputable section
def aES : LTab := [(113, 3, 1024, ⟨0, (Bool) × Unit, .dat (.s 2) uU <| .nil, [0], [], 0⟩), (113, 58, 4096, ⟨1, (Int) × Unit, .dat (.s 16) vC <| .nil, [15, 0], [], 0⟩)]
def adI (s : List UInt8) (i : (Int) × Unit) : TT vK :=
 .ite (decide ((↑(UInt8.toNat (gi s i.1 0)) : Int) < 48))
 (.ite ((↑(UInt8.toNat (gi s i.1 0)) : Int) != 45)
 (.ite ((↑(UInt8.toNat (gi s i.1 0)) : Int) != 95)
 (.ok (.inr ((false, ()))))
 (.tt <| .lt (w64 (i.1 + 1) : Int) fun z1 => .wV (vj z1 (len s) s) <| .tr <| .ok (.inl ((z1, ())))))
 (.tt <| .lt (w64 (i.1 + 1) : Int) fun z2 => .wV (vj z2 (len s) s) <| .tr <| .ok (.inl ((z2, ())))))
 (.ite (decide ((↑(UInt8.toNat (gi s i.1 0)) : Int) > 57))
 (.ite ((↑(UInt8.toNat (gi s i.1 0)) : Int) != 45)
 (.ite ((↑(UInt8.toNat (gi s i.1 0)) : Int) != 95)
 (.ok (.inr ((false, ()))))
 (.tt <| .lt (w64 (i.1 + 1) : Int) fun z3 => .wV (vj z3 (len s) s) <| .tr <| .ok (.inl ((z3, ())))))
 (.tt <| .lt (w64 (i.1 + 1) : Int) fun z4 => .wV (vj z4 (len s) s) <| .tr <| .ok (.inl ((z4, ())))))
 (.tt <| .lt (w64 (i.1 + 1) : Int) fun z5 => .wV (vj z5 (len s) s) <| .tr <| .ok (.inl ((z5, ())))))
def alF (s : List UInt8) (j : Bool × Unit) (i : (Int) × Unit) : TT vK :=
 .ite (decide (i.1 < len s))
 (.need (inb i.1 (len s)) <| .ite (decide (65 ≤ (↑(UInt8.toNat (gi s i.1 0)) : Int)))
  (.ite (decide ((↑(UInt8.toNat (gi s i.1 0)) : Int) ≤ 90))
   (.tt <| .lt (w64 (i.1 + 1) : Int) fun z => .wV (vj z (len s) s) <| .tr <| .ok (.inl ((z, ()))))
   (.ite (decide (97 ≤ (↑(UInt8.toNat (gi s i.1 0)) : Int)))
    (.ite (!decide ((↑(UInt8.toNat (gi s i.1 0)) : Int) ≤ 122))
     (adI s i)
     (.tt <| .lt (w64 (i.1 + 1) : Int) fun z6 => .wV (vj z6 (len s) s) <| .tr <| .ok (.inl ((z6, ())))))
    (adI s i)))
  (.ite (decide (97 ≤ (↑(UInt8.toNat (gi s i.1 0)) : Int)))
   (.ite (!decide ((↑(UInt8.toNat (gi s i.1 0)) : Int) ≤ 122))
    (adI s i)
    (.tt <| .lt (w64 (i.1 + 1) : Int) fun z17 => .wV (vj z17 (len s) s) <| .tr <| .ok (.inl ((z17, ())))))
   (adI s i)))
 (.ok (.inr ((true, ()))))
def aCf (s : List UInt8) (j : (Bool) × Unit) : TT vW :=
 .loop 1 (.tt <| .wV (vj (0 : Int) (len s) s) <| .tr <| .ok ((0, ()))) (alF s j)
def anV (s : List UInt8) : TT vW :=
 .join 0 (ι := (Bool) × Unit) (.ite (decide (len s < 1))
 (.ok (.inr ((false, ()))))
 (.ite (decide (len s > 12))
 (.ok (.inr ((false, ()))))
 (.tt <| .wV (vu false s) <| .tr <| .ok (.inl ((false, ())))))) (aCf s)
def aER : LTab := [(69, 3, 2048, ⟨0, (Bool) × Unit, .dat (.s 2) uU <| .nil, [1], [0], 0⟩), (69, 58, 6144, ⟨1, (Int) × Unit, .dat (.s 28) vC <| .nil, [27, 26, 1], [0], 0⟩), (69, 122, 10240, ⟨2, (Int) × Unit, .dat (.s 41) vC <| .nil, [40], [0], 0⟩)]
def ag2 (i1 : (Int) × Unit) (p : PtT) : TT (ug ⊕ vK) :=
 .tt <| .lt (w64 (i1.1 + 1) : Int) fun z1 => .wV (vu z1 ((l3 p.2.2.1) : List Int)) <| .wV (wU (vA 36 p.1 p.2.1 (List.headD p.2.2.1 0) (List.headD (List.tail p.2.2.1) 0) (List.headD (List.tail (List.tail p.2.2.1)) 0)) True) <| .ok (.inl ((z1, ())))
def alE (p : PtT) (j : Bool × Unit) (i : Int × Unit) (i1 : (Int) × Unit) : TT (ug ⊕ vK) :=
 .ite (decide (i1.1 < 3))
 (.need (inb i1.1 (↑3 : Int)) <| .tt <| .tt <| .ite (i1.1 == 0)
  (.ite (decide (gi (asT (List Int) (l3 p.2.2.1)) i1.1 0 < 0))
   (.ok (.inr (.inr ((false, ())))))
   (.ite (decide (gi (asT (List Int) (l3 p.2.2.1)) i1.1 0 > 10000))
    (.ok (.inr (.inr ((false, ())))))
    (ag2 i1 p)))
  (.ite (decide (gi (asT (List Int) (l3 p.2.2.1)) i1.1 0 < -12800))
   (.ok (.inr (.inr ((false, ())))))
   (.ite (decide (gi (asT (List Int) (l3 p.2.2.1)) i1.1 0 > 12700))
    (.ok (.inr (.inr ((false, ())))))
    (ag2 i1 p))))
 (.ok (.inr (.inr ((true, ())))))
def aiD (p : PtT) (j : Bool × Unit) (i : (Int) × Unit) : TT vK :=
 .ite (decide (i.1 < len p.2.1))
 (.need (inb i.1 (len p.2.1)) <| .ite (decide (gi p.2.1 i.1 0 < 0))
 (.ok (.inr ((false, ()))))
 (.ite (decide (gi p.2.1 i.1 0 > 10000))
 (.ok (.inr ((false, ()))))
 (.tt <| .lt (w64 (i.1 + 1) : Int) fun z => .wV (ve z (len p.2.1) p.2.1 <| vM ∧ True) <| .wV (wU (vA 36 p.1 p.2.1 (List.headD p.2.2.1 0) (List.headD (List.tail p.2.2.1) 0) (List.headD (List.tail (List.tail p.2.2.1)) 0)) True) <| .ok (.inl ((z, ()))))))
 (.loop 2 (.tt <| .wV (vu (0 : Int) ((l3 p.2.2.1) : List Int)) <| .wV (wU (vA 36 p.1 p.2.1 (List.headD p.2.2.1 0) (List.headD (List.tail p.2.2.1) 0) (List.headD (List.tail (List.tail p.2.2.1)) 0)) True) <| .ok ((0, ()))) (alE p j i))
def aCe (p : PtT) (j : (Bool) × Unit) : TT vW :=
 .loop 1 (.tt <| .wV (ve (0 : Int) (len p.2.1) p.2.1 <| vM ∧ True) <| .wV (wU (vA 36 p.1 p.2.1 (List.headD p.2.2.1 0) (List.headD (List.tail p.2.2.1) 0) (List.headD (List.tail (List.tail p.2.2.1)) 0)) True) <| .ok ((0, ()))) (aiD p j)
def anU (p : PtT) : TT vW :=
 .join 0 (ι := (Bool) × Unit) (.call (adB (p.1, ())) Df0 fun y =>
 .ite (!y.1)
 (.ok (.inr ((false, ()))))
 (.ite (decide (len p.2.1 < 1))
 (.ok (.inr ((false, ()))))
 (.ite (decide (len p.2.1 > 4))
 (.ok (.inr ((false, ()))))
 (.tt <| .wV (wY false <| vM ∧ True) <| .wV (wU (vA 36 p.1 p.2.1 (List.headD p.2.2.1 0) (List.headD (List.tail p.2.2.1) 0) (List.headD (List.tail (List.tail p.2.2.1)) 0)) True) <| .ok (.inl ((false, ()))))))) (aCe p)
def aET : LTab := [(41, 3, 1024, ⟨0, (Int) × Unit, .dat (.s 2) vC <| .nil, [0], [], 0⟩), (41, 122, 6144, ⟨1, (Int) × (List uq) × Unit, .dat (.s 17) vC <| .dict 1 (KK.str) uU <| .nil, [16, 15, 3, 0], [1], 0⟩)]
def arO (l : List PtT) (j : Int × Unit) (i : (Int) × (List uq) × Unit) : TT (((Int) × (List uq) × Unit) ⊕ ui) :=
 .ite (decide (i.1 < len l))
 (.need (inb i.1 (len l)) <| .call (akM (((gP l i.1).1, (gP l i.1).2.1, [List.headD (gP l i.1).2.2.1 0, List.headD (List.tail (gP l i.1).2.2.1) 0, List.headD (List.tail (List.tail (gP l i.1).2.2.1)) 0], ()), ())) Df0 fun y =>
 .ite (!y.1)
 (.ok (.inr ((310, ()))))
 (.need (asT Int 0 ≤ 0 ∧ 0 < len l) <| .ite (len (gP l i.1).2.1 != len (gP l 0).2.1)
 (.ok (.inr ((310, ()))))
 (.ite (ayW KK.str (kP l i.1) i.2.1)
 (.ite (apU KK.str false (kP l i.1) i.2.1)
 (.ok (.inr ((310, ()))))
 (.tt <| .lt (w64 (i.1 + 1) : Int) fun z => .lt (aF4 KK.str (kP l i.1) true i.2.1 : List uq) fun z1 => .wV (ve z (len l) l <| (vq 1 true) ∧ wZ l) <| .wV (wU (vq (KK.str : KK) z1) True) <| .ok (.inl ((z, z1, ())))))
 (.tt <| .lt (w64 (i.1 + 1) : Int) fun z2 => .lt (aF4 KK.str (kP l i.1) true i.2.1 : List uq) fun z3 => .wV (ve z2 (len l) l <| (vq 1 true) ∧ wZ l) <| .wV (wU (vq (KK.str : KK) z3) True) <| .ok (.inl ((z2, z3, ())))))))
 (.ok (.inr ((0, ()))))
def aCg (l : List PtT) (j : (Int) × Unit) : TT ui :=
 .loop 1 (.tt <| .wV (ve (0 : Int) (len l) l <| (vq 1 true) ∧ wZ l) <| .wV (wU (vq (KK.str : KK) ([] : List uq)) True) <| .ok ((0, [], ()))) (arO l j)
def anW (l : List PtT) : TT ui :=
 .join 0 (ι := (Int) × Unit) (.ite (decide (len l < 1))
 (.ok (.inr ((310, ()))))
 (.ite (decide (len l > 40))
 (.ok (.inr ((310, ()))))
 (.tt <| .wV (vu (0 : Int) l) <| .tr <| .ok (.inl ((0, ())))))) (aCg l)
def azT : LTab := []
def aoZ (first : List PtT) (second : List PtT) : TT vW :=
 .call (ahT (first, ())) Df1 fun y =>
 .ite (y.1 != 0)
 (.ok ((true, ())))
 (.call (ahT (second, ())) Df1 fun y1 =>
 .ok ((y1.1 != 0, ())))
def axA : LTab := [(26, 26, 5120, ⟨0, (Int) × (Int) × (Int) × Unit, .dat (.s 8) vC <| .dat (.s 3) vC <| .dat (.s 2) vC <| .nil, [7, 6], [], 0⟩)]
def ag1 (numbers : List Int) (i : (Int) × (Int) × (Int) × Unit) : TT (((Int) × (Int) × (Int) × Unit) ⊕ (Int × Int × Unit)) :=
 .ite (decide (i.1 < len numbers))
 (.need (inb i.1 (len numbers)) <| .ite (i.1 == 0)
 (.tt <| .lt (w64 (i.1 + 1) : Int) fun z => .lt (gi numbers i.1 0 : Int) fun z1 => .wV (vB z1 i.1 z (len numbers) numbers) <| .tr <| .ok (.inl ((z, i.1, z1, ()))))
 (.ite (decide (gi numbers i.1 0 > i.2.2.1))
 (.tt <| .lt (w64 (i.1 + 1) : Int) fun z2 => .lt (gi numbers i.1 0 : Int) fun z3 => .wV (vB z3 i.1 z2 (len numbers) numbers) <| .tr <| .ok (.inl ((z2, i.1, z3, ()))))
 (.tt <| .lt (w64 (i.1 + 1) : Int) fun z4 => .lt (i.2.1 : Int) fun z5 => .lt (i.2.2.1 : Int) fun z6 => .wV (vB z6 z5 z4 (len numbers) numbers) <| .tr <| .ok (.inl ((z4, z5, z6, ()))))))
 (.ok (.inr ((i.2.2.1, i.2.1, ()))))
def amB (numbers : List Int) : TT (Int × Int × Unit) :=
 .loop 0 (.tt <| .wV (vB (0 : Int) (0 : Int) (0 : Int) (len numbers) numbers) <| .tr <| .ok ((0, 0, 0, ()))) (ag1 numbers)
abbrev qf0 (first : List PtT) (second : List PtT) (y : Bool × Unit) : Prop := Qq (LoopState.ready : LoopState) ∧ Qq (none : Option Code) ∧ Qq 24 ∧ Qq (#[15, 16] : Array Tmp) ∧ Qq (aqQ (agU Tryz.f8) [1, 1, 1, 0, 1, 0, 0]) ∧ Qq (aqQ (agU Tryz.f8) [1, 1, 1, 0, 1, 0, 1]) ∧ (Qq (42 : FuncId) ∧ True ∧ (Qq 9 ∧ Qq 0 ∧ Qq true) ∧ (Qq 8 ∧ Qq 0 ∧ Qq true) ∧ True) ∧ Qq second ∧ Qq first ∧ (Qq 5 ∧ Qq 0 ∧ Qq true) ∧ Qq y.1 ∧ Qq second ∧ Qq first ∧ Qq (0 : Int) ∧ True ∧ Qq first ∧ Qq second ∧ True
def aEO : LTab := [(42, 42, 19458, ⟨0, (Int) × (List vN) × Unit, .dat (.s 14) vC <| .dict 14 (KK.str) vC <| .nil, [13, 12, 4, 0, 2], [14, 13, 9, 8, 5], 0⟩), (42, 94, 23554, ⟨1, (Int) × Bool × (List (List Int)) × Unit, .dat (.s 26) vC <| .appN (.c 5 0) 23 54 uW <| .nil, [25, 24, 4, 0], [14, 13, 9, 8, 5], 1⟩), (5, 4010922, 888888888, uS), (10, 16042, 888888888, uS), (10, 16378, 888888888, uS), (11, 260682, 888888888, uS), (1000017, 106, 888888888, uS)]
def ah6 (first : List PtT) (second : List PtT) (y : Bool × Unit) (i : Int × List vN × Unit) (i1 : (Int) × Bool × (List (List Int)) × Unit) : TT (ub ⊕ (uQ ⊕ vX)) :=
 .ite (i1.2.1)
 (.ite (decide (i1.1 < len first))
 (.need (inb i1.1 (len first)) <| .ite (ayW KK.str (kP first i1.1) i.2.1)
 (.need (1 * 16 ≤ 140737488355328) <| .tt <| .lt (w64 (i1.1 + 1) : Int) fun z2 => .lt ([[List.headD [i1.1, apU KK.str 0 (kP first i1.1) i.2.1] 0, List.headD (List.tail [i1.1, apU KK.str 0 (kP first i1.1) i.2.1]) 0]] : List (List Int)) fun z3 => .wV (ve z2 (len first) first <| uD ∧ uE ∧ True) <| .wV (wU (vq 54 z3) <| wU (vq (KK.str : KK) i.2.1) <| wU (qf0 first second y) <| wU (vu 29 second) <| wU (vu 29 first) <| wU (wY 40 <| (vo 23 0 1 true) ∧ True) True) <| .ok (.inl ((z2, false, z3, ()))))
 (.tt <| .lt (w64 (i1.1 + 1) : Int) fun z4 => .wV (ve z4 (len first) first <| uD ∧ uE ∧ True) <| .wV (wU (vq (KK.str : KK) i.2.1) <| wU (qf0 first second y) <| wU (vu 29 second) <| wU (vu 29 first) <| wU uz True) <| .ok (.inl ((z4, true, [], ())))))
 (.ok (.inr (.inr (([], 0, ()))))))
 (.ite (decide (i1.1 < len first))
 (.need (inb i1.1 (len first)) <| .ite (ayW KK.str (kP first i1.1) i.2.1)
 (.need ((List.length i1.2.2.1 + 1) * 16 ≤ 140737488355328) <| .tt <| .lt (w64 (i1.1 + 1) : Int) fun z5 => .lt (List.take (List.length i1.2.2.1) i1.2.2.1 ++ [[List.headD [i1.1, apU KK.str 0 (kP first i1.1) i.2.1] 0, List.headD (List.tail [i1.1, apU KK.str 0 (kP first i1.1) i.2.1]) 0]] : List (List Int)) fun z6 => .wV (ve z5 (len first) first <| uD ∧ uE ∧ True) <| .need ((((54 : TypeId) = 54) ∧ ((z6 : List (List Int)) = z6)) ∧ (true = true) ∧ (((KK.str : KK) = KK.str) ∧ ((i.2.1 : List vN) = i.2.1)) ∧ (true = true) ∧ (((LoopState.ready : LoopState) = LoopState.ready) ∧ (((none : Option Code) = none) ∧ (((24) = (24)) ∧ (((#[15, 16] : Array Tmp) = #[15, 16]) ∧ (((aqQ (agU Tryz.f8) [1, 1, 1, 0, 1, 0, 0]) = (aqQ (agU Tryz.f8) [1, 1, 1, 0, 1, 0, 0])) ∧ (((aqQ (agU Tryz.f8) [1, 1, 1, 0, 1, 0, 1]) = (aqQ (agU Tryz.f8) [1, 1, 1, 0, 1, 0, 1])) ∧ ((((42 : FuncId) = 42) ∧ (True ∧ ((((9) = (9)) ∧ (((0) = (0)) ∧ ((true) = (true)))) ∧ ((((8) = (8)) ∧ (((0) = (0)) ∧ ((true) = (true)))) ∧ True)))) ∧ (((second) = (second)) ∧ (((first) = (first)) ∧ ((((5) = (5)) ∧ (((0) = (0)) ∧ ((true) = (true)))) ∧ (((y.1) = (y.1)) ∧ (((second) = (second)) ∧ (((first) = (first)) ∧ (((0 : Int) = 0) ∧ (True ∧ (((first) = (first)) ∧ (((second) = (second)) ∧ True))))))))))))))))) ∧ (true = true) ∧ (((29 : TypeId) = 29) ∧ (((second) = (second)) ∧ True)) ∧ (true = true) ∧ (((29 : TypeId) = 29) ∧ (((first) = (first)) ∧ True)) ∧ (true = true) ∧ (((40 : TypeId) = 40) ∧ ((((23) = (23)) ∧ (((0) = (0)) ∧ ((List.length i1.2.2.1 + 1 = List.length z6) ∧ ((true) = (true))))) ∧ True)) ∧ (true = true) ∧ True) <| .ok (.inl ((z5, false, z6, ()))))
 (.tt <| .lt (w64 (i1.1 + 1) : Int) fun z7 => .lt (i1.2.2.1 : List (List Int)) fun z8 => .wV (ve z7 (len first) first <| uD ∧ uE ∧ True) <| .wV (wU (vq 54 z8) <| wU (vq (KK.str : KK) i.2.1) <| wU (qf0 first second y) <| wU (vu 29 second) <| wU (vu 29 first) <| wU (wY 40 <| (vo 23 0 (List.length z8) true) ∧ True) True) <| .ok (.inl ((z7, false, z8, ())))))
 (.ok (.inr (.inr ((List.take (List.length i1.2.2.1) i1.2.2.1, 0, ()))))))
def alC (first : List PtT) (second : List PtT) (y : Bool × Unit) (i : (Int) × (List vN) × Unit) : TT (uQ ⊕ vX) :=
 .ite (decide (i.1 < len second))
 (.need (inb i.1 (len second)) <| .tt <| .lt (w64 (i.1 + 1) : Int) fun z => .lt (aF4 KK.str (kP second i.1) i.1 i.2.1 : List vN) fun z1 => .wV (ve z (len second) second <| uD ∧ uE ∧ (wX 8 0 true) ∧ True) <| .wV (wU (vq (KK.str : KK) z1) <| wU (qf0 first second y) <| wU (vu 29 second) <| wU (vu 29 first) <| wU uz True) <| .ok (.inl ((z, z1, ()))))
 (.loop 1 (.tt <| .wV (ve (0 : Int) (len first) first <| uD ∧ uE ∧ True) <| .wV (wU (vq (KK.str : KK) i.2.1) <| wU (qf0 first second y) <| wU (vu 29 second) <| wU (vu 29 first) <| wU uz True) <| .ok ((0, true, [], ()))) (ah6 first second y i))
def au2 (first : List PtT) (second : List PtT) : TT vX :=
 .call (ae1 (first, second, ())) Df0 fun y =>
 .ite (y.1)
 (.ok (([], 310, ())))
 (.tt <| .tt <| .tt <| .tt <| .loop 0 (.tt <| .wV (ve (0 : Int) (len second) second <| uD ∧ uE ∧ (wX 8 0 true) ∧ True) <| .wV (wU (vq (KK.str : KK) ([] : List vN)) <| wU (qf0 first second y) <| wU (vu 29 second) <| wU (vu 29 first) <| wU uz True) <| .ok ((0, [], ()))) (alC first second y))
end
set_option maxRecDepth 100000
open Go Go.Vg Go.Proofs
noncomputable section
def aBW : LTab := [(70, 3, 1024, ⟨0, (Bool) × Unit, .dat (.s 2) uU <| .nil, [0], [], 0⟩), (70, 58, 2048, ⟨1, (Int) × Unit, .dat (.s 3) vC <| .nil, [0], [], 0⟩)]
def acW (s : List UInt8) (i : (Int) × Unit) : TT vK :=
 .ite (decide ((↑(UInt8.toNat (gi s i.1 0)) : Int) ≥ 48))
 (.ite (decide ((↑(UInt8.toNat (gi s i.1 0)) : Int) ≤ 57))
 (.tt <| .lt (w64 (i.1 + 1) : Int) fun z2 => .wV (vu z2 s) <| .tr <| .ok (.inl ((z2, ()))))
 (.ite ((↑(UInt8.toNat (gi s i.1 0)) : Int) == 45)
 (.tt <| .lt (w64 (i.1 + 1) : Int) fun z3 => .wV (vu z3 s) <| .tr <| .ok (.inl ((z3, ()))))
 (.ite (!(↑(UInt8.toNat (gi s i.1 0)) : Int) == 95)
 (.ok (.inr ((false, ()))))
 (.tt <| .lt (w64 (i.1 + 1) : Int) fun z4 => .wV (vu z4 s) <| .tr <| .ok (.inl ((z4, ())))))))
 (.ite ((↑(UInt8.toNat (gi s i.1 0)) : Int) == 45)
 (.tt <| .lt (w64 (i.1 + 1) : Int) fun z5 => .wV (vu z5 s) <| .tr <| .ok (.inl ((z5, ()))))
 (.ite (!(↑(UInt8.toNat (gi s i.1 0)) : Int) == 95)
 (.ok (.inr ((false, ()))))
 (.tt <| .lt (w64 (i.1 + 1) : Int) fun z6 => .wV (vu z6 s) <| .tr <| .ok (.inl ((z6, ()))))))
def ajE (s : List UInt8) (j : Bool × Unit) (i : (Int) × Unit) : TT vK :=
 .ite (decide (i.1 < len s))
 (.need (inb i.1 (len s)) <| .ite (decide ((↑(UInt8.toNat (gi s i.1 0)) : Int) ≥ 65))
  (.ite (decide ((↑(UInt8.toNat (gi s i.1 0)) : Int) ≤ 90))
   (.tt <| .lt (w64 (i.1 + 1) : Int) fun z => .wV (vu z s) <| .tr <| .ok (.inl ((z, ()))))
   (.ite (decide ((↑(UInt8.toNat (gi s i.1 0)) : Int) ≥ 97))
    (.ite (decide ((↑(UInt8.toNat (gi s i.1 0)) : Int) ≤ 122))
     (.tt <| .lt (w64 (i.1 + 1) : Int) fun z1 => .wV (vu z1 s) <| .tr <| .ok (.inl ((z1, ()))))
     (acW s i))
    (acW s i)))
  (.ite (decide ((↑(UInt8.toNat (gi s i.1 0)) : Int) ≥ 97))
   (.ite (decide ((↑(UInt8.toNat (gi s i.1 0)) : Int) ≤ 122))
    (.tt <| .lt (w64 (i.1 + 1) : Int) fun z12 => .wV (vu z12 s) <| .tr <| .ok (.inl ((z12, ()))))
    (acW s i))
   (acW s i)))
 (.ok (.inr ((true, ()))))
def azC (s : List UInt8) (j : (Bool) × Unit) : TT vW :=
 .loop 1 (.tt <| .wV (vu (0 : Int) s) <| .tr <| .ok ((0, ()))) (ajE s j)
def ak8 (s : List UInt8) : TT vW :=
 .join 0 (ι := (Bool) × Unit) (.ite (decide (len s < 1))
 (.ok (.inr ((false, ()))))
 (.ite (decide (len s > 12))
 (.ok (.inr ((false, ()))))
 (.tt <| .wV (vu false s) <| .tr <| .ok (.inl ((false, ())))))) (azC s)
def aGC : LTab := [(43, 3, 2048, ⟨0, (Bool) × Unit, .dat (.s 4) uU <| .nil, [2, 1], [0], 0⟩), (43, 58, 3072, ⟨1, (Int) × Unit, .dat (.s 5) vC <| .nil, [2, 1], [0], 0⟩)]
def aj6 (p : PtT) (n : Int) (j : Bool × Unit) (i : (Int) × Unit) : TT vK :=
 .ite (decide (i.1 < n))
 (.need (inb i.1 (len p.2.1)) <| .ite (decide (gi p.2.1 i.1 0 < 0))
 (.ok (.inr ((false, ()))))
 (.need (inb i.1 (len p.2.1)) <| .ite (decide (gi p.2.1 i.1 0 > 10000))
 (.ok (.inr ((false, ()))))
 (.tt <| .lt (w64 (i.1 + 1) : Int) fun z => .wV (wY z <| vM ∧ wZ n) <| .wV (wU (vA 36 p.1 p.2.1 (List.headD p.2.2.1 0) (List.headD (List.tail p.2.2.1) 0) (List.headD (List.tail (List.tail p.2.2.1)) 0)) True) <| .ok (.inl ((z, ()))))))
 (.triv (asT Int 0 ≤ 1 ∧ 1 < (↑3 : Int)) zc <| .ite (decide (List.headD (List.tail p.2.2.1) 0 ≥ -12800))
 (.triv (asT Int 0 ≤ 1 ∧ 1 < (↑3 : Int)) zc <| .ite (decide (List.headD (List.tail p.2.2.1) 0 ≤ 12700))
 (.triv (asT Int 0 ≤ 2 ∧ 2 < (↑3 : Int)) zc <| .ite (decide (List.headD (List.tail (List.tail p.2.2.1)) 0 ≥ -12800))
 (.triv (asT Int 0 ≤ 2 ∧ 2 < (↑3 : Int)) zc <| .ok (.inr ((decide (List.headD (List.tail (List.tail p.2.2.1)) 0 ≤ 12700), ()))))
 (.ok (.inr ((false, ())))))
 (.ok (.inr ((false, ())))))
 (.ok (.inr ((false, ())))))
def aEC (p : PtT) (n : Int) (j : (Bool) × Unit) : TT vW :=
 .loop 1 (.tt <| .wV (wY (0 : Int) <| vM ∧ wZ n) <| .wV (wU (vA 36 p.1 p.2.1 (List.headD p.2.2.1 0) (List.headD (List.tail p.2.2.1) 0) (List.headD (List.tail (List.tail p.2.2.1)) 0)) True) <| .ok ((0, ()))) (aj6 p n j)
def aq4 (p : PtT) (n : Int) : TT vW :=
 .join 0 (ι := (Bool) × Unit) (.call (aeJ (p.1, ())) Df0 fun y =>
 .ite (!y.1)
 (.ok (.inr ((false, ()))))
 (.ite (len p.2.1 != n)
 (.ok (.inr ((false, ()))))
 (.triv (asT Int 0 ≤ 0 ∧ 0 < (↑3 : Int)) zc <| .ite (decide (List.headD p.2.2.1 0 < 0))
 (.ok (.inr ((false, ()))))
 (.triv (asT Int 0 ≤ 0 ∧ 0 < (↑3 : Int)) zc <| .ite (decide (List.headD p.2.2.1 0 > 10000))
 (.ok (.inr ((false, ()))))
 (.tt <| .wV (wY false <| vM ∧ wZ n) <| .wV (wU (vA 36 p.1 p.2.1 (List.headD p.2.2.1 0) (List.headD (List.tail p.2.2.1) 0) (List.headD (List.tail (List.tail p.2.2.1)) 0)) True) <| .ok (.inl ((false, ())))))))) (aEC p n)
def aBX : LTab := [(25, 3, 1024, ⟨0, (Bool) × Unit, .dat (.s 2) uU <| .nil, [0], [], 0⟩), (25, 58, 2048, ⟨1, (Int) × Unit, .dat (.s 3) vC <| .nil, [0], [], 0⟩), (25, 7462, 18432, ⟨2, (Int) × Unit, .dat (.s 4) vC <| .nil, [45, 44, 43, 42, 41, 40, 39, 38, 37, 36, 35, 32, 31, 30, 29, 3, 0], [], 0⟩)]
def agI (l : List PtT) (j : Bool × Unit) (i : Int × Unit) (y : Bool × Unit) (i1 : (Int) × Unit) : TT (ug ⊕ vK) :=
 .ite (decide (i1.1 < i.1))
 (.need (inb i1.1 (len l)) <| .need (inb i.1 (len l)) <| .ite ((gP l i1.1).1 == (gP l i.1).1)
 (.ok (.inr (.inr ((false, ())))))
 (.tt <| .lt (w64 (i1.1 + 1) : Int) fun z => .wV (vk z (!y.1) y.1 (len (gP l 0).2.1) ((gP l 0).2.1 : List Int) ((gP l 0).2.1 : List Int) (gP l 0 : PtT) l <| vk (gP l i.1 : PtT) (gP l i.1 : PtT) i.1 l (decide (i.1 < len l)) (len l) l i.1 <| vu i.1 l) <| .tr <| .ok (.inl ((z, ())))))
 (.tt <| .lt (w64 (i.1 + 1) : Int) fun z1 => .wV (vu z1 l) <| .tr <| .ok (.inr (.inl ((z1, ())))))
def aoW (l : List PtT) (j : Bool × Unit) (i : (Int) × Unit) : TT vK :=
 .ite (decide (i.1 < len l))
 (.need (inb i.1 (len l)) <| .need (asT Int 0 ≤ 0 ∧ 0 < len l) <| .call (am4 (gP l i.1, len (gP l 0).2.1, ())) Df0 fun y =>
 .ite (!y.1)
 (.ok (.inr ((false, ()))))
 (.loop 2 (.tt <| .wV (vk (0 : Int) (!y.1) y.1 (len (gP l 0).2.1) ((gP l 0).2.1 : List Int) ((gP l 0).2.1 : List Int) (gP l 0 : PtT) l <| vk (gP l i.1 : PtT) (gP l i.1 : PtT) i.1 l (decide (i.1 < len l)) (len l) l i.1 <| vu i.1 l) <| .tr <| .ok ((0, ()))) (agI l j i y)))
 (.ok (.inr ((true, ()))))
def azE (l : List PtT) (j : (Bool) × Unit) : TT vW :=
 .loop 1 (.tt <| .wV (vu (0 : Int) l) <| .tr <| .ok ((0, ()))) (aoW l j)
def ak9 (l : List PtT) : TT vW :=
 .join 0 (ι := (Bool) × Unit) (.ite (decide (len l < 1))
 (.ok (.inr ((false, ()))))
 (.ite (decide (len l > 40))
 (.ok (.inr ((false, ()))))
 (.need (asT Int 0 ≤ 0 ∧ 0 < len l) <| .ite (decide (len (gP l 0).2.1 < 1))
 (.ok (.inr ((false, ()))))
 (.need (asT Int 0 ≤ 0 ∧ 0 < len l) <| .ite (decide (len (gP l 0).2.1 > 4))
 (.ok (.inr ((false, ()))))
 (.tt <| .wV (vu false l) <| .tr <| .ok (.inl ((false, ())))))))) (azE l)
def aKw : LTab := []
def aDx (n : Int) (d : Int) : TT (vD × Unit) :=
 .call (atP (n, d, ())) Df2 fun y =>
 .ok (((y.1.1, y.1.2.1, ()), ()))
def aBT : LTab := [(9, 122, 12290, ⟨0, (Int) × Bool × (List (List Int)) × Unit, .dat (.s 7) vC <| .appN (.s 6) 12 54 uW <| .nil, [5, 4, 0, 1], [], 1⟩), (9, 7826, 18434, ⟨1, (Int) × Bool × (List (List Int)) × Unit, .dat (.s 8) vC <| .appN (.s 6) 18 54 uW <| .nil, [20, 19, 18, 17, 7, 5, 4, 0, 1], [], 1⟩), (9, 7826, 18433, ⟨2, (Int) × (List (List Int)) × Unit, .dat (.s 8) vC <| .app (.s 6) 18 54 uW <| .nil, [20, 19, 18, 17, 7, 5, 4, 0, 1], [], 1⟩), (5, 4010922, 888888888, uS), (10, 16042, 888888888, uS), (10, 16378, 888888888, uS), (11, 260682, 888888888, uS), (1000017, 106, 888888888, uS)]
def agG (first : List PtT) (second : List PtT) (y : Bool × Unit) (y1 : Bool × Unit) (i : Int × Bool × List (List Int) × Unit) (i1 : (Int) × Bool × (List (List Int)) × Unit) : TT (ub ⊕ (ub ⊕ vX)) :=
 .ite (i1.2.1)
 (.ite (decide (i1.1 < len second))
 (.need (inb i.1 (len first)) <| .need (inb i1.1 (len second)) <| .ite ((gP first i.1).1 == (gP second i1.1).1)
 (.need (1 * 16 ≤ 140737488355328) <| .tt <| .lt (w64 (i1.1 + 1) : Int) fun z => .lt ([[List.headD [i.1, i1.1] 0, List.headD (List.tail [i.1, i1.1]) 0]] : List (List Int)) fun z1 => .wV ((vo 18 0 1 true) ∧ (vw z (decide (i.1 < len first)) (len first) first i.1 i.1 (0 : Int) <| True ∧ vu first second)) <| .wV (wU (vq 54 z1) True) <| .ok (.inl ((z, false, z1, ()))))
 (.tt <| .lt (w64 (i1.1 + 1) : Int) fun z2 => .wV (True ∧ (vw z2 (decide (i.1 < len first)) (len first) first i.1 i.1 (0 : Int) <| True ∧ vu first second)) <| .tr <| .ok (.inl ((z2, true, [], ())))))
 (.tt <| .lt (w64 (i.1 + 1) : Int) fun z3 => .wV (True ∧ (vt z3 (0 : Int) <| True ∧ vu first second)) <| .tr <| .ok (.inr (.inl ((z3, true, [], ()))))))
 (.ite (decide (i1.1 < len second))
 (.need (inb i.1 (len first)) <| .need (inb i1.1 (len second)) <| .ite ((gP first i.1).1 == (gP second i1.1).1)
 (.need ((List.length i1.2.2.1 + 1) * 16 ≤ 140737488355328) <| .tt <| .lt (w64 (i1.1 + 1) : Int) fun z4 => .lt (List.take (List.length i1.2.2.1) i1.2.2.1 ++ [[List.headD [i.1, i1.1] 0, List.headD (List.tail [i.1, i1.1]) 0]] : List (List Int)) fun z5 => .need ((((18) = (18)) ∧ (((0) = (0)) ∧ ((List.length i1.2.2.1 + 1 = List.length z5) ∧ ((true) = (true))))) ∧ ((z4 : Int) = z4) ∧ ((decide (i.1 < len first)) = (decide (i.1 < len first))) ∧ ((len first : Int) = len first) ∧ ((first) = (first)) ∧ ((i.1 : Int) = i.1) ∧ ((i.1 : Int) = i.1) ∧ ((0 : Int) = 0) ∧ True ∧ ((first) = (first)) ∧ ((second) = (second)) ∧ True) <| .wV (wU (vq 54 z5) True) <| .ok (.inl ((z4, false, z5, ()))))
 (.tt <| .lt (w64 (i1.1 + 1) : Int) fun z6 => .lt (i1.2.2.1 : List (List Int)) fun z7 => .wV ((vo 18 0 (List.length z7) true) ∧ (vw z6 (decide (i.1 < len first)) (len first) first i.1 i.1 (0 : Int) <| True ∧ vu first second)) <| .wV (wU (vq 54 z7) True) <| .ok (.inl ((z6, false, z7, ())))))
 (.tt <| .lt (w64 (i.1 + 1) : Int) fun z8 => .lt (i1.2.2.1 : List (List Int)) fun z9 => .wV ((vo 12 0 (List.length z9) true) ∧ (vt z8 (0 : Int) <| True ∧ vu first second)) <| .wV (wU (vq 54 z9) True) <| .ok (.inr (.inl ((z8, false, z9, ()))))))
def aeT (first : List PtT) (second : List PtT) (y : Bool × Unit) (y1 : Bool × Unit) (i : Int × Bool × List (List Int) × Unit) (i2 : (Int) × (List (List Int)) × Unit) : TT (((Int) × (List (List Int)) × Unit) ⊕ (ub ⊕ vX)) :=
 .ite (decide (i2.1 < len second))
 (.need (inb i.1 (len first)) <| .need (inb i2.1 (len second)) <| .ite ((gP first i.1).1 == (gP second i2.1).1)
 (.need ((List.length i2.2.1 + 1) * 16 ≤ 140737488355328) <| .tt <| .lt (w64 (i2.1 + 1) : Int) fun z11 => .lt (List.take (List.length i2.2.1) i2.2.1 ++ [[List.headD [i.1, i2.1] 0, List.headD (List.tail [i.1, i2.1]) 0]] : List (List Int)) fun z12 => .need ((((18) = (18)) ∧ (((0) = (0)) ∧ ((List.length i2.2.1 + 1 = List.length z12) ∧ ((true) = (true))))) ∧ ((z11 : Int) = z11) ∧ ((decide (i.1 < len first)) = (decide (i.1 < len first))) ∧ ((len first : Int) = len first) ∧ ((first) = (first)) ∧ ((i.1 : Int) = i.1) ∧ ((i.1 : Int) = i.1) ∧ ((0 : Int) = 0) ∧ True ∧ ((first) = (first)) ∧ ((second) = (second)) ∧ True) <| .wV (wU (vq 54 z12) True) <| .ok (.inl ((z11, z12, ()))))
 (.tt <| .lt (w64 (i2.1 + 1) : Int) fun z13 => .lt (i2.2.1 : List (List Int)) fun z14 => .wV ((vo 18 0 (List.length z14) true) ∧ (vw z13 (decide (i.1 < len first)) (len first) first i.1 i.1 (0 : Int) <| True ∧ vu first second)) <| .wV (wU (vq 54 z14) True) <| .ok (.inl ((z13, z14, ())))))
 (.tt <| .lt (w64 (i.1 + 1) : Int) fun z15 => .lt (i2.2.1 : List (List Int)) fun z16 => .wV ((vo 12 0 (List.length z16) true) ∧ (vt z15 (0 : Int) <| True ∧ vu first second)) <| .wV (wU (vq 54 z16) True) <| .ok (.inr (.inl ((z15, false, z16, ())))))
def ajD (first : List PtT) (second : List PtT) (y : Bool × Unit) (y1 : Bool × Unit) (i : (Int) × Bool × (List (List Int)) × Unit) : TT (ub ⊕ vX) :=
 .ite (i.2.1)
 (.ite (decide (i.1 < len first))
 (.loop 1 (.tt <| .wV (True ∧ (vw (0 : Int) (decide (i.1 < len first)) (len first) first i.1 i.1 (0 : Int) <| True ∧ vu first second)) <| .tr <| .ok ((0, true, [], ()))) (agG first second y y1 i))
 (.ok (.inr (([], 0, ())))))
 (.ite (decide (i.1 < len first))
 (.loop 2 (.tt <| .lt (i.2.2.1 : List (List Int)) fun z10 => .wV ((vo 18 0 (List.length z10) true) ∧ (vw (0 : Int) (decide (i.1 < len first)) (len first) first i.1 i.1 (0 : Int) <| True ∧ vu first second)) <| .wV (wU (vq 54 z10) True) <| .ok ((0, z10, ()))) (aeT first second y y1 i))
 (.ok (.inr ((List.take (List.length i.2.2.1) i.2.2.1, 0, ())))))
def aq2 (first : List PtT) (second : List PtT) : TT vX :=
 .call (af7 (first, ())) Df0 fun y =>
 .ite (!y.1)
 (.ok (([], 310, ())))
 (.call (af7 (second, ())) Df0 fun y1 =>
 .ite (!y1.1)
 (.ok (([], 310, ())))
 (.loop 0 (.tt <| .wV (True ∧ (vt (0 : Int) (0 : Int) <| True ∧ vu first second)) <| .tr <| .ok ((0, true, [], ()))) (ajD first second y y1)))
def aNP : LTab := [(12, 58, 9216, ⟨0, (Int) × Unit, .dat (.s 13) vC <| .nil, [12, 0, 1], [], 0⟩)]
def aDp (s1 : List (List Int)) (s2 : List (List Int)) (i : (Int) × Unit) : TT vK :=
 .ite (decide (i.1 < len s1))
 (.need (inb i.1 (len s1)) <| .need (inb i.1 (len s2)) <| .ite (!eqD.eqL (fun x x_1 => x == x_1) (gi s1 i.1 (List.replicate 2 0)) (gi s2 i.1 (List.replicate 2 0)))
 (.ok (.inr ((false, ()))))
 (.tt <| .lt (w64 (i.1 + 1) : Int) fun z => .wV (vh z (len s1) s1 s2) <| .tr <| .ok (.inl ((z, ())))))
 (.ok (.inr ((true, ()))))
def aBK (s1 : List (List Int)) (s2 : List (List Int)) : TT vW :=
 .ite (len s1 != len s2)
 (.ok ((false, ())))
 (.loop 0 (.tt <| .wV (vh (0 : Int) (len s1) s1 s2) <| .tr <| .ok ((0, ()))) (aDp s1 s2))
end
theorem aSj {n d : Int} (h1 : ae4 n) (h2 : 0 < d) (h3 : ae4 d) : ahY (n, d, ()) = some (fx (mkRat n d.toNat), 0, ()) := by
 have h4 := h3.2
 have := awD (n := n) (d := d.toNat) h1 zb zb
 rwa [show ((d.toNat : Nat) : Int) = d by omega] at this
theorem aNt {α : Type} {l : List α} {k : Nat} (d e : α) (h : k < l.length) : gi l (k : Int) d = l.getD k e := by rw [aaQ]; simp [h]
theorem abC {k : Nat} (h : k ≤ 1000000) : w64 ((k : Int) + 1) = ((k + 1 : Nat) : Int) := (aaC ⟨by omega, by omega⟩).trans zb
theorem aRS {c : UInt8} (h : nmC c = true) : (65 ≤ c.toNat ∧ c.toNat ≤ 90 ∨ 97 ≤ c.toNat ∧ c.toNat ≤ 122 ∨ 48 ≤ c.toNat ∧ c.toNat ≤ 57 ∨ c.toNat = 45 ∨ c.toNat = 95) := by simpa [nmC] using h
theorem aRT {c : UInt8} (h : nmC c = false) : ¬ (65 ≤ c.toNat ∧ c.toNat ≤ 90 ∨ 97 ≤ c.toNat ∧ c.toNat ≤ 122 ∨ 48 ≤ c.toNat ∧ c.toNat ≤ 57 ∨ c.toNat = 45 ∨ c.toNat = 95) := by simpa [nmC] using h
theorem aN8 (s : List UInt8) (j : Bool × Unit) (k : Nat) (h : k < s.length) (h2 : s.length ≤ 1000000) : (alF s j ((k : Int), ())).toO = some (if nmC (s.getD k 0) then .inl (((k + 1 : Nat) : Int), ()) else .inr (false, ())) := by
 unfold alF adI
 refine uT (zm (by rw [aaB]; omega)) (uN (abJ zb (by rw [aaB]; omega)) ?_)
 simp only [aNt 0 0 h, abC (show k ≤ 1000000 by omega)]
 generalize s.getD k 0 = c
 cases hc : nmC c
 ·have hi := aRT hc
  (repeat' (first | refine uV ?_ | refine uB ?_ | refine abO ?_ | refine aJZ ?_ | refine akS ?_ | refine aqY (fun hb => ?_) (fun hb => ?_) | refine adF (fun hb => ?_) (fun hb => ?_))) <;> simp only [zz, zO, yO, yU, beq_eq_false_iff_ne, bne_eq_false_iff_eq, zK, ym, ne_eq] at * <;> (try simp only [aaB] at *) <;> first | rfl | (exfalso; omega)
 ·have hi := aRS hc
  (repeat' (first | refine uV ?_ | refine uB ?_ | refine abO ?_ | refine aJZ ?_ | refine akS ?_ | refine aqY (fun hb => ?_) (fun hb => ?_) | refine adF (fun hb => ?_) (fun hb => ?_))) <;> simp only [zz, zO, yO, yU, beq_eq_false_iff_ne, bne_eq_false_iff_eq, zK, ym, ne_eq] at * <;> (try simp only [aaB] at *) <;> first | rfl | (exfalso; omega)
theorem azX (s : List UInt8) (y) (h : adB (s, ()) = some y) : (anV s).toO = some y := by
 have hs : s.length ≤ 1000000 := by
  unfold adB at h; split at h
  ·assumption
  ·cases h
 have h : some (nmB s, ()) = some y := by unfold adB at h; rwa [if_pos (show (s, ()).1.length ≤ 1000000 from hs)] at h
 cases h
 unfold anV
 refine adF (fun hb => ?_) (fun hb => adF (fun hc => ?_) (fun hc => abO (abO (abO (akS ?_)))))
 ·have : len s < 1 := of_decide_eq_true hb
  rw [aaB] at this
  rw [show nmB s = false by unfold nmB; rw [zk zb]; rfl]; rfl
 ·have : len s > 12 := of_decide_eq_true hc
  rw [aaB] at this
  rw [show nmB s = false by unfold nmB; rw [zk zb]; rfl]; rfl
 ·have hb := of_decide_eq_false hb
  have hc := of_decide_eq_false hc
  rw [aaB] at hb hc
  refine uO (0, ()) rfl ?_
  refine (aeN (n := s.length) (bad := (false, ())) (good := (true, ())) (fun k => ((k : Int), ())) (fun k => nmC (s.getD k 0)) (fun k hk _ => aN8 s _ k hk hs) (fun _ => uF (zk (by rw [aaB]; omega)) rfl)).trans ?_
  rw [aqF s 0 nmC]
  unfold nmB
  rw [zm zb]
  cases s.all nmC <;> rfl
theorem aKx (s : List UInt8) (j : Bool × Unit) (k : Nat) (h : k < s.length) (h2 : s.length ≤ 1000000) : (ajE s j ((k : Int), ())).toO = some (if nmC (s.getD k 0) then .inl (((k + 1 : Nat) : Int), ()) else .inr (false, ())) := by
 unfold ajE acW
 refine uT (zm (by rw [aaB]; omega)) (uN (abJ zb (by rw [aaB]; omega)) ?_)
 simp only [aNt 0 0 h, abC (show k ≤ 1000000 by omega)]
 generalize s.getD k 0 = c
 cases hc : nmC c
 ·have hi := aRT hc
  (repeat' (first | refine uV ?_ | refine uB ?_ | refine abO ?_ | refine aJZ ?_ | refine akS ?_ | refine aqY (fun hb => ?_) (fun hb => ?_) | refine adF (fun hb => ?_) (fun hb => ?_))) <;> simp only [zz, zO, yO, yU, beq_eq_false_iff_ne, bne_eq_false_iff_eq, zK, ym, ne_eq] at * <;> (try simp only [aaB] at *) <;> first | rfl | (exfalso; omega)
 ·have hi := aRS hc
  (repeat' (first | refine uV ?_ | refine uB ?_ | refine abO ?_ | refine aJZ ?_ | refine akS ?_ | refine aqY (fun hb => ?_) (fun hb => ?_) | refine adF (fun hb => ?_) (fun hb => ?_))) <;> simp only [zz, zO, yO, yU, beq_eq_false_iff_ne, bne_eq_false_iff_eq, zK, ym, ne_eq] at * <;> (try simp only [aaB] at *) <;> first | rfl | (exfalso; omega)
theorem aw4 (s : List UInt8) (y) (h : aeJ (s, ()) = some y) : (ak8 s).toO = some y := by
 have hs : s.length ≤ 1000000 := by
  unfold aeJ adB at h; split at h
  ·assumption
  ·cases h
 have h : some (nmB s, ()) = some y := by unfold aeJ adB at h; rwa [if_pos (show (s, ()).1.length ≤ 1000000 from hs)] at h
 cases h
 unfold ak8
 refine adF (fun hb => ?_) (fun hb => adF (fun hc => ?_) (fun hc => abO (abO (abO (akS ?_)))))
 ·have : len s < 1 := of_decide_eq_true hb
  rw [aaB] at this
  rw [show nmB s = false by unfold nmB; rw [zk zb]; rfl]; rfl
 ·have : len s > 12 := of_decide_eq_true hc
  rw [aaB] at this
  rw [show nmB s = false by unfold nmB; rw [zk zb]; rfl]; rfl
 ·have hb := of_decide_eq_false hb
  have hc := of_decide_eq_false hc
  rw [aaB] at hb hc
  refine uO (0, ()) rfl ?_
  refine (aeN (n := s.length) (bad := (false, ())) (good := (true, ())) (fun k => ((k : Int), ())) (fun k => nmC (s.getD k 0)) (fun k hk _ => aKx s _ k hk hs) (fun _ => uF (zk (by rw [aaB]; omega)) rfl)).trans ?_
  rw [aqF s 0 nmC]
  unfold nmB
  rw [zm zb]
  cases s.all nmC <;> rfl
theorem ae5 {α : Type} {p : Prop} [Decidable p] {a y : α} (h : (if p then some a else none) = some y) : p ∧ a = y := by
 by_cases hp : p
 ·rw [if_pos hp] at h; exact ⟨hp, Option.some.inj h⟩
 ·rw [if_neg hp] at h; cases h
theorem aOX {s : List UInt8} (h : s.length ≤ 1000000) : adB (s, ()) = some (nmB s, ()) := if_pos h
theorem aL7 {s : List UInt8} (h : s.length ≤ 1000000) : aeJ (s, ()) = some (nmB s, ()) := if_pos h
def lbq (p : PtT) (k : Nat) : Bool := if k = 0 then decide (0 ≤ lb p 0 ∧ lb p 0 ≤ 10000) else decide (-12800 ≤ lb p k ∧ lb p k ≤ 12700)
theorem aNo (p : PtT) : (List.range 3).all (lbq p) = lbB p := by
 rw [xR]
 simp [lbq, lbB, xF, and_assoc]
theorem aNw (l : List Int) : (List.range l.length).all (fun k => dvB (l.getD k 0)) = l.all dvB := aqF l 0 dvB
theorem aQ8 (p : PtT) (j : Bool × Unit) (i : Int × Unit) (k : Nat) (h : k < 3) : (alE p j i ((k : Int), ())).toO = some (if lbq p k then .inl (((k + 1 : Nat) : Int), ()) else .inr (.inr (false, ()))) := by
 unfold alE ag2
 refine uT (zm zh) (uN (abJ zh zh) (uV (uV ?_)))
 have hg : gi (asT (List Int) (l3 p.2.2.1)) (k : Int) 0 = lb p k := aaQ _ _ _
 simp only [hg, abC (show k ≤ 1000000 by omega)]
 unfold lbq
 by_cases h0 : k = 0
 ·subst h0
  rw [if_pos rfl]
  refine uT rfl ?_
  by_cases c : 0 ≤ lb p 0 ∧ lb p 0 ≤ 10000
  ·rw [zm c]
   exact uF (zk zb) (uF (zk zb) rfl)
  ·rw [zk c]
   (repeat' (first | refine uV ?_ | refine uB ?_ | refine abO ?_ | refine aJZ ?_ | refine akS ?_ | refine aqY (fun hb => ?_) (fun hb => ?_) | refine adF (fun hb => ?_) (fun hb => ?_))) <;> simp only [zz, zO, yO, yU, beq_eq_false_iff_ne, bne_eq_false_iff_eq, zK, ym, ne_eq] at * <;> (try simp only [aaB] at *) <;> first | rfl | (exfalso; omega)
 ·rw [if_neg h0]
  refine uF (by simp only [beq_eq_false_iff_ne]; omega) ?_
  by_cases c : -12800 ≤ lb p k ∧ lb p k ≤ 12700
  ·rw [zm c]
   exact uF (zk zb) (uF (zk zb) rfl)
  ·rw [zk c]
   (repeat' (first | refine uV ?_ | refine uB ?_ | refine abO ?_ | refine aJZ ?_ | refine akS ?_ | refine aqY (fun hb => ?_) (fun hb => ?_) | refine adF (fun hb => ?_) (fun hb => ?_))) <;> simp only [zz, zO, yO, yU, beq_eq_false_iff_ne, bne_eq_false_iff_eq, zK, ym, ne_eq] at * <;> (try simp only [aaB] at *) <;> first | rfl | (exfalso; omega)
theorem aQ9 (p : PtT) (j : Bool × Unit) (hd : p.2.1.length ≤ 1000000) : acD (fun i => (aiD p j i).toO) (0, ()) = some (p.2.1.all dvB && lbB p, ()) := by
 refine (aeN (n := p.2.1.length) (bad := (false, ())) (good := (lbB p, ())) (fun k => ((k : Int), ())) (fun k => dvB (p.2.1.getD k 0)) (fun k hk _ => ?_) (fun _ => ?_)).trans ?_
 ·unfold aiD
  refine uT (zm (by rw [aaB]; omega)) (uN (abJ zb (by rw [aaB]; omega)) ?_)
  simp only [aNt 0 0 hk, abC (show k ≤ 1000000 by omega)]
  unfold dvB
  generalize p.2.1.getD k 0 = v
  by_cases c : 0 ≤ v ∧ v ≤ 10000
  ·rw [zm c]
   exact uF (zk zb) (uF (zk zb) rfl)
  ·rw [zk c]
   (repeat' (first | refine uV ?_ | refine uB ?_ | refine abO ?_ | refine aJZ ?_ | refine akS ?_ | refine aqY (fun hb => ?_) (fun hb => ?_) | refine adF (fun hb => ?_) (fun hb => ?_))) <;> simp only [zz, zO, yO, yU, beq_eq_false_iff_ne, bne_eq_false_iff_eq, zK, ym, ne_eq] at * <;> (try simp only [aaB] at *) <;> first | rfl | (exfalso; omega)
 ·unfold aiD
  refine uF (zk (by rw [aaB]; omega)) (uO (0, ()) rfl ?_)
  refine (aeN (n := 3) (bad := .inr (false, ())) (good := .inr (true, ())) (fun k => ((k : Int), ())) (lbq p) (fun k hk _ => aQ8 p j _ k hk) (fun _ => rfl)).trans ?_
  rw [aNo]
  cases lbB p <;> rfl
 ·rw [aNw]
  cases p.2.1.all dvB <;> rfl
theorem azW (p : PtT) (y) (h : akM (p, ()) = some y) : (anU p).toO = some y := by
 obtain ⟨⟨h1, h2, h3⟩, rfl⟩ := ae5 h
 dsimp only at h1 h2 h3 ⊢
 unfold anU
 refine aNq _ (aOX h1) ?_
 unfold ptB
 cases hn : nmB p.1
 ·refine adF (fun _ => ar5 ?_) (fun h => by cases h)
  simp
 ·refine adF (fun h => by cases h) (fun _ => ?_)
  by_cases c : 1 ≤ p.2.1.length ∧ p.2.1.length ≤ 4
  ·refine adF (fun hb => ?_) (fun _ => adF (fun hb => ?_) (fun _ => ?_))
   ·have := of_decide_eq_true hb; rw [aaB] at this; omega
   ·have := of_decide_eq_true hb; rw [aaB] at this; omega
   ·refine abO (abO (abO (akS (uO (0, ()) rfl ((aQ9 p _ h2).trans ?_)))))
    rw [zm c]; simp
  ·rw [zk c]
   refine adF (fun hb => rfl) (fun hb => adF (fun hb => rfl) (fun hc => ?_))
   have hb := of_decide_eq_false hb; have hc := of_decide_eq_false hc
   rw [aaB] at hb hc; omega
theorem aOW {p : PtT} (h : shP p) : akM (p, ()) = some (decide (1 ≤ p.2.1.length ∧ p.2.1.length ≤ 4) && ptB p p.2.1.length, ()) := if_pos h
theorem aPV (p : PtT) (n : Int) (j : Bool × Unit) (hn : (p.2.1.length : Int) = n) (hd : p.2.1.length ≤ 1000000) : acD (fun i => (aj6 p n j i).toO) (0, ()) = some (p.2.1.all dvB && (lbq p 1 && lbq p 2), ()) := by
 refine (aeN (n := p.2.1.length) (bad := (false, ())) (good := (lbq p 1 && lbq p 2, ())) (fun k => ((k : Int), ())) (fun k => dvB (p.2.1.getD k 0)) (fun k hk _ => ?_) (fun _ => ?_)).trans ?_
 ·unfold aj6
  have hi : inb (k : Int) (len p.2.1) := abJ zb (by rw [aaB]; omega)
  refine uT (zm zh) (uN hi ?_)
  simp only [aNt 0 0 hk, abC (show k ≤ 1000000 by omega)]
  unfold dvB
  generalize p.2.1.getD k 0 = v
  by_cases c : 0 ≤ v ∧ v ≤ 10000
  ·rw [zm c]
   exact uF (zk zb) (uN hi (uF (zk zb) rfl))
  ·rw [zk c]
   refine aqY (fun hb => rfl) (fun hb => uN hi (aqY (fun hb => rfl) (fun hc => ?_)))
   have hb := of_decide_eq_false hb; have hc := of_decide_eq_false hc
   exfalso; omega
 ·unfold aj6
  refine uF (zk zh) (uV ?_)
  have e1 : List.headD (List.tail p.2.2.1) 0 = lb p 1 := rfl
  have e2 : List.headD (List.tail (List.tail p.2.2.1)) 0 = lb p 2 := rfl
  simp only [e1, e2, lbq, if_neg (show ¬ ((1 : Nat) = 0) by decide), if_neg (show ¬ ((2 : Nat) = 0) by decide)]
  (repeat' (first | refine uV ?_ | refine uB ?_ | refine abO ?_ | refine aJZ ?_ | refine akS ?_ | refine aqY (fun hb => ?_) (fun hb => ?_) | refine adF (fun hb => ?_) (fun hb => ?_))) <;> simp only [zz, zO, yO, yU, beq_eq_false_iff_ne, bne_eq_false_iff_eq, zK, ym, ne_eq] at * <;> (try simp only [aaB] at *) <;> first | (show some _ = some _; grind) | simp_all
 ·rw [aNw]
  cases p.2.1.all dvB <;> rfl
theorem aBV (p : PtT) (n : Int) (y) (h : am4 (p, n, ()) = some y) : (aq4 p n).toO = some y := by
 obtain ⟨⟨⟨h1, h2, h3⟩, h4⟩, rfl⟩ := ae5 h
 dsimp only at h1 h2 h3 h4 ⊢
 have e0 : List.headD p.2.2.1 0 = lb p 0 := rfl
 have hl : lbB p = (decide (0 ≤ lb p 0 ∧ lb p 0 ≤ 10000) && (lbq p 1 && lbq p 2)) := by rw [← aNo]; simp [lbq, xF, Bool.and_assoc]
 unfold aq4
 refine aNq _ (aL7 h1) ?_
 unfold ptB
 cases hn : nmB p.1
 ·exact adF (fun _ => ar5 zf) (fun h => by cases h)
 ·refine adF (fun h => by cases h) (fun _ => ?_)
  by_cases c : (p.2.1.length : Int) = n
  ·refine adF (fun hb => ?_) (fun _ => abO ?_)
   ·rw [yU] at hb; rw [aaB] at hb; exact absurd c hb
   ·rw [zm (show p.2.1.length = n.toNat by omega), hl]
    simp only [e0]
    by_cases c2 : 0 ≤ lb p 0 ∧ lb p 0 ≤ 10000
    ·rw [zm c2]
     refine adF (fun hb => ?_) (fun _ => abO (adF (fun hb => ?_) (fun _ => ?_)))
     ·have := of_decide_eq_true hb; omega
     ·have := of_decide_eq_true hb; omega
     ·refine abO (abO (abO (akS (uO (0, ()) rfl ((aPV p n _ c h2).trans ?_)))))
      simp
    ·rw [zk c2]
     refine adF (fun hb => ar5 zf) (fun hb => abO (adF (fun hb => ar5 zf) (fun hc => ?_)))
     have hb := of_decide_eq_false hb; have hc := of_decide_eq_false hc
     exfalso; omega
  ·rw [zk (show ¬ p.2.1.length = n.toNat by omega)]
   refine adF (fun hb => ar5 zf) (fun hb => ?_)
   rw [bne_eq_false_iff_eq] at hb; rw [aaB] at hb; exact absurd hb c
theorem aRO {p : PtT} {n : Int} (h : shP p) (hn : 0 ≤ n) : am4 (p, n, ()) = some (ptB p n.toNat, ()) := if_pos ⟨h, hn⟩
theorem aQp (a b : List UInt8) : eqK (.s a) (.s b) = decide (a = b) := by
 cases h : eqK (.s a) (.s b)
 ·symm; rw [zO]; intro e; subst e
  have : (a == a) = false := h
  simp at this
 ·injection aIY h with e; rw [zm e]
section
variable {α : Type}
theorem axM (s : List UInt8) : ∀ m : List (List UInt8 × α), ayW KK.str (DK.s s) m = m.any fun x => decide (s = x.1)
 | [] => rfl
 | x :: r => by
  have ih := axM s r
  show (match eqK (DK.s s) (DK.s x.1) with | true => true | false => ayW KK.str (DK.s s) r) = _
  rw [aQp, List.any_cons, ← ih]
  cases decide (s = x.1) <;> rfl
theorem aDV (s : List UInt8) (v : α) : ∀ m : List (List UInt8 × α), ayW KK.str (DK.s s) m = false → aF4 KK.str (DK.s s) v m = m ++ [(s, v)]
 | [], _ => rfl
 | x :: r, h => by
  have h : (match eqK (DK.s s) (DK.s x.1) with | true => true | false => ayW KK.str (DK.s s) r) = false := h
  show (match eqK (DK.s s) (DK.s x.1) with | true => (s, v) :: r | false => x :: aF4 KK.str (DK.s s) v r) = _
  cases hb : eqK (DK.s s) (DK.s x.1)
  ·rw [hb] at h; show x :: _ = _; rw [aDV s v r h]; rfl
  ·rw [hb] at h; cases h
theorem an3 (s : List UInt8) (d : α) : ∀ m : List (List UInt8 × α), apU KK.str d (DK.s s) m = match m.find? (fun x => decide (s = x.1)) with | some x => x.2 | none => d
 | [] => rfl
 | x :: r => by
  have ih := an3 s d r
  show (match eqK (DK.s s) (DK.s x.1) with | true => x.2 | false => apU KK.str d (DK.s s) r) = _
  rw [aQp, List.find?_cons]
  cases decide (s = x.1) with
  | true => rfl
  | false => exact ih
end
def dG {α : Type} (l : List PtT) (f : Nat → α) (k : Nat) : List (List UInt8 × α) := (List.range k).map fun i => ((l.getD i p0).1, f i)
def nmd (l : List PtT) (k : Nat) (s : List UInt8) : Bool := (List.range k).any fun i => decide (s = (l.getD i p0).1)
theorem avY {α : Type} (l : List PtT) (f : Nat → α) (k : Nat) (s : List UInt8) : ayW KK.str (DK.s s) (dG l f k) = nmd l k s := by
 rw [axM, dG, List.any_map]; rfl
theorem aJd {α : Type} (l : List PtT) (f : Nat → α) (k : Nat) (h : nmd l k (l.getD k p0).1 = false) : aF4 KK.str (DK.s (l.getD k p0).1) (f k) (dG l f k) = dG l f (k + 1) := by
 rw [aDV _ _ _ ((avY l f k _).trans h), dG, dG, xF, xB]; rfl
theorem aOO (l : List PtT) (k : Nat) (s : List UInt8) (h : nmd l k s = true) : apU KK.str false (DK.s s) (dG l (fun _ => true) k) = true := by
 rw [an3]
 have hs : ayW KK.str (DK.s s) (dG l (fun _ => true) k) = true := (avY l _ k s).trans h
 rw [axM, wJ] at hs
 obtain ⟨x, hx, hd⟩ := hs
 cases hf : (dG l (fun _ => true) k).find? (fun x => decide (s = x.1)) with
 | none => exact absurd hd (List.find?_eq_none.1 hf x hx)
 | some z =>
  have := List.mem_of_find?_eq_some hf
  obtain ⟨i, _, rfl⟩ := zH.1 this
  rfl
def okK (l : List PtT) (k : Nat) : Bool := ptB (l.getD k p0) (d0 l) && !nmd l k (l.getD k p0).1
theorem aH0 (l : List PtT) : decide (l.map (·.1)).Nodup = (List.range l.length).all fun k => !nmd l k (l.getD k p0).1 := by
 rw [xR, zz, List.Nodup, List.pairwise_iff_getElem, yq]
 constructor
 ·intro h k hk
  have hk := yn.1 hk
  simp only [nmd, zK, List.any_eq_false, yn, zz]
  intro i hi
  have := h i k (by simpa using (show i < l.length by omega)) (by simpa using hk) hi
  simp only [List.getElem_map] at this
  simp only [zP, zx hk, zx (show i < l.length by omega), xm]
  exact fun e => this e.symm
 ·intro h i j hi hj hij
  simp only [zS] at hi hj
  have := h j (yn.2 hj)
  simp only [nmd, zK, List.any_eq_false, yn, zz] at this
  have := this i hij
  simp only [zP, zx hj, zx hi, xm] at this
  simp only [List.getElem_map]
  exact fun e => this e.symm
theorem aJz {n : Nat} (p q : Nat → Bool) : (List.range n).all (fun k => p k && q k) = ((List.range n).all p && (List.range n).all q) := by
 rw [xR]
 simp only [yq, zl]
 exact ⟨fun h => ⟨fun x hx => (h x hx).1, fun x hx => (h x hx).2⟩, fun h x hx => ⟨h.1 x hx, h.2 x hx⟩⟩
theorem arP (l : List PtT) : ah0 l = (decide (1 ≤ l.length ∧ l.length ≤ 40 ∧ 1 ≤ d0 l ∧ d0 l ≤ 4) && (List.range l.length).all (okK l)) := by
 unfold ah0
 rw [aH0, Bool.and_assoc, ← aqF l p0 (fun p => ptB p (d0 l)), ← aJz]; rfl
theorem ah1 {l : List PtT} (h : ag8 l) {k : Nat} (hk : k < l.length) : shP (l.getD k p0) := by
 rw [zP, zx hk]; exact h.2 _ (yC hk)
theorem ap7 {l : List PtT} {k : Nat} (h : k < l.length) : gP l (k : Int) = l.getD k p0 := aNt _ _ h
theorem aLB {l : List Int} (h : l.length = 3) : l3 l = l := by
 match l, h with
 | [a, b, c], _ => rfl
theorem aRm {p : PtT} (h : shP p) : (p.1, p.2.1, l3 p.2.2.1, ()) = p := by rw [aLB h.2.2]
theorem aL6 (l : List PtT) (j : Bool × Unit) (k : Nat) (y : Bool × Unit) (hk : k < l.length) (hl : l.length ≤ 1000000) : acD (fun i => (agI l j ((k : Int), ()) y i).toO) (0, ()) = some (if nmd l k (l.getD k p0).1 then .inr (false, ()) else .inl (((k + 1 : Nat) : Int), ())) := by
 refine (aeN (n := k) (bad := .inr (false, ())) (good := .inl (((k + 1 : Nat) : Int), ())) (fun i => ((i : Int), ())) (fun i => !decide ((l.getD k p0).1 = (l.getD i p0).1)) (fun i hi _ => ?_) (fun _ => ?_)).trans ?_
 ·unfold agI
  refine uT (zm zh) (uN (abJ zh (by rw [aaB]; dsimp only; omega)) (uN (abJ zh (by rw [aaB]; dsimp only; omega)) ?_))
  simp only [ap7 hk, ap7 (show i < l.length by omega), abC (show i ≤ 1000000 by omega)]
  by_cases c : (l.getD k p0).1 = (l.getD i p0).1
  ·rw [zm c]; exact uT (by rw [c]; simp) rfl
  ·rw [zk c]; exact uF (by simpa using fun e => c e.symm) rfl
 ·unfold agI
  refine uF (zk zh) ?_
  simp only [abC (show k ≤ 1000000 by omega)]; rfl
 ·unfold nmd
  rw [show (List.range k).all (fun i => !decide ((l.getD k p0).1 = (l.getD i p0).1)) = !((List.range k).any fun i => decide ((l.getD k p0).1 = (l.getD i p0).1)) by rw [List.not_any_eq_all_not]]
  cases (List.range k).any fun i => decide ((l.getD k p0).1 = (l.getD i p0).1) <;> rfl
theorem aw5 (l : List PtT) (y) (h : af7 (l, ()) = some y) : (ak9 l).toO = some y := by
 obtain ⟨hs, rfl⟩ := ae5 h
 dsimp only at hs ⊢
 have hl := hs.1
 rw [arP]
 unfold ak9
 refine adF (fun hb => ar5 ?_) (fun hb => adF (fun hc => ar5 ?_) (fun hc => ?_))
 ·have hb := of_decide_eq_true hb; rw [aaB] at hb; rw [zk zb]; rfl
 ·have hc := of_decide_eq_true hc; rw [aaB] at hc; rw [zk zb]; rfl
 have hb := of_decide_eq_false hb; have hc := of_decide_eq_false hc
 rw [aaB] at hb hc
 have e0 : gP l 0 = l.getD 0 p0 := ap7 (show 0 < l.length by omega)
 have hn : asT Int 0 ≤ 0 ∧ 0 < len l := ⟨by simp [asT], by rw [aaB]; omega⟩
 have ed : len (gP l 0).2.1 = (d0 l : Int) := by rw [e0]; rfl
 simp only [ed]
 refine aAm hn (adF (fun hd => ar5 ?_) (fun hd => aAm hn (adF (fun he => ar5 ?_) (fun he => ?_))))
 ·have hd := of_decide_eq_true hd; rw [zk zb]; rfl
 ·have he := of_decide_eq_true he; rw [zk zb]; rfl
 have hd := of_decide_eq_false hd; have he := of_decide_eq_false he
 rw [zm zb]
 refine abO (abO (abO (akS (uO (0, ()) rfl ?_))))
 refine (aeN (n := l.length) (bad := (false, ())) (good := (true, ())) (fun i => ((i : Int), ())) (okK l) (fun k hk _ => ?_) (fun _ => uF (zk (by rw [aaB]; omega)) rfl)).trans (by cases (List.range l.length).all (okK l) <;> rfl)
 unfold aoW
 refine uT (zm (by rw [aaB]; omega)) (uN (abJ zb (by rw [aaB]; omega)) (uN hn ?_))
 simp only [ed, ap7 hk]
 refine uC _ (aRO (ah1 hs hk) zb) ?_
 unfold okK
 rw [zn]
 cases hp : ptB (l.getD k p0) (d0 l)
 ·exact uT rfl rfl
 ·refine uF rfl (uO (0, ()) rfl ((aL6 l _ k _ hk hl).trans ?_))
  cases nmd l k (l.getD k p0).1 <;> rfl
theorem azY (l : List PtT) (y) (h : ahT (l, ()) = some y) : (anW l).toO = some y := by
 obtain ⟨hs, rfl⟩ := ae5 h
 dsimp only at hs ⊢
 have hl := hs.1
 rw [arP]
 unfold anW
 refine adF (fun hb => ar5 ?_) (fun hb => adF (fun hc => ar5 ?_) (fun hc => ?_))
 ·have hb := of_decide_eq_true hb; rw [aaB] at hb; rw [zk zb]; rfl
 ·have hc := of_decide_eq_true hc; rw [aaB] at hc; rw [zk zb]; rfl
 have hb := of_decide_eq_false hb; have hc := of_decide_eq_false hc
 rw [aaB] at hb hc
 have e0 : gP l 0 = l.getD 0 p0 := ap7 (show 0 < l.length by omega)
 have hn : asT Int 0 ≤ 0 ∧ 0 < len l := ⟨by simp [asT], by rw [aaB]; omega⟩
 refine abO (abO (abO (akS (uO (0, [], ()) rfl ?_))))
 refine (aeN (n := l.length) (bad := (310, ())) (good := (0, ())) (fun i => ((i : Int), dG l (fun _ => true) i, ())) (fun k => decide (1 ≤ d0 l ∧ d0 l ≤ 4) && okK l k) (fun k hk _ => ?_) (fun _ => uF (zk (by rw [aaB]; dsimp only; omega)) rfl)).trans ?_
 ·unfold arO
  refine uT (zm (by rw [aaB]; dsimp only; omega)) (uN (abJ zh (by rw [aaB]; dsimp only; omega)) ?_)
  have hp := ah1 hs hk
  simp only [kP, e0, ap7 hk, abC (show k ≤ 1000000 by omega), aRm hp, avY]
  refine uC _ (aOW hp) ?_
  unfold okK
  by_cases c1 : (l.getD k p0).2.1.length = d0 l
  ·rw [c1]
   cases hq : decide (1 ≤ d0 l ∧ d0 l ≤ 4) && ptB (l.getD k p0) (d0 l)
   ·refine uT rfl ?_
    rw [← Bool.and_assoc, hq]; rfl
   ·refine uF rfl (uN hn (uF ?_ ?_))
    ·rw [aaB, aaB, bne_eq_false_iff_eq]; exact congrArg _ c1
    ·rw [← Bool.and_assoc, hq]
     cases hm : nmd l k (l.getD k p0).1
     ·refine uF rfl (uV (uB (uB (uV (uV ?_)))))
      have := aJd l (fun _ => true) k hm
      rw [this]; rfl
     ·exact uT rfl (uT (aOO l k _ hm) rfl)
  ·have hq : ptB (l.getD k p0) (d0 l) = false := by unfold ptB; rw [zk c1]; simp
   rw [hq]
   refine aqY (fun _ => by simp [aaM]) (fun _ => uN hn (uT ?_ (by simp [aaM])))
   rw [aaB, aaB, yU]
   exact fun e => c1 (by exact_mod_cast e)
 ·rw [show (fun k => decide (1 ≤ d0 l ∧ d0 l ≤ 4) && okK l k) = (fun k => (fun _ => decide (1 ≤ d0 l ∧ d0 l ≤ 4)) k && okK l k) from rfl, aJz]
  by_cases c : 1 ≤ d0 l ∧ d0 l ≤ 4
  ·rw [zm c, zm zb]; simp; split <;> rfl
  ·rw [zk c, zk zb]
   rw [show (List.range l.length).all (fun _ => false) = false by
    rw [List.all_eq_false]; exact ⟨0, yn.2 zb, by simp⟩]
   rfl
theorem aJQ {l : List PtT} (h : ag8 l) : ahT (l, ()) = some (if ah0 l then 0 else 310, ()) := if_pos h
theorem aJO {l : List PtT} (h : ag8 l) : af7 (l, ()) = some (ah0 l, ()) := if_pos h
theorem at7 (a b : List PtT) (y) (h : ae1 (a, b, ()) = some y) : (aoZ a b).toO = some y := by
 obtain ⟨⟨h1, h2⟩, rfl⟩ := ae5 h
 dsimp only at h1 h2 ⊢
 refine uC _ (aJQ h1) ?_
 cases ah0 a
 ·exact uT rfl rfl
 ·refine uF rfl (uC _ (aJQ h2) ?_)
  cases ah0 b <;> rfl
theorem aBn {a b : List PtT} (h1 : ag8 a) (h2 : ag8 b) : ae1 (a, b, ()) = some (!(ah0 a && ah0 b), ()) := if_pos ⟨h1, h2⟩
theorem akD {n : Nat} {q : Nat → Bool} {k : Nat} (h : (List.range n).find? q = some k) : k < n ∧ q k = true := ⟨yn.1 (List.mem_of_find?_eq_some h), List.find?_some h⟩
theorem avN (q : Nat → Bool) : ∀ n : Nat, (∀ i j, i < j → j < n → q i = true → q j = false) → (List.range n).filter q = match (List.range n).find? q with | some k => [k] | none => []
 | 0, _ => rfl
 | n + 1, h => by
  have ih := avN q n fun i j h1 h2 => h i j h1 zb
  rw [xF, List.filter_append, List.find?_append, ih]
  cases hf : (List.range n).find? q with
  | some k =>
   have := h k n (akD hf).1 zb (akD hf).2
   simp [this]
  | none => cases hq : q n <;> simp [hq]
theorem aCr (s : List UInt8) (b : List PtT) : nmd b b.length s = (aCC s b).isSome := by
 unfold nmd aCC
 rw [xR, wJ, List.find?_isSome]
theorem aD0 (s : List UInt8) (b : List PtT) (d : Int) : apU KK.str d (DK.s s) (dG b (fun i => (i : Int)) b.length) = match aCC s b with | some k => (k : Int) | none => d := by
 rw [an3, dG, List.find?_map]
 have : List.find? ((fun x : List UInt8 × Int => decide (s = x.1)) ∘ fun i : Nat => ((b.getD i p0).1, (i : Int))) (List.range b.length) = aCC s b := rfl
 rw [this]
 cases aCC s b <;> rfl
theorem aCh {b : List PtT} (h : ah0 b = true) {k : Nat} (hk : k < b.length) : nmd b k (b.getD k p0).1 = false := by
 rw [arP, zl, yq] at h
 have := h.2 k (yn.2 hk)
 unfold okK at this
 rw [zl, zK] at this
 exact this.2
theorem ae9 {b : List PtT} (h : ah0 b = true) : b.length ≤ 40 := by
 rw [arP, zl, zz] at h
 exact h.1.2.1
def one (a b : List PtT) (i : Nat) : List (List Int) := match aCC (a.getD i p0).1 b with | some k => [ai5 (i, k)] | none => []
def acc (a b : List PtT) (n : Nat) : List (List Int) := (prK a b n).map ai5
theorem ayL (a b : List PtT) (n : Nat) : acc a b (n + 1) = acc a b n ++ one a b n := by
 unfold acc prK one
 rw [xF, List.filterMap_append, xB]
 congr 1
 simp only [List.filterMap_cons, List.filterMap_nil]
 cases aCC (a.getD n p0).1 b <;> rfl
theorem ayM (a b : List PtT) (n : Nat) : (acc a b n).length ≤ n := by
 induction n with
 | zero => exact zj _
 | succ n ih =>
  rw [ayL, zJ]
  have : (one a b n).length ≤ 1 := by unfold one; split <;> simp
  omega
def mt (a b : List PtT) (i k : Nat) : List (List Int) := ((List.range k).filter fun j => decide ((a.getD i p0).1 = (b.getD j p0).1)).map fun j => ai5 (i, j)
theorem aH7 (a b : List PtT) (i k : Nat) : mt a b i (k + 1) = mt a b i k ++ if (a.getD i p0).1 = (b.getD k p0).1 then [ai5 (i, k)] else [] := by
 unfold mt
 rw [xF, List.filter_append, xB]
 congr 1
 simp only [List.filter_cons, List.filter_nil]
 by_cases h : (a.getD i p0).1 = (b.getD k p0).1
 ·rw [if_pos h, zm h]; rfl
 ·rw [if_neg h, zk h]; rfl
theorem aNm (a b : List PtT) (i k : Nat) : (mt a b i k).length ≤ k := by
 unfold mt; rw [zS]; exact zt (List.length_filter_le _ _) zf
theorem aP5 {a b : List PtT} (h : ah0 b = true) (i : Nat) : mt a b i b.length = one a b i := by
 unfold mt one aCC
 rw [avN]
 ·cases (List.range b.length).find? fun k => decide ((a.getD i p0).1 = (b.getD k p0).1) <;> rfl
 ·intro u v h1 h2 h3
  have := aCh h h2
  rw [zO]
  intro e
  rw [zz] at h3
  have hn : nmd b v (b.getD v p0).1 = true := wJ.2 ⟨u, yn.2 h1, by rw [← e, h3]; simp⟩
  rw [this] at hn; cases hn
theorem aCQ {α : Type} (l m : List α) (hm : m ≠ []) : (l ++ m).isEmpty = false := by cases l <;> cases m <;> simp_all
theorem aRd {a b : List PtT} (y y1 : Bool × Unit) (i : Nat) (l : List (List Int)) (u : Bool) (hi : i < a.length) (ha : a.length ≤ 40) (hb : b.length ≤ 40) : acD (fun x => (agG a b y y1 ((i : Int), u, l, ()) x).toO) (0, true, [], ()) = some (.inl (((i + 1 : Nat) : Int), (mt a b i b.length).isEmpty, mt a b i b.length, ())) := by
 refine acO (n := b.length) (fun k => ((k : Int), (mt a b i k).isEmpty, mt a b i k, ())) (fun k hk => ?_) ?_
 ·have ni : inb (i : Int) (len a) := abJ zb (by rw [aaB]; omega)
  have nk : inb (k : Int) (len b) := abJ zb (by rw [aaB]; omega)
  have hl := aNm a b i k
  have ck : decide ((k : Int) < len b) = true := zm (by rw [aaB]; omega)
  rw [aH7]
  unfold agG
  simp only [ap7 hi, ap7 hk, abC (show k ≤ 1000000 by omega), abC (show i ≤ 1000000 by omega), zv]
  generalize mt a b i k = m at hl
  by_cases c : (a.getD i p0).1 = (b.getD k p0).1
  ·rw [if_pos c, aCQ _ _ zf]
   cases m with
   | nil =>
    refine uT rfl (uT ck (uN ni (uN nk (uT (by rw [c]; simp) ?_))))
    repeat (first | refine uV ?_ | refine uB ?_ | refine uN zb ?_ | refine uN zf ?_)
    rfl
   | cons x m =>
    refine uF rfl (uT ck (uN ni (uN nk (uT (by rw [c]; simp) ?_))))
    simp only [yh] at hl ⊢
    repeat (first | refine uV ?_ | refine uB ?_ | refine uN zb ?_ | refine uN zf ?_)
    rfl
  ·rw [if_neg c, yK]
   have c' : ((a.getD i p0).1 == (b.getD k p0).1) = false := by simpa using c
   cases m with
   | nil => exact uT rfl (uT ck (uN ni (uN nk (uF c' rfl))))
   | cons x m => exact uF rfl (uT ck (uN ni (uN nk (uF c' rfl))))
 ·have ck : decide ((b.length : Int) < len b) = false := zk (by rw [aaB]; omega)
  unfold agG
  simp only [abC (show i ≤ 1000000 by omega)]
  cases mt a b i b.length with
  | nil => exact uT rfl (uF ck rfl)
  | cons x m => exact uF rfl (uF ck rfl)
theorem aRc {a b : List PtT} (y y1 : Bool × Unit) (i : Nat) (l l0 : List (List Int)) (u : Bool) (hi : i < a.length) (ha : a.length ≤ 40) (hb : b.length ≤ 40) (h0 : l0.length ≤ 40) (hne : l0 ≠ []) : acD (fun x => (aeT a b y y1 ((i : Int), u, l, ()) x).toO) (0, l0, ()) = some (.inl (((i + 1 : Nat) : Int), false, l0 ++ mt a b i b.length, ())) := by
 have := acO (R := fun x => (aeT a b y y1 ((i : Int), u, l, ()) x).toO) (n := b.length) (good := .inl (((i + 1 : Nat) : Int), false, l0 ++ mt a b i b.length, ())) (fun k => ((k : Int), l0 ++ mt a b i k, ())) (fun k hk => ?_) ?_
 ·simpa [mt] using this
 ·have ni : inb (i : Int) (len a) := abJ zb (by rw [aaB]; omega)
  have nk : inb (k : Int) (len b) := abJ zb (by rw [aaB]; omega)
  have hl := aNm a b i k
  have ck : decide ((k : Int) < len b) = true := zm (by rw [aaB]; omega)
  rw [aH7, ← xa]
  unfold aeT
  simp only [ap7 hi, ap7 hk, abC (show k ≤ 1000000 by omega), abC (show i ≤ 1000000 by omega), zv]
  have hm : (l0 ++ mt a b i k).length ≤ 1000 := by rw [zJ]; omega
  generalize l0 ++ mt a b i k = m at hm
  by_cases c : (a.getD i p0).1 = (b.getD k p0).1
  ·rw [if_pos c]
   refine uT ck (uN ni (uN nk (uT (by rw [c]; simp) ?_)))
   repeat (first | refine uV ?_ | refine uB ?_ | refine uN zb ?_ | refine uN zf ?_)
   rfl
  ·rw [if_neg c, yK]
   exact uT ck (uN ni (uN nk (uF (by simpa using c) rfl)))
 ·unfold aeT
  simp only [abC (show i ≤ 1000000 by omega)]
  exact uF (zk (by rw [aaB]; omega)) rfl
theorem aw2 (a b : List PtT) (y) (h : af6 (a, b, ()) = some y) : (aq2 a b).toO = some y := by
 obtain ⟨⟨h1, h2⟩, rfl⟩ := ae5 h
 dsimp only at h1 h2 ⊢
 refine uC _ (aJO h1) ?_
 cases c1 : ah0 a
 ·exact uT rfl rfl
 refine uF rfl (uC _ (aJO h2) ?_)
 cases c2 : ah0 b
 ·exact uT rfl rfl
 have la := ae9 c1
 have lb := ae9 c2
 refine uF rfl (uO (0, true, [], ()) rfl ?_)
 refine acO (n := a.length) (fun i => ((i : Int), (acc a b i).isEmpty, acc a b i, ())) (fun i hi => ?_) ?_
 ·have ci : decide ((i : Int) < len a) = true := zm (by rw [aaB]; omega)
  have hal := ayM a b i
  rw [ayL, ← aP5 c2]
  unfold ajD
  generalize hm : acc a b i = m at hal
  cases m with
  | nil => exact uT rfl (uT ci (uO (0, true, [], ()) rfl (aRd _ _ i _ _ hi la lb)))
  | cons x m =>
   refine uF rfl (uT ci (uO (0, x :: m, ()) rfl ?_))
   exact aRc _ _ i _ _ _ hi la lb zb zf
 ·have ci : decide ((a.length : Int) < len a) = false := zk (by rw [aaB]; omega)
  unfold ajD
  rw [show (prs a b).map ai5 = acc a b a.length from rfl]
  generalize acc a b a.length = m
  cases m with
  | nil => exact uT rfl (uF ci rfl)
  | cons x m => exact uF rfl (uF ci (by simp [aaM]))
theorem aRo {a b : List PtT} (y : Bool × Unit) (n : Int) (ha : a.length ≤ 40) : acD (fun x => (ah6 a b y (n, dG b (fun i => (i : Int)) b.length, ()) x).toO) (0, true, [], ()) = some (.inr ((prs a b).map ai5, 0, ())) := by
 refine acO (n := a.length) (fun i => ((i : Int), (acc a b i).isEmpty, acc a b i, ())) (fun i hi => ?_) ?_
 ·have ni : inb (i : Int) (len a) := abJ zb (by rw [aaB]; omega)
  have ci : decide ((i : Int) < len a) = true := zm (by rw [aaB]; omega)
  have hal := ayM a b i
  rw [ayL]
  unfold ah6
  simp only [kP, ap7 hi, abC (show i ≤ 1000000 by omega), zv, avY, aCr, aD0]
  unfold one
  generalize acc a b i = m at hal
  cases hx : aCC (a.getD i p0).1 b with
  | some k =>
   rw [aCQ _ _ zf]
   cases m with
   | nil =>
    refine uT rfl (uT ci (uN ni (uT rfl ?_)))
    repeat (first | refine uV ?_ | refine uB ?_ | refine uN zb ?_ | refine uN zf ?_)
    rfl
   | cons x m =>
    refine uF rfl (uT ci (uN ni (uT rfl ?_)))
    simp only [yh] at hal ⊢
    repeat (first | refine uV ?_ | refine uB ?_ | refine uN zb ?_ | refine uN zf ?_)
    rfl
  | none =>
   rw [yK]
   cases m with
   | nil => exact uT rfl (uT ci (uN ni (uF rfl rfl)))
   | cons x m => exact uF rfl (uT ci (uN ni (uF rfl rfl)))
 ·have ci : decide ((a.length : Int) < len a) = false := zk (by rw [aaB]; omega)
  unfold ah6
  rw [show (prs a b).map ai5 = acc a b a.length from rfl]
  generalize acc a b a.length = m
  cases m with
  | nil => exact uT rfl (uF ci rfl)
  | cons x m => exact uF rfl (uF ci (by simp [aaM]))
theorem azU (a b : List PtT) (y) (h : aeL (a, b, ()) = some y) : (au2 a b).toO = some y := by
 obtain ⟨⟨h1, h2⟩, rfl⟩ := ae5 h
 dsimp only at h1 h2 ⊢
 refine uC _ (aBn h1 h2) ?_
 cases c1 : ah0 a
 ·exact uT rfl rfl
 cases c2 : ah0 b
 ·exact uT rfl rfl
 have la := ae9 c1
 have lb := ae9 c2
 refine uF rfl (uV (uV (uV (uV (uO (0, [], ()) rfl ?_)))))
 refine acO (n := b.length) (fun i => ((i : Int), dG b (fun i => (i : Int)) i, ())) (fun i hi => ?_) ?_
 ·unfold alC
  refine uT (zm (by rw [aaB]; dsimp only; omega)) (uN (abJ zh (by rw [aaB]; dsimp only; omega)) ?_)
  simp only [kP, ap7 hi, abC (show i ≤ 1000000 by omega), aJd b (fun i => (i : Int)) i (aCh c2 hi)]
  rfl
 ·unfold alC
  refine uF (zk (by rw [aaB]; dsimp only; omega)) (uO (0, true, [], ()) rfl ?_)
  exact aRo _ _ la
theorem aoP {a b : List PtT} (h1 : ag8 a) (h2 : ag8 b) : aeL (a, b, ()) = some (if ah0 a && ah0 b then ((prs a b).map ai5, 0, ()) else ([], 310, ())) := if_pos ⟨h1, h2⟩
end Go.Vs
