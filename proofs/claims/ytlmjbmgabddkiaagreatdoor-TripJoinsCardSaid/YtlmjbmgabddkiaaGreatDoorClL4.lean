/-
  Trees of what the functions compute, and their laws. Own work; no condition.
-/
import Derived.Test.YtlmjbmgabddkiaaGreatDoorClL3
import Derived.Test.YtlmjbmgabddkiaaGreatDoorProg
import Derived.Lib.Fields
import Derived.Lib.SplitLaws
import Derived.Lib.SmallJoins
import Derived.KernelRfl
set_option linter.unusedVariables false
set_option linter.unusedSimpArgs false
set_option maxRecDepth 100000
namespace Go.Vs
open Go Go.Vg Go.Proofs
noncomputable section
def aNb : LTab := []
def aFN (n : Int) (d : Int) : TT tg :=
 .call (av2 (n, d, ())) afP fun y =>
 .ok (((y.1.1, y.1.2.1, ()), ()))
def aD3 : LTab := []
def amH (x : Int × Int × Unit) : TT tg :=
 .need (w64 (w64 (1 + w64 x.2.1) + 1) ≠ 0) <| .ite (decide (Int.tmod (w64 x.1) (w64 (w64 (1 + w64 x.2.1) + 1)) < 0))
 (.call (aa2 (w64 (0 - Int.tmod (w64 x.1) (w64 (w64 (1 + w64 x.2.1) + 1))), w64 (1 + w64 x.2.1), ())) af9 fun y =>
 .ok (((y.1.1, y.1.2.1, ()), ())))
 (.call (aa2 (Int.tmod (w64 x.1) (w64 (w64 (1 + w64 x.2.1) + 1)), w64 (1 + w64 x.2.1), ())) af9 fun y1 =>
 .ok (((y1.1.1, y1.1.2.1, ()), ())))
def aGX : LTab := [(8, 127, 30722, ⟨0, (Int) × (List UInt8) × (List UInt8) × Unit, .dat (.c 29 0) vU <| .dat (.c 18 4) tj <| .dat (.c 18 5) tj <| .nil, [4, 3, 2, 1], [29, 18, 3, 1, 0], 0⟩), (8, 2042, 31746, ⟨1, (Int) × Bool × (List vS) × Unit, .dat (.s 6) vU <| .appN (.c 18 6) 31 36 ua <| .nil, [4, 3, 2, 1], [29, 18, 3, 1, 0], 1⟩)]
def aiE (i : (Int) × Bool × (List vS) × Unit) (d : Int × Int × Int × uk × List uk × Unit) (y1 : vS × Unit) (j : Int × List UInt8 × List UInt8 × Unit) (y : vS × Unit) : TT tf :=
 .ite (len i.2.2.1 == 0)
 (.need ((List.length i.2.2.1 + 1) * 32 ≤ 140737488355328) <| .ok (.inr (((w64 d.1, Int.tmod (w64 d.2.1) (w64 (w64 d.1 + 1)), (y1.1.1, y1.1.2.1, ()), (j.2.1, j.2.2.1, ()), List.take (List.length i.2.2.1 + 1) (List.take (List.length i.2.2.1) i.2.2.1 ++ [(y.1.1, y.1.2.1, ())]), ()), ()))))
 (.ok (.inr (((w64 d.1, Int.tmod (w64 d.2.1) (w64 (w64 d.1 + 1)), (y1.1.1, y1.1.2.1, ()), (j.2.1, j.2.2.1, ()), List.take (List.length i.2.2.1) i.2.2.1, ()), ()))))
def as8 (d : Int × Int × Int × uk × List uk × Unit) (y : vS × Unit) (y1 : vS × Unit) (j : Int × List UInt8 × List UInt8 × Unit) (i : (Int) × Bool × (List vS) × Unit) : TT tf :=
 .ite (i.2.1)
 (.ite (decide (i.1 < len d.2.2.2.2.1))
  (.ite (decide (i.1 < 4))
   (.need (inb i.1 (len d.2.2.2.2.1)) <| .call (ae2 (gi d.2.2.2.2.1 i.1 (0, 0, ()), ())) af9 fun y5 =>
    .need (1 * 32 ≤ 140737488355328) <| .tt <| .lt (w64 (i.1 + 1) : Int) fun z6 => .lt ([(y5.1.1, y5.1.2.1, ())] : List vS) fun z7 => .vA (vD z6 <| tk ∧ ug ∧ ud ∧ ub ∧ True) <| .vA (vz (vI 36 z7) <| vz (vN 83 j.1) <| vz (vO 39 (w64 d.1 : Int) (Int.tmod (w64 d.2.1) (w64 (w64 d.1 + 1))) y1.1.1 y1.1.2.1 j.2.1 j.2.2.1 <| (vJ 31 0 1 true) ∧ True) <| vz (vH 36 y.1.1 y.1.2.1) <| vz (vO 39 (0 : Int) (0 : Int) (#[].toList : List UInt8) (#[].toList : List UInt8) (#[].toList : List UInt8) (#[].toList : List UInt8) <| True ∧ True) <| vz (vP 28 d.1 d.2.1 d.2.2.1 d.2.2.2.1.1 d.2.2.2.1.2.1 d.2.2.2.2.1) True) <| .ok (.inl ((z6, false, z7, ()))))
   (.need (1 * 32 ≤ 140737488355328) <| .ok (.inr (((w64 d.1, Int.tmod (w64 d.2.1) (w64 (w64 d.1 + 1)), (y1.1.1, y1.1.2.1, ()), (j.2.1, j.2.2.1, ()), [(y.1.1, y.1.2.1, ())], ()), ())))))
  (.need (1 * 32 ≤ 140737488355328) <| .ok (.inr (((w64 d.1, Int.tmod (w64 d.2.1) (w64 (w64 d.1 + 1)), (y1.1.1, y1.1.2.1, ()), (j.2.1, j.2.2.1, ()), [(y.1.1, y.1.2.1, ())], ()), ())))))
 (.ite (decide (i.1 < len d.2.2.2.2.1))
  (.ite (decide (i.1 < 4))
   (.need (inb i.1 (len d.2.2.2.2.1)) <| .call (ae2 (gi d.2.2.2.2.1 i.1 (0, 0, ()), ())) af9 fun y6 =>
    .need ((List.length i.2.2.1 + 1) * 32 ≤ 140737488355328) <| .tt <| .lt (w64 (i.1 + 1) : Int) fun z8 => .lt (List.take (List.length i.2.2.1) i.2.2.1 ++ [(y6.1.1, y6.1.2.1, ())] : List vS) fun z9 => .vA (vD z8 <| tk ∧ ug ∧ ud ∧ ub ∧ True) <| .need ((((36 : TypeId) = 36) ∧ ((z9 : List vS) = z9)) ∧ (true = true) ∧ (((83 : TypeId) = 83) ∧ (((j.1 : Int) = j.1) ∧ True)) ∧ (true = true) ∧ (((39 : TypeId) = 39) ∧ (((w64 d.1 : Int) = w64 d.1) ∧ (((Int.tmod (w64 d.2.1) (w64 (w64 d.1 + 1)) : Int) = Int.tmod (w64 d.2.1) (w64 (w64 d.1 + 1))) ∧ (((y1.1.1 : List UInt8) = y1.1.1) ∧ (((y1.1.2.1 : List UInt8) = y1.1.2.1) ∧ (((j.2.1 : List UInt8) = j.2.1) ∧ (((j.2.2.1 : List UInt8) = j.2.2.1) ∧ ((((31) = (31)) ∧ (((0) = (0)) ∧ ((List.length i.2.2.1 + 1 = List.length z9) ∧ ((true) = (true))))) ∧ True)))))))) ∧ (true = true) ∧ (((36 : TypeId) = 36) ∧ (((y.1.1 : List UInt8) = y.1.1) ∧ (((y.1.2.1 : List UInt8) = y.1.2.1) ∧ True))) ∧ (true = true) ∧ (((39 : TypeId) = 39) ∧ (((0 : Int) = 0) ∧ (((0 : Int) = 0) ∧ (((#[].toList : List UInt8) = #[].toList) ∧ (((#[].toList : List UInt8) = #[].toList) ∧ (((#[].toList : List UInt8) = #[].toList) ∧ (((#[].toList : List UInt8) = #[].toList) ∧ (True ∧ True)))))))) ∧ (true = true) ∧ (((28 : TypeId) = 28) ∧ (((d.1 : Int) = d.1) ∧ (((d.2.1 : Int) = d.2.1) ∧ (((d.2.2.1 : Int) = d.2.2.1) ∧ (((d.2.2.2.1.1 : Int) = d.2.2.2.1.1) ∧ (((d.2.2.2.1.2.1 : Int) = d.2.2.2.1.2.1) ∧ (((d.2.2.2.2.1 : List uk) = d.2.2.2.2.1) ∧ True))))))) ∧ (true = true) ∧ True) <| .ok (.inl ((z8, false, z9, ()))))
   (aiE i d y1 j y))
  (aiE i d y1 j y))
def as9 (d : Int × Int × Int × uk × List uk × Unit) (y : vS × Unit) (y1 : vS × Unit) (j : (Int) × (List UInt8) × (List UInt8) × Unit) : TT (uh × Unit) :=
 .loop 1 (.tt <| .vA (vD (0 : Int) <| tk ∧ ug ∧ ud ∧ ub ∧ True) <| .vA (vz (vN 83 j.1) <| vz (vO 39 (w64 d.1 : Int) (Int.tmod (w64 d.2.1) (w64 (w64 d.1 + 1))) y1.1.1 y1.1.2.1 j.2.1 j.2.2.1 <| True ∧ True) <| vz (vH 36 y.1.1 y.1.2.1) <| vz (vO 39 (0 : Int) (0 : Int) (#[].toList : List UInt8) (#[].toList : List UInt8) (#[].toList : List UInt8) (#[].toList : List UInt8) <| True ∧ True) <| vz (vP 28 d.1 d.2.1 d.2.2.1 d.2.2.2.1.1 d.2.2.2.1.2.1 d.2.2.2.2.1) True) <| .ok ((0, true, [], ()))) (as8 d y y1 j)
def apD (d : Int × Int × Int × uk × List uk × Unit) : TT (uh × Unit) :=
 .call (aa2 (0, 1, ())) af9 fun y =>
 .need (w64 (w64 d.1 + 1) ≠ 0) <| .ite (Int.tmod (w64 d.2.1) (w64 (w64 d.1 + 1)) == w64 d.1)
 (.ok (((w64 d.1, Int.tmod (w64 d.2.1) (w64 (w64 d.1 + 1)), (y.1.1, y.1.2.1, ()), (y.1.1, y.1.2.1, ()), [], ()), ())))
 (.call (aa2 (w64 d.2.2.1, 10000, ())) af9 fun y1 =>
 .join 0 (ι := (Int) × (List UInt8) × (List UInt8) × Unit) (.call (ae2 ((d.2.2.2.1.1, d.2.2.2.1.2.1, ()), ())) af9 fun y2 =>
 .tt <| .tt <| .call (abW ((y1.1.1, y1.1.2.1, ()), (y2.1.1, y2.1.2.1, ()), ())) afP fun y3 =>
 .tt <| .tt <| .ite (y3.2.1 != 0)
 (.call (aa2 (0, 1, ())) af9 fun y4 =>
 .tt <| .lt (y3.2.1 : Int) fun z => .lt (y4.1.1 : List UInt8) fun z1 => .lt (y4.1.2.1 : List UInt8) fun z2 => .vA (tk ∧ ug ∧ ud ∧ ub ∧ True) <| .vA (vz (vN 83 z) <| vz (vO 39 (w64 d.1 : Int) (Int.tmod (w64 d.2.1) (w64 (w64 d.1 + 1))) y1.1.1 y1.1.2.1 z1 z2 <| True ∧ True) <| vz (vH 36 y.1.1 y.1.2.1) <| vz (vO 39 (0 : Int) (0 : Int) (#[].toList : List UInt8) (#[].toList : List UInt8) (#[].toList : List UInt8) (#[].toList : List UInt8) <| True ∧ True) <| vz (vP 28 d.1 d.2.1 d.2.2.1 d.2.2.2.1.1 d.2.2.2.1.2.1 d.2.2.2.2.1) True) <| .ok (.inl ((z, z1, z2, ()))))
 (.tt <| .lt (y3.2.1 : Int) fun z3 => .lt (y3.1.1 : List UInt8) fun z4 => .lt (y3.1.2.1 : List UInt8) fun z5 => .vA (tk ∧ ug ∧ ud ∧ ub ∧ True) <| .vA (vz (vN 83 z3) <| vz (vO 39 (w64 d.1 : Int) (Int.tmod (w64 d.2.1) (w64 (w64 d.1 + 1))) y1.1.1 y1.1.2.1 z4 z5 <| True ∧ True) <| vz (vH 36 y.1.1 y.1.2.1) <| vz (vO 39 (0 : Int) (0 : Int) (#[].toList : List UInt8) (#[].toList : List UInt8) (#[].toList : List UInt8) (#[].toList : List UInt8) <| True ∧ True) <| vz (vP 28 d.1 d.2.1 d.2.2.1 d.2.2.2.1.1 d.2.2.2.1.2.1 d.2.2.2.2.1) True) <| .ok (.inl ((z3, z4, z5, ()))))) (as9 d y y1))
def aIQ : LTab := []
def aBi (v : List UInt8 × List UInt8 × Unit) (e : Int) : TT tg :=
 .ite (e != 0)
 (.bad)
 (.ok (((v.1, v.2.1, ()), ())))
def aGL : LTab := []
def aw5 (n : Int) : TT tg :=
 .call (aoT (n, 1, ())) afP fun y =>
 .call (ab4 (y.1, y.2.1, ())) af9 fun y1 =>
 .ok (((y1.1.1, y1.1.2.1, ()), ()))
def aGN : LTab := [(12, 58, 29696, ⟨0, (Int) × Unit, .dat (.s 39) vU <| .nil, [38, 37, 1], [26, 0], 0⟩), (12, 1018, 66560, ⟨1, (Int) × Unit, .dat (.s 105) vU <| .nil, [104, 103], [26, 0], 0⟩)]
def amD (t : Int × Int × vS × vS × List vS × Unit) (i : Int × Unit) (y1 : Int × Int × Unit) (i1 : (Int) × Unit) : TT (um ⊕ (um ⊕ ue)) :=
 .ite (decide (i1.1 < len t.2.2.2.2.1))
 (.need (inb i1.1 (len t.2.2.2.2.1)) <| .call (adS (((gi t.2.2.2.2.1 i1.1 ([], [], ())).1, (gi t.2.2.2.2.1 i1.1 ([], [], ())).2.1, ()), ())) Dd6 fun y3 =>
 .ite (y3.1 != 0)
 (.ok (.inr (.inr ((410, ())))))
 (.tt <| .lt (w64 (i1.1 + 1) : Int) fun z1 => .vA (vH z1 (len t.2.2.2.2.1) t.2.2.2.2.1) <| .vA (vz (vI 36 ([(t.2.2.1.1, t.2.2.1.2.1, ()), (t.2.2.2.1.1, t.2.2.2.1.2.1, ())] : List vS)) <| vz (vQ 39 t.1 t.2.1 t.2.2.1.1 t.2.2.1.2.1 t.2.2.2.1.1 t.2.2.2.1.2.1 t.2.2.2.2.1) True) <| .ok (.inl ((z1, ())))))
 (.ok (.inr (.inr ((0, ())))))
def acO (t : Int × Int × vS × vS × List vS × Unit) (i : (Int) × Unit) : TT (um ⊕ ue) :=
 .ite (decide (i.1 < (↑2 : Int)))
 (.need (inb i.1 (↑2 : Int)) <| .call (agY (((List.getD [(t.2.2.1.1, t.2.2.1.2.1, ()), (t.2.2.2.1.1, t.2.2.2.1.2.1, ())] (0 + Int.toNat i.1) ([], [], ())).1, (List.getD [(t.2.2.1.1, t.2.2.1.2.1, ()), (t.2.2.2.1.1, t.2.2.2.1.2.1, ())] (0 + Int.toNat i.1) ([], [], ())).2.1, ()), ())) aPR fun y =>
 .ite (y.2.1 != 0)
 (.ok (.inr ((410, ()))))
 (.ite (decide (y.1 < 0))
 (.ok (.inr ((410, ()))))
 (.tt <| .lt (w64 (i.1 + 1) : Int) fun z => .triv (((z : Int) = z) ∧ (((↑2 : Int) : Int) = (↑2 : Int)) ∧ (((26) = (26)) ∧ (((0) = (0)) ∧ (((2) = (2)) ∧ ((true) = (true))))) ∧ (((0) = (0)) ∧ (((0) = (0)) ∧ ((true) = (true)))) ∧ True) ⟨rfl, rfl, ⟨rfl, ⟨rfl, ⟨rfl, rfl⟩⟩⟩, ⟨rfl, ⟨rfl, rfl⟩⟩, trivial⟩ <| .vA (vz (vI 36 ([(t.2.2.1.1, t.2.2.1.2.1, ()), (t.2.2.2.1.1, t.2.2.2.1.2.1, ())] : List vS)) <| vz (vQ 39 t.1 t.2.1 t.2.2.1.1 t.2.2.1.2.1 t.2.2.2.1.1 t.2.2.2.1.2.1 t.2.2.2.2.1) True) <| .ok (.inl ((z, ()))))))
 (.call (ae4 ((t.2.2.2.1.1, t.2.2.2.1.2.1, ()), (t.2.2.1.1, t.2.2.1.2.1, ()), ())) aPR fun y1 =>
 .ite (y1.2.1 != 0)
 (.ok (.inr ((410, ()))))
 (.ite (decide (y1.1 > 0))
 (.ok (.inr ((410, ()))))
 (.ite (t.2.1 == t.1)
 (.call (agY ((t.2.2.1.1, t.2.2.1.2.1, ()), ())) aPR fun y2 =>
 .ite (len t.2.2.2.2.1 != 0)
 (.ok (.inr ((410, ()))))
 (.ite (y2.2.1 != 0)
 (.ok (.inr ((410, ()))))
 (.ite (y2.1 != 0)
 (.ok (.inr ((410, ()))))
 (.ok (.inr ((0, ())))))))
 (.ite (decide (len t.2.2.2.2.1 < 1))
 (.ok (.inr ((410, ()))))
 (.ite (decide (len t.2.2.2.2.1 > 4))
 (.ok (.inr ((410, ()))))
 (.loop 1 (.tt <| .vA (vH (0 : Int) (len t.2.2.2.2.1) t.2.2.2.2.1) <| .vA (vz (vI 36 ([(t.2.2.1.1, t.2.2.1.2.1, ()), (t.2.2.2.1.1, t.2.2.2.1.2.1, ())] : List vS)) <| vz (vQ 39 t.1 t.2.1 t.2.2.1.1 t.2.2.1.2.1 t.2.2.2.1.1 t.2.2.2.1.2.1 t.2.2.2.2.1) True) <| .ok ((0, ()))) (amD t i y1)))))))
def ao4 (t : Int × Int × vS × vS × List vS × Unit) : TT ue :=
 .ite (decide (t.1 < 0))
 (.ok ((410, ())))
 (.ite (decide (t.1 > 1000000))
 (.ok ((410, ())))
 (.ite (decide (t.2.1 < 0))
 (.ok ((410, ())))
 (.ite (decide (t.2.1 > t.1))
 (.ok ((410, ())))
 (.loop 0 (.tt <| .triv (((0 : Int) = 0) ∧ (((↑2 : Int) : Int) = (↑2 : Int)) ∧ (((26) = (26)) ∧ (((0) = (0)) ∧ (((2) = (2)) ∧ ((true) = (true))))) ∧ (((0) = (0)) ∧ (((0) = (0)) ∧ ((true) = (true)))) ∧ True) ⟨rfl, rfl, ⟨rfl, ⟨rfl, ⟨rfl, rfl⟩⟩⟩, ⟨rfl, ⟨rfl, rfl⟩⟩, trivial⟩ <| .vA (vz (vI 36 ([(t.2.2.1.1, t.2.2.1.2.1, ()), (t.2.2.2.1.1, t.2.2.2.1.2.1, ())] : List vS)) <| vz (vQ 39 t.1 t.2.1 t.2.2.1.1 t.2.2.1.2.1 t.2.2.2.1.1 t.2.2.2.1.2.1 t.2.2.2.2.1) True) <| .ok ((0, ()))) (acO t)))))
def aIT : LTab := []
def aj7 (b : Int × Int × vS × vS × List vS × Unit) (a : Int × Int × vS × vS × List vS × Unit) (y2 : uP × Unit) : TT (uh × Int × Unit) :=
 .need (List.length b.2.2.2.2.1 * 32 ≤ 140737488355328) <| .ite (decide (w64 (w64 (a.1 - a.2.1) + w64 (b.1 - b.2.1)) > 0))
 (.call (ab1 (w64 (a.1 - a.2.1), ())) af9 fun y3 =>
 .call (af1 ((a.2.2.2.1.1, a.2.2.2.1.2.1, ()), y3.1, ())) afP fun y4 =>
 .call (ab4 (y4.1, y4.2.1, ())) af9 fun y5 =>
 .call (ab1 (w64 (b.1 - b.2.1), ())) af9 fun y6 =>
 .call (af1 ((b.2.2.2.1.1, b.2.2.2.1.2.1, ()), y6.1, ())) afP fun y7 =>
 .call (ab4 (y7.1, y7.2.1, ())) af9 fun y8 =>
 .call (aiJ ((y5.1.1, y5.1.2.1, ()), (y8.1.1, y8.1.2.1, ()), ())) afP fun y9 =>
 .call (ab4 (y9.1, y9.2.1, ())) af9 fun y10 =>
 .call (ab1 (w64 (w64 (a.1 - a.2.1) + w64 (b.1 - b.2.1)), ())) af9 fun y11 =>
 .call (aiI (y10.1, y11.1, ())) afP fun y12 =>
 .call (ab4 (y12.1, y12.2.1, ())) af9 fun y13 =>
 .tt <| .triv (Exit.normal = Exit.normal ∨ Exit.normal = Exit.ret) (Or.inl rfl) <| .ok (((w64 (a.1 + b.1), w64 (a.2.1 + b.2.1), (b.2.2.1.1, b.2.2.1.2.1, ()), (y13.1.1, y13.1.2.1, ()), b.2.2.2.2.1, ()), 0, ())))
 (.tt <| .triv (Exit.normal = Exit.normal ∨ Exit.normal = Exit.ret) (Or.inl rfl) <| .ok (((w64 (a.1 + b.1), w64 (a.2.1 + b.2.1), (b.2.2.1.1, b.2.2.1.2.1, ()), (y2.1.1, y2.1.2.1, ()), b.2.2.2.2.1, ()), 0, ())))
def asW (a : Int × Int × vS × vS × List vS × Unit) (b : Int × Int × vS × vS × List vS × Unit) : TT (uh × Int × Unit) :=
 .call (abG ((a.1, a.2.1, (a.2.2.1.1, a.2.2.1.2.1, ()), (a.2.2.2.1.1, a.2.2.2.1.2.1, ()), a.2.2.2.2.1, ()), ())) Dd6 fun y =>
 .ite (y.1 != 0)
 (.tt <| .triv (Exit.normal = Exit.normal ∨ Exit.normal = Exit.ret) (Or.inl rfl) <| .ok (((0, 0, (#[].toList, #[].toList, ()), (#[].toList, #[].toList, ()), [], ()), y.1, ())))
 (.call (abG ((b.1, b.2.1, (b.2.2.1.1, b.2.2.1.2.1, ()), (b.2.2.2.1.1, b.2.2.2.1.2.1, ()), b.2.2.2.2.1, ()), ())) Dd6 fun y1 =>
  .ite (y1.1 != 0)
  (.tt <| .triv (Exit.normal = Exit.normal ∨ Exit.normal = Exit.ret) (Or.inl rfl) <| .ok (((0, 0, (#[].toList, #[].toList, ()), (#[].toList, #[].toList, ()), [], ()), y1.1, ())))
  (.ite (decide (w64 (a.1 + b.1) > 1000000))
   (.tt <| .triv (Exit.normal = Exit.normal ∨ Exit.normal = Exit.ret) (Or.inl rfl) <| .ok (((0, 0, (#[].toList, #[].toList, ()), (#[].toList, #[].toList, ()), [], ()), 410, ())))
   (.call (ab1 (0, ())) af9 fun y2 =>
    .ite (w64 (a.1 - a.2.1) == 0)
    (aj7 b a y2)
    (.call (ae4 ((b.2.2.1.1, b.2.2.1.2.1, ()), (a.2.2.1.1, a.2.2.1.2.1, ()), ())) aPR fun y14 =>
     .tt <| .tt <| .ite (y14.2.1 != 0)
     (.need (-9223372036854775808 ≤ y14.2.1 ∧ y14.2.1 ≤ 9223372036854775807) <| .need (-9223372036854775808 ≤ y14.2.1 ∧ y14.2.1 ≤ 9223372036854775807) <| .tt <| .tt <| .tt <| .triv (Exit.normal = Exit.normal ∨ Exit.normal = Exit.ret) (Or.inl rfl) <| .ok (((0, 0, (#[].toList, #[].toList, ()), (#[].toList, #[].toList, ()), [], ()), y14.2.1, ())))
     (.ite (decide (y14.1 > 0))
      (aj7 b a y2)
      (.need (List.length a.2.2.2.2.1 * 32 ≤ 140737488355328) <| .ite (decide (w64 (w64 (a.1 - a.2.1) + w64 (b.1 - b.2.1)) > 0))
       (.call (ab1 (w64 (a.1 - a.2.1), ())) af9 fun y26 =>
        .call (af1 ((a.2.2.2.1.1, a.2.2.2.1.2.1, ()), y26.1, ())) afP fun y27 =>
        .call (ab4 (y27.1, y27.2.1, ())) af9 fun y28 =>
        .call (ab1 (w64 (b.1 - b.2.1), ())) af9 fun y29 =>
        .call (af1 ((b.2.2.2.1.1, b.2.2.2.1.2.1, ()), y29.1, ())) afP fun y30 =>
        .call (ab4 (y30.1, y30.2.1, ())) af9 fun y31 =>
        .call (aiJ ((y28.1.1, y28.1.2.1, ()), (y31.1.1, y31.1.2.1, ()), ())) afP fun y32 =>
        .call (ab4 (y32.1, y32.2.1, ())) af9 fun y33 =>
        .call (ab1 (w64 (w64 (a.1 - a.2.1) + w64 (b.1 - b.2.1)), ())) af9 fun y34 =>
        .call (aiI (y33.1, y34.1, ())) afP fun y35 =>
        .call (ab4 (y35.1, y35.2.1, ())) af9 fun y36 =>
        .tt <| .triv (Exit.normal = Exit.normal ∨ Exit.normal = Exit.ret) (Or.inl rfl) <| .ok (((w64 (a.1 + b.1), w64 (a.2.1 + b.2.1), (a.2.2.1.1, a.2.2.1.2.1, ()), (y36.1.1, y36.1.2.1, ()), a.2.2.2.2.1, ()), 0, ())))
       (.tt <| .triv (Exit.normal = Exit.normal ∨ Exit.normal = Exit.ret) (Or.inl rfl) <| .ok (((w64 (a.1 + b.1), w64 (a.2.1 + b.2.1), (a.2.2.1.1, a.2.2.1.2.1, ()), (y2.1.1, y2.1.2.1, ()), a.2.2.2.2.1, ()), 0, ())))))))))
end
set_option maxRecDepth 100000
open Go Go.Vg Go.Proofs
noncomputable section
def aIR : LTab := []
def asU (words : List (List UInt8)) : TT uq :=
 .call (aMc (words, #[32].toList, ())) Dd2 fun y =>
 .need (List.length y.1 + List.length #[10].toList ≤ lim) <| .ok ((y.1 ++ #[10].toList, ()))
def aGM : LTab := []
def ao3 (v : List UInt8) (e : Int) : TT uq :=
 .ite (e != 0)
 (.bad)
 (.ok ((v, ())))
def aM5 : LTab := []
def aFH (n : Int) : TT ur :=
 .call (abU (10, ())) ag0 fun y =>
 .call (aj0 (y.1, n, ())) ag0 fun y1 =>
 .ok (((y1.1.1, y1.1.2.1, ()), ()))
def aBL : LTab := []
def aqX (a : vT × vT × Unit) : TT ur :=
 .call (ag4 (1, 2, ())) awD fun y =>
 .call (ak0 (((a.1.1, a.1.2.1, ()), (a.2.1.1, a.2.1.2.1, ()), ()), y.1, ())) awD fun y1 =>
 .call (aoL (y1.1, ())) ag0 fun y2 =>
 .ok (((y2.1.1, y2.1.2.1, ()), ()))
def aJi : LTab := []
def atE (a : List UInt8 × List UInt8 × Unit) : TT uk :=
 .call (abR ((a.1, a.2.1, ()), ())) Dd1 fun y =>
 .ite (!y.1)
 (.ok ((0, 20, ())))
 (.call (afU ((a.1, a.2.1, ()), ())) awD fun y1 =>
 .call (ag4 (0, 1, ())) awD fun y2 =>
 .call (aiX (y1.1, y2.1, ())) Dd6 fun y3 =>
 .ok ((y3.1, 0, ())))
def aOk : LTab := []
def aAv (a : List UInt8 × List UInt8 × Unit) (places : Int) : TT uf :=
 .call (acV ((a.1, a.2.1, ()), ())) aMs fun y =>
 .ite (!y.2.1)
 (.ok ((#[].toList, 20, ())))
 (.ite (decide (places < 0))
 (.ok ((#[].toList, 2, ())))
 (.ite (decide (places > 20))
 (.ok ((#[].toList, 2, ())))
 (.call (ayZ (#[48].toList, places, ())) Dd2 fun y1 =>
 .need (List.length #[49].toList + List.length y1.1 ≤ lim) <| .call (af0 (#[49].toList ++ y1.1, ())) Dd0 fun y2 =>
 .call (aoP (((y.1.1.1, y.1.1.2.1, ()), y.1.2.1, ()), y2.1, ())) Dd5 fun y3 =>
 .call (afY (y3.1.1, ())) Dd2 fun y4 =>
 .ite (decide (places > 0))
 (.call (ayZ (#[48].toList, if 0 > w64 (w64 (places + 1) - len y4.1) then 0 else w64 (w64 (places + 1) - len y4.1), ())) Dd2 fun y5 =>
 .need (List.length y5.1 + List.length y4.1 ≤ lim) <| .need (inc (w64 (len (y5.1 ++ y4.1) - places)) (len (y5.1 ++ y4.1))) <| .need (List.length (List.take (Int.toNat (w64 (len (y5.1 ++ y4.1) - places))) (y5.1 ++ y4.1)) + List.length #[46].toList ≤ lim) <| .need (inc (w64 (len (y5.1 ++ y4.1) - places)) (len (y5.1 ++ y4.1))) <| .need (List.length (List.take (Int.toNat (w64 (len (y5.1 ++ y4.1) - places))) (y5.1 ++ y4.1) ++ #[46].toList) + List.length (List.take (List.length (y5.1 ++ y4.1) - Int.toNat (w64 (len (y5.1 ++ y4.1) - places))) (List.drop (Int.toNat (w64 (len (y5.1 ++ y4.1) - places))) (y5.1 ++ y4.1))) ≤ lim) <| .ite (y3.1.2.1)
 (.need (List.length #[45].toList + List.length (List.take (Int.toNat (w64 (len (y5.1 ++ y4.1) - places))) (y5.1 ++ y4.1) ++ #[46].toList ++ List.take (List.length (y5.1 ++ y4.1) - Int.toNat (w64 (len (y5.1 ++ y4.1) - places))) (List.drop (Int.toNat (w64 (len (y5.1 ++ y4.1) - places))) (y5.1 ++ y4.1))) ≤ lim) <| .ok ((#[45].toList ++ (List.take (Int.toNat (w64 (len (y5.1 ++ y4.1) - places))) (y5.1 ++ y4.1) ++ #[46].toList ++ List.take (List.length (y5.1 ++ y4.1) - Int.toNat (w64 (len (y5.1 ++ y4.1) - places))) (List.drop (Int.toNat (w64 (len (y5.1 ++ y4.1) - places))) (y5.1 ++ y4.1))), 0, ())))
 (.ok ((List.take (Int.toNat (w64 (len (y5.1 ++ y4.1) - places))) (y5.1 ++ y4.1) ++ #[46].toList ++ List.take (List.length (y5.1 ++ y4.1) - Int.toNat (w64 (len (y5.1 ++ y4.1) - places))) (List.drop (Int.toNat (w64 (len (y5.1 ++ y4.1) - places))) (y5.1 ++ y4.1)), 0, ()))))
 (.ite (y3.1.2.1)
 (.need (List.length #[45].toList + List.length y4.1 ≤ lim) <| .ok ((#[45].toList ++ y4.1, 0, ())))
 (.ok ((y4.1, 0, ())))))))
def aJh : LTab := [(37, 7, 6144, ⟨0, (List UInt8) × (Int) × Unit, .dat (.s 4) tj <| .dat (.s 5) vU <| .nil, [2, 1], [0], 0⟩), (37, 63, 16384, ⟨1, (List UInt8) × Unit, .dat (.s 7) tj <| .nil, [6, 5, 4, 1], [14, 0], 0⟩), (37, 32764, 41984, ⟨2, (List UInt8) × Unit, .dat (.s 12) tj <| .nil, [10, 7, 5, 4, 1], [25, 24, 14, 0], 0⟩)]
def apI (a : List UInt8 × List UInt8 × Unit) (places : Int) (y : Bool × Unit) (j : List UInt8 × Int × Unit) (y1 : ux × Unit) (y2 : vT × Unit) (y3 : vT × Unit) (y4 : ux × Unit) (y5 : ux × Unit) (y6 : vT × Unit) (j1 : List UInt8 × Unit) (y7 : vT × Unit) (y8 : vT × vT × Unit) (y9 : List UInt8 × Int × Unit) (y10 : List UInt8 × Unit) (i : (List UInt8) × Unit) : TT (((List UInt8) × Unit) ⊕ uf) :=
 .ite (decide (len i.1 < places))
 (.need (List.length #[48].toList + List.length i.1 ≤ lim) <| .tt <| .lt (#[48].toList ++ i.1 : List UInt8) fun z1 => .vA (vR z1 y9.1 j1.1 j.2.1 j.1 places) <| .vA (vz (vH 138 y8.2.1.1 y8.2.1.2.1) <| vz (vH 138 y8.1.1 y8.1.2.1) <| vz (vH 138 false y6.1.2.1) <| vz (vH 36 a.1 a.2.1) True) <| .ok (.inl ((z1, ()))))
 (.need (List.length j1.1 + List.length y9.1 ≤ lim) <| .need (List.length (j1.1 ++ y9.1) + List.length #[46].toList ≤ lim) <| .need (List.length (j1.1 ++ y9.1 ++ #[46].toList) + List.length i.1 ≤ lim) <| .ok (.inr ((j1.1 ++ y9.1 ++ #[46].toList ++ i.1, 0, ()))))
def axH (a : List UInt8 × List UInt8 × Unit) (places : Int) (y : Bool × Unit) (j : List UInt8 × Int × Unit) (y1 : (vT × vT × Unit) × Unit) (y2 : vT × Unit) (y3 : vT × Unit) (y4 : (vT × vT × Unit) × Unit) (y5 : (vT × vT × Unit) × Unit) (y6 : vT × Unit) (j1 : (List UInt8) × Unit) : TT uf :=
 .call (aoJ (places, ())) ag0 fun y7 =>
 .call (aeN ((false, y6.1.2.1, ()), y7.1, ())) aRf fun y8 =>
 .call (aj1 ((y8.1.1, y8.1.2.1, ()), ())) aA9 fun y9 =>
 .ite (y9.2.1 != 0)
 (.ok ((#[].toList, y9.2.1, ())))
 (.ite (places == 0)
 (.need (List.length j1.1 + List.length y9.1 ≤ lim) <| .ok ((j1.1 ++ y9.1, 0, ())))
 (.call (ai0 ((y8.2.1.1, y8.2.1.2.1, ()), ())) Dd2 fun y10 =>
 .loop 2 (.tt <| .vA (vR y10.1 y9.1 j1.1 j.2.1 j.1 places) <| .vA (vz (vH 138 y8.2.1.1 y8.2.1.2.1) <| vz (vH 138 y8.1.1 y8.1.2.1) <| vz (vH 138 false y6.1.2.1) <| vz (vH 36 a.1 a.2.1) True) <| .ok ((y10.1, ()))) (apI a places y j y1 y2 y3 y4 y5 y6 j1 y7 y8 y9 y10)))
def axI (a : List UInt8 × List UInt8 × Unit) (places : Int) (y : Bool × Unit) (j : (List UInt8) × (Int) × Unit) : TT uf :=
 .call (afU ((a.1, a.2.1, ()), ())) awD fun y1 =>
 .call (aoJ (places, ())) ag0 fun y2 =>
 .call (abU (1, ())) ag0 fun y3 =>
 .call (aeB (y2.1, y3.1, ())) awD fun y4 =>
 .call (aiW (y1.1, y4.1, ())) awD fun y5 =>
 .call (ah8 (y5.1, ())) ag0 fun y6 =>
 .join 1 (ι := (List UInt8) × Unit) (.ite (y6.1.1)
 (.tt <| .lt (#[45].toList : List UInt8) fun z => .vA (vD z <| (vC 14 0 true) ∧ vH j.2.1 j.1 places) <| .vA (vz (vH 138 y6.1.1 y6.1.2.1) <| vz (vH 36 a.1 a.2.1) True) <| .ok (.inl ((z, ()))))
 (.tt <| .vA (vD (#[].toList : List UInt8) <| (vC 14 0 true) ∧ vH j.2.1 j.1 places) <| .vA (vz (vH 138 y6.1.1 y6.1.2.1) <| vz (vH 36 a.1 a.2.1) True) <| .ok (.inl ((#[].toList, ()))))) (axH a places y j y1 y2 y3 y4 y5 y6)
def atC (a : List UInt8 × List UInt8 × Unit) (places : Int) : TT uf :=
 .call (abR ((a.1, a.2.1, ()), ())) Dd1 fun y =>
 .ite (!y.1)
 (.ok ((#[].toList, 20, ())))
 (.join 0 (ι := (List UInt8) × (Int) × Unit) (.ite (decide (places < 0))
 (.ok (.inr ((#[].toList, 2, ()))))
 (.ite (decide (places > 20))
 (.ok (.inr ((#[].toList, 2, ()))))
 (.tt <| .vA (vL (0 : Int) (#[].toList : List UInt8) <| ub ∧ vE places) <| .vA (vz (vH 36 a.1 a.2.1) True) <| .ok (.inl ((#[].toList, 0, ())))))) (axI a places y))
def aD5 : LTab := [(41, 26, 2048, ⟨0, (Int) × Unit, .dat (.s 3) vU <| .nil, [0], [], 0⟩)]
def aqY (l : List vS) (i : (Int) × Unit) : TT (um ⊕ ue) :=
 .ite (decide (i.1 < len l))
 (.need (inb i.1 (len l)) <| .call (ag5 (gi l i.1 ([], [], ()), ())) Dd6 fun y =>
 .ite (y.1 != 0)
 (.ok (.inr ((y.1, ()))))
 (.tt <| .lt (w64 (i.1 + 1) : Int) fun z => .vA (vN z l) <| .tr <| .ok (.inl ((z, ())))))
 (.ok (.inr ((0, ()))))
def amI (l : List vS) : TT ue :=
 .loop 0 (.tt <| .vA (vN (0 : Int) l) <| .tr <| .ok ((0, ()))) (aqY l)
def aJp : LTab := []
def atF (x : List UInt8 × List UInt8 × Unit) : TT tg :=
 .need (inc (if 20 < len x.1 then 20 else len x.1) (len x.1)) <| .need (inc (if 20 < len x.2.1 then 20 else len x.2.1) (len x.2.1)) <| .ok (((List.take (Int.toNat (if 20 < len x.1 then 20 else len x.1)) x.1, List.take (Int.toNat (if 20 < len x.2.1 then 20 else len x.2.1)) x.2.1, ()), ()))
def aDU : LTab := []
def amE (a : List UInt8 × List UInt8 × Unit) (b : List UInt8 × List UInt8 × Unit) : TT ue :=
 .call (aoM ((a.1, a.2.1, ()), (b.1, b.2.1, ()), ())) aPR fun y =>
 .ok ((y.1, ()))
def aDV : LTab := []
def amF (t : Int × Int × vS × vS × List vS × Unit) : TT ue :=
 .ite (decide (t.1 < 0))
 (.ok ((410, ())))
 (.ite (decide (t.1 > 1000000))
 (.ok ((410, ())))
 (.ite (decide (t.2.1 < 0))
 (.ok ((410, ())))
 (.ite (decide (t.2.1 > t.1))
 (.ok ((410, ())))
 (.call (ae3 (List.take 2 [(t.2.2.1.1, t.2.2.1.2.1, ()), (t.2.2.2.1.1, t.2.2.2.1.2.1, ())], ())) Dd6 fun y =>
 .ite (y.1 != 0)
 (.ok ((410, ())))
 (.tt <| .tt <| .call (agL ((t.2.2.1.1, t.2.2.1.2.1, ()), ())) aPR fun y1 =>
 .ite (decide (y1.1 < 0))
 (.ok ((410, ())))
 (.tt <| .tt <| .call (agL ((t.2.2.2.1.1, t.2.2.2.1.2.1, ()), ())) aPR fun y2 =>
 .ite (decide (y2.1 < 0))
 (.ok ((410, ())))
 (.call (aeA ((t.2.2.2.1.1, t.2.2.2.1.2.1, ()), (t.2.2.1.1, t.2.2.1.2.1, ()), ())) Dd6 fun y3 =>
 .ite (decide (y3.1 > 0))
 (.ok ((410, ())))
 (.ite (t.2.1 == t.1)
 (.ite (decide (len t.2.2.2.2.1 > 0))
 (.ok ((410, ())))
 (.tt <| .tt <| .call (agL ((t.2.2.1.1, t.2.2.1.2.1, ()), ())) aPR fun y4 =>
 .ite (decide (y4.1 > 0))
 (.ok ((410, ())))
 (.ok ((0, ())))))
 (.ite (decide (len t.2.2.2.2.1 < 1))
 (.ok ((410, ())))
 (.ite (decide (len t.2.2.2.2.1 > 4))
 (.ok ((410, ())))
 (.call (ae3 (t.2.2.2.2.1, ())) Dd6 fun y5 =>
 .ite (y5.1 != 0)
 (.ok ((410, ())))
 (.ok ((0, ()))))))))))))))
def aGZ : LTab := [(16, 58, 39936, ⟨0, (Int) × Unit, .dat (.s 5) vU <| .nil, [3, 2], [1, 0], 0⟩)]
def atB (a : Int × Int × vS × vS × List vS × Unit) (b : Int × Int × vS × vS × List vS × Unit) (i : (Int) × Unit) : TT uc :=
 .ite (decide (i.1 < len a.2.2.2.2.1))
 (.need (inb i.1 (len a.2.2.2.2.1)) <| .need (inb i.1 (len b.2.2.2.2.1)) <| .ite (!(match (gi a.2.2.2.2.1 i.1 ([], [], ())).1 == (gi b.2.2.2.2.1 i.1 ([], [], ())).1 with | true => (match (gi a.2.2.2.2.1 i.1 ([], [], ())).2.1 == (gi b.2.2.2.2.1 i.1 ([], [], ())).2.1 with | true => true | false => false) | false => false))
 (.ok (.inr ((false, ()))))
 (.tt <| .lt (w64 (i.1 + 1) : Int) fun z => .vA (vD z <| ud ∧ ub ∧ True) <| .vA (vz (vQ 39 b.1 b.2.1 b.2.2.1.1 b.2.2.1.2.1 b.2.2.2.1.1 b.2.2.2.1.2.1 b.2.2.2.2.1) <| vz (vQ 39 a.1 a.2.1 a.2.2.1.1 a.2.2.1.2.1 a.2.2.2.1.1 a.2.2.2.1.2.1 a.2.2.2.2.1) True) <| .ok (.inl ((z, ())))))
 (.ok (.inr ((true, ()))))
def apF (a : Int × Int × vS × vS × List vS × Unit) (b : Int × Int × vS × vS × List vS × Unit) : TT uG :=
 .ite (a.1 != b.1)
 (.ok ((false, ())))
 (.ite (a.2.1 != b.2.1)
 (.ok ((false, ())))
 (.ite (!(match a.2.2.1.1 == b.2.2.1.1 with | true => (match a.2.2.1.2.1 == b.2.2.1.2.1 with | true => true | false => false) | false => false))
 (.ok ((false, ())))
 (.ite (!(match a.2.2.2.1.1 == b.2.2.2.1.1 with | true => (match a.2.2.2.1.2.1 == b.2.2.2.1.2.1 with | true => true | false => false) | false => false))
 (.ok ((false, ())))
 (.ite (len a.2.2.2.2.1 != len b.2.2.2.2.1)
 (.ok ((false, ())))
 (.loop 0 (.tt <| .vA (vD (0 : Int) <| ud ∧ ub ∧ True) <| .vA (vz (vQ 39 b.1 b.2.1 b.2.2.1.1 b.2.2.1.2.1 b.2.2.2.1.1 b.2.2.2.1.2.1 b.2.2.2.2.1) <| vz (vQ 39 a.1 a.2.1 a.2.2.1.1 a.2.2.1.2.1 a.2.2.2.1.1 a.2.2.2.1.2.1 a.2.2.2.2.1) True) <| .ok ((0, ()))) (atB a b))))))
def aGY : LTab := [(11, 8186, 57344, ⟨0, (Int) × (List UInt8) × Unit, .dat (.s 9) vU <| .dat (.s 5) tj <| .nil, [1], [0], 0⟩), (11, 8186, 54272, ⟨1, (Int) × (List UInt8) × Unit, .dat (.s 9) vU <| .dat (.s 5) tj <| .nil, [1], [0], 0⟩)]
def atA (t : Int × Int × vS × vS × List vS × Unit) (y : Int × Unit) (y1 : List UInt8 × Unit) (y2 : List UInt8 × Unit) (y3 : List UInt8 × Int × Unit) (y4 : List UInt8 × Int × Unit) (i : (Int) × (List UInt8) × Unit) : TT (uA ⊕ uf) :=
 .ite (decide (i.1 < len t.2.2.2.2.1))
 (.need (inb i.1 (len t.2.2.2.2.1)) <| .call (afN (gi t.2.2.2.2.1 i.1 ([], [], ()), 6, ())) aA9 fun y5 =>
 .ite (y5.2.1 != 0)
 (.ok (.inr ((#[].toList, y5.2.1, ()))))
 (.need (List.length i.2.1 + List.length #[32].toList ≤ lim) <| .need (List.length (i.2.1 ++ #[32].toList) + List.length y5.1 ≤ lim) <| .tt <| .lt (w64 (i.1 + 1) : Int) fun z1 => .lt (i.2.1 ++ #[32].toList ++ y5.1 : List UInt8) fun z2 => .vA (vL z2 z1 <| ub ∧ True) <| .vA (vz (vQ 39 t.1 t.2.1 t.2.2.1.1 t.2.2.1.2.1 t.2.2.2.1.1 t.2.2.2.1.2.1 t.2.2.2.2.1) True) <| .ok (.inl ((z1, z2, ())))))
 (.need (List.length i.2.1 + List.length #[10].toList ≤ lim) <| .ok (.inr ((i.2.1 ++ #[10].toList, 0, ()))))
def ai7 (t : Int × Int × vS × vS × List vS × Unit) (y : Int × Unit) (y1 : List UInt8 × Unit) (y2 : List UInt8 × Unit) (y3 : List UInt8 × Int × Unit) (y4 : List UInt8 × Int × Unit) (i1 : (Int) × (List UInt8) × Unit) : TT (uA ⊕ uf) :=
 .ite (decide (i1.1 < len t.2.2.2.2.1))
 (.need (inb i1.1 (len t.2.2.2.2.1)) <| .call (afN (gi t.2.2.2.2.1 i1.1 ([], [], ()), 6, ())) aA9 fun y6 =>
 .ite (y6.2.1 != 0)
 (.ok (.inr ((#[].toList, y6.2.1, ()))))
 (.need (List.length i1.2.1 + List.length #[32].toList ≤ lim) <| .need (List.length (i1.2.1 ++ #[32].toList) + List.length y6.1 ≤ lim) <| .tt <| .lt (w64 (i1.1 + 1) : Int) fun z4 => .lt (i1.2.1 ++ #[32].toList ++ y6.1 : List UInt8) fun z5 => .vA (vL z5 z4 <| ub ∧ True) <| .vA (vz (vQ 39 t.1 t.2.1 t.2.2.1.1 t.2.2.1.2.1 t.2.2.2.1.1 t.2.2.2.1.2.1 t.2.2.2.2.1) True) <| .ok (.inl ((z4, z5, ())))))
 (.need (List.length i1.2.1 + List.length #[10].toList ≤ lim) <| .ok (.inr ((i1.2.1 ++ #[10].toList, 0, ()))))
def apE (t : Int × Int × vS × vS × List vS × Unit) : TT uf :=
 .call (acA ((t.1, t.2.1, (t.2.2.1.1, t.2.2.1.2.1, ()), (t.2.2.2.1.1, t.2.2.2.1.2.1, ()), t.2.2.2.2.1, ()), ())) Dd6 fun y =>
 .ite (y.1 != 0)
 (.ok ((#[].toList, y.1, ())))
 (.call (ak1 (t.1, ())) Dd2 fun y1 =>
 .need (List.length #[112, 111, 105, 110, 116, 115, 32].toList + List.length y1.1 ≤ lim) <| .need (List.length (#[112, 111, 105, 110, 116, 115, 32].toList ++ y1.1) + List.length #[10, 102, 97, 105, 108, 101, 100, 32].toList ≤ lim) <| .call (ak1 (t.2.1, ())) Dd2 fun y2 =>
 .need (List.length (#[112, 111, 105, 110, 116, 115, 32].toList ++ y1.1 ++ #[10, 102, 97, 105, 108, 101, 100, 32].toList) + List.length y2.1 ≤ lim) <| .need (List.length (#[112, 111, 105, 110, 116, 115, 32].toList ++ y1.1 ++ #[10, 102, 97, 105, 108, 101, 100, 32].toList ++ y2.1) + List.length #[10].toList ≤ lim) <| .call (afN ((t.2.2.1.1, t.2.2.1.2.1, ()), 6, ())) aA9 fun y3 =>
 .ite (y3.2.1 != 0)
 (.ok ((#[].toList, y3.2.1, ())))
 (.call (afN ((t.2.2.2.1.1, t.2.2.2.1.2.1, ()), 6, ())) aA9 fun y4 =>
 .ite (y4.2.1 != 0)
 (.ok ((#[].toList, y4.2.1, ())))
 (.need (List.length (#[112, 111, 105, 110, 116, 115, 32].toList ++ y1.1 ++ #[10, 102, 97, 105, 108, 101, 100, 32].toList ++ y2.1 ++ #[10].toList) + List.length #[103, 114, 101, 97, 116, 101, 115, 116, 32].toList ≤ lim) <| .need (List.length (#[112, 111, 105, 110, 116, 115, 32].toList ++ y1.1 ++ #[10, 102, 97, 105, 108, 101, 100, 32].toList ++ y2.1 ++ #[10].toList ++ #[103, 114, 101, 97, 116, 101, 115, 116, 32].toList) + List.length y3.1 ≤ lim) <| .need (List.length (#[112, 111, 105, 110, 116, 115, 32].toList ++ y1.1 ++ #[10, 102, 97, 105, 108, 101, 100, 32].toList ++ y2.1 ++ #[10].toList ++ #[103, 114, 101, 97, 116, 101, 115, 116, 32].toList ++ y3.1) + List.length #[10, 109, 101, 97, 110, 32].toList ≤ lim) <| .need (List.length (#[112, 111, 105, 110, 116, 115, 32].toList ++ y1.1 ++ #[10, 102, 97, 105, 108, 101, 100, 32].toList ++ y2.1 ++ #[10].toList ++ #[103, 114, 101, 97, 116, 101, 115, 116, 32].toList ++ y3.1 ++ #[10, 109, 101, 97, 110, 32].toList) + List.length y4.1 ≤ lim) <| .need (List.length (#[112, 111, 105, 110, 116, 115, 32].toList ++ y1.1 ++ #[10, 102, 97, 105, 108, 101, 100, 32].toList ++ y2.1 ++ #[10].toList ++ #[103, 114, 101, 97, 116, 101, 115, 116, 32].toList ++ y3.1 ++ #[10, 109, 101, 97, 110, 32].toList ++ y4.1) + List.length #[10, 97, 116].toList ≤ lim) <| .ite (len t.2.2.2.2.1 == 0)
 (.need (List.length (#[112, 111, 105, 110, 116, 115, 32].toList ++ y1.1 ++ #[10, 102, 97, 105, 108, 101, 100, 32].toList ++ y2.1 ++ #[10].toList ++ #[103, 114, 101, 97, 116, 101, 115, 116, 32].toList ++ y3.1 ++ #[10, 109, 101, 97, 110, 32].toList ++ y4.1 ++ #[10, 97, 116].toList) + List.length #[32, 45].toList ≤ lim) <| .loop 0 (.tt <| .lt (#[112, 111, 105, 110, 116, 115, 32].toList ++ y1.1 ++ #[10, 102, 97, 105, 108, 101, 100, 32].toList ++ y2.1 ++ #[10].toList ++ #[103, 114, 101, 97, 116, 101, 115, 116, 32].toList ++ y3.1 ++ #[10, 109, 101, 97, 110, 32].toList ++ y4.1 ++ #[10, 97, 116].toList ++ #[32, 45].toList : List UInt8) fun z => .vA (vL z (0 : Int) <| ub ∧ True) <| .vA (vz (vQ 39 t.1 t.2.1 t.2.2.1.1 t.2.2.1.2.1 t.2.2.2.1.1 t.2.2.2.1.2.1 t.2.2.2.2.1) True) <| .ok ((0, z, ()))) (atA t y y1 y2 y3 y4))
 (.loop 1 (.tt <| .lt (#[112, 111, 105, 110, 116, 115, 32].toList ++ y1.1 ++ #[10, 102, 97, 105, 108, 101, 100, 32].toList ++ y2.1 ++ #[10].toList ++ #[103, 114, 101, 97, 116, 101, 115, 116, 32].toList ++ y3.1 ++ #[10, 109, 101, 97, 110, 32].toList ++ y4.1 ++ #[10, 97, 116].toList : List UInt8) fun z3 => .vA (vL z3 (0 : Int) <| ub ∧ True) <| .vA (vz (vQ 39 t.1 t.2.1 t.2.2.1.1 t.2.2.1.2.1 t.2.2.2.1.1 t.2.2.2.1.2.1 t.2.2.2.2.1) True) <| .ok ((0, z3, ()))) (ai7 t y y1 y2 y3 y4)))))
def aG1 : LTab := []
def apH (b : Int × Int × vS × Unit) (t : Int × Int × vS × vS × List vS × Unit) : TT (uh × Unit) :=
 .triv (asT Int 6 ≠ 0) zf <| .ite (Int.tmod b.1 6 == 0)
 (.ok (((b.2.1, t.2.1, (t.2.2.1.1, t.2.2.1.2.1, ()), (t.2.2.2.1.1, t.2.2.2.1.2.1, ()), t.2.2.2.2.1, ()), ())))
 (.ite (Int.tmod b.1 6 == 1)
 (.ok (((t.1, b.2.1, (t.2.2.1.1, t.2.2.1.2.1, ()), (t.2.2.2.1.1, t.2.2.2.1.2.1, ()), t.2.2.2.2.1, ()), ())))
 (.ite (Int.tmod b.1 6 == 2)
 (.call (agM ((b.2.2.1.1, b.2.2.1.2.1, ()), ())) af9 fun y =>
 .ok (((t.1, t.2.1, (y.1.1, y.1.2.1, ()), (t.2.2.2.1.1, t.2.2.2.1.2.1, ()), t.2.2.2.2.1, ()), ())))
 (.ite (Int.tmod b.1 6 == 3)
 (.call (agM ((b.2.2.1.1, b.2.2.1.2.1, ()), ())) af9 fun y1 =>
 .ok (((t.1, t.2.1, (t.2.2.1.1, t.2.2.1.2.1, ()), (y1.1.1, y1.1.2.1, ()), t.2.2.2.2.1, ()), ())))
 (.ite (Int.tmod b.1 6 == 4)
 (.ok (((t.1, t.2.1, (t.2.2.1.1, t.2.2.1.2.1, ()), (t.2.2.2.1.1, t.2.2.2.1.2.1, ()), [], ()), ())))
 (.need (List.length t.2.2.2.2.1 * 32 ≤ 140737488355328) <| .ite (List.isEmpty t.2.2.2.2.1)
 (.call (agM ((b.2.2.1.1, b.2.2.1.2.1, ()), ())) af9 fun y2 =>
 .need (1 * 32 ≤ 140737488355328) <| .ok (((t.1, t.2.1, (t.2.2.1.1, t.2.2.1.2.1, ()), (t.2.2.2.1.1, t.2.2.2.1.2.1, ()), [(y2.1.1, y2.1.2.1, ())], ()), ())))
 (.call (agM ((b.2.2.1.1, b.2.2.1.2.1, ()), ())) af9 fun y3 =>
 .need ((List.length t.2.2.2.2.1 + 1) * 32 ≤ 140737488355328) <| .ok (((t.1, t.2.1, (t.2.2.1.1, t.2.2.1.2.1, ()), (t.2.2.2.1.1, t.2.2.2.1.2.1, ()), List.take (List.length t.2.2.2.2.1 + 1) (List.take (List.length t.2.2.2.2.1) t.2.2.2.2.1 ++ [(y3.1.1, y3.1.2.1, ())]), ()), ()))))))))
def aIS : LTab := [(10, 1018, 46080, ⟨0, (Int) × (List (List UInt8)) × Unit, .dat (.s 48) vU <| .app (.s 5) 45 9 tj <| .nil, [47, 46, 3, 2, 1], [35, 27, 17, 12, 2, 1, 0], 1⟩)]
def ak7 (t : Int × Int × vS × vS × List vS × Unit) (y : Int × Unit) (y1 : List UInt8 × Unit) (y2 : List UInt8 × Unit) (y3 : List UInt8 × Unit) (y4 : List UInt8 × Unit) (y5 : List UInt8 × Int × Unit) (y6 : List UInt8 × Unit) (y7 : List UInt8 × Unit) (y8 : List UInt8 × Int × Unit) (y9 : List UInt8 × Unit) (y10 : List UInt8 × Unit) (i : (Int) × (List (List UInt8)) × Unit) : TT (((Int) × (List (List UInt8)) × Unit) ⊕ uf) :=
 .ite (decide (i.1 < len t.2.2.2.2.1))
 (.need (inb i.1 (len t.2.2.2.2.1)) <| .call (aiA (((gi t.2.2.2.2.1 i.1 ([], [], ())).1, (gi t.2.2.2.2.1 i.1 ([], [], ())).2.1, ()), 6, ())) aA9 fun y11 =>
 .call (ag3 (y11.1, y11.2.1, ())) Dd2 fun y12 =>
 .need ((List.length i.2.1 + 1) * 16 ≤ 140737488355328) <| .tt <| .lt (w64 (i.1 + 1) : Int) fun z1 => .lt (List.take (List.length i.2.1) i.2.1 ++ [y12.1] : List (List UInt8)) fun z2 => .need ((((45) = (45)) ∧ (((0) = (0)) ∧ ((List.length i.2.1 + 1 = List.length z2) ∧ ((true) = (true))))) ∧ ((z1 : Int) = z1) ∧ ((len t.2.2.2.2.1 : Int) = len t.2.2.2.2.1) ∧ ((t.2.2.2.2.1 : List vS) = t.2.2.2.2.1) ∧ (((2) = (2)) ∧ (((0) = (0)) ∧ ((true) = (true)))) ∧ (((1) = (1)) ∧ (((0) = (0)) ∧ ((true) = (true)))) ∧ (((0) = (0)) ∧ (((0) = (0)) ∧ ((true) = (true)))) ∧ True) <| .vA (vz (vI 9 z2) <| vz (vI 9 ([#[109, 101, 97, 110].toList, y9.1] : List (List UInt8))) <| vz (vI 9 ([#[103, 114, 101, 97, 116, 101, 115, 116].toList, y6.1] : List (List UInt8))) <| vz (vI 9 ([#[102, 97, 105, 108, 101, 100].toList, y3.1] : List (List UInt8))) <| vz (vI 9 ([#[112, 111, 105, 110, 116, 115].toList, y1.1] : List (List UInt8))) <| vz (vN 43 (0 : Int)) <| vz (vN 9 (y2.1 ++ y4.1 ++ (y7.1 ++ y10.1) : List UInt8)) <| vz (vQ 39 t.1 t.2.1 t.2.2.1.1 t.2.2.1.2.1 t.2.2.2.1.1 t.2.2.2.1.2.1 t.2.2.2.2.1) True) <| .ok (.inl ((z1, z2, ()))))
 (.ite (len t.2.2.2.2.1 == 0)
 (.need ((List.length i.2.1 + 1) * 16 ≤ 140737488355328) <| .call (ad8 (List.take (List.length i.2.1 + 1) (List.take (List.length i.2.1) i.2.1 ++ [#[45].toList]), ())) Dd2 fun y13 =>
 .need (List.length (y2.1 ++ y4.1 ++ (y7.1 ++ y10.1)) + List.length y13.1 ≤ lim) <| .tt <| .triv (Exit.normal = Exit.normal ∨ Exit.normal = Exit.ret) (Or.inl rfl) <| .ok (.inr ((y2.1 ++ y4.1 ++ (y7.1 ++ y10.1) ++ y13.1, 0, ()))))
 (.call (ad8 (List.take (List.length i.2.1) i.2.1, ())) Dd2 fun y14 =>
 .need (List.length (y2.1 ++ y4.1 ++ (y7.1 ++ y10.1)) + List.length y14.1 ≤ lim) <| .tt <| .triv (Exit.normal = Exit.normal ∨ Exit.normal = Exit.ret) (Or.inl rfl) <| .ok (.inr ((y2.1 ++ y4.1 ++ (y7.1 ++ y10.1) ++ y14.1, 0, ())))))
def asV (t : Int × Int × vS × vS × List vS × Unit) : TT uf :=
 .call (abG ((t.1, t.2.1, (t.2.2.1.1, t.2.2.1.2.1, ()), (t.2.2.2.1.1, t.2.2.2.1.2.1, ()), t.2.2.2.2.1, ()), ())) Dd6 fun y =>
 .ite (y.1 != 0)
 (.tt <| .triv (Exit.normal = Exit.normal ∨ Exit.normal = Exit.ret) (Or.inl rfl) <| .ok ((#[].toList, y.1, ())))
 (.call (ak1 (t.1, ())) Dd2 fun y1 =>
 .call (ad8 (List.take 2 [#[112, 111, 105, 110, 116, 115].toList, y1.1], ())) Dd2 fun y2 =>
 .call (ak1 (t.2.1, ())) Dd2 fun y3 =>
 .call (ad8 (List.take 2 [#[102, 97, 105, 108, 101, 100].toList, y3.1], ())) Dd2 fun y4 =>
 .need (List.length y2.1 + List.length y4.1 ≤ lim) <| .call (aiA ((t.2.2.1.1, t.2.2.1.2.1, ()), 6, ())) aA9 fun y5 =>
 .call (ag3 (y5.1, y5.2.1, ())) Dd2 fun y6 =>
 .call (ad8 (List.take 2 [#[103, 114, 101, 97, 116, 101, 115, 116].toList, y6.1], ())) Dd2 fun y7 =>
 .call (aiA ((t.2.2.2.1.1, t.2.2.2.1.2.1, ()), 6, ())) aA9 fun y8 =>
 .call (ag3 (y8.1, y8.2.1, ())) Dd2 fun y9 =>
 .call (ad8 (List.take 2 [#[109, 101, 97, 110].toList, y9.1], ())) Dd2 fun y10 =>
 .need (List.length y7.1 + List.length y10.1 ≤ lim) <| .need (List.length (y2.1 ++ y4.1) + List.length (y7.1 ++ y10.1) ≤ lim) <| .loop 0 (.tt <| .lt ([#[97, 116].toList] : List (List UInt8)) fun z => .vA ((vJ 45 0 1 true) ∧ (vF (0 : Int) (len t.2.2.2.2.1) t.2.2.2.2.1 <| (vC 2 0 true) ∧ ud ∧ ub ∧ True)) <| .vA (vz (vI 9 z) <| vz (vI 9 ([#[109, 101, 97, 110].toList, y9.1] : List (List UInt8))) <| vz (vI 9 ([#[103, 114, 101, 97, 116, 101, 115, 116].toList, y6.1] : List (List UInt8))) <| vz (vI 9 ([#[102, 97, 105, 108, 101, 100].toList, y3.1] : List (List UInt8))) <| vz (vI 9 ([#[112, 111, 105, 110, 116, 115].toList, y1.1] : List (List UInt8))) <| vz (vN 43 (0 : Int)) <| vz (vN 9 (y2.1 ++ y4.1 ++ (y7.1 ++ y10.1) : List UInt8)) <| vz (vQ 39 t.1 t.2.1 t.2.2.1.1 t.2.2.1.2.1 t.2.2.2.1.1 t.2.2.2.1.2.1 t.2.2.2.2.1) True) <| .ok ((0, z, ()))) (ak7 t y y1 y2 y3 y4 y5 y6 y7 y8 y9 y10))
end
open Go Go.Vg
theorem at5 {q : Rat} (h : aiB q) {s : Nat} (hs : s ≤ 10000000000000000000000000) : (mag (aj6 q s).natAbs).length ≤ 200 := by
 rw [aEs]
 have h1 := ax4 h.1
 have h2 := ax4 h.2
 have hs2 : (mag (s * 2)).length ≤ 3 := mag_length_le_iff.2 zb
 have e1 : (mag (q.num * (s * 2 : Nat) + q.den).natAbs).length ≤ 100 := by
  have a1 := wW (q.num * (s * 2 : Nat)) q.den
  have a2 := ab3 a1
  have a3 := aiF (q.num * (s * 2 : Nat)).natAbs (q.den : Int).natAbs
  rw [yp] at a3 a2
  have a4 := af5 q.num.natAbs ((s * 2 : Nat) : Int).natAbs
  simp only [yc] at a1 a2 a3 a4 h2 ⊢
  omega
 have := aSe (d := q.den * 2) e1 zb
 omega
theorem aOf (n : Nat) : (List.replicate n ([48] : List UInt8)).flatten = List.replicate n 48 := by
 induction n with
 | zero => rfl
 | succ n ih => rw [xe, wj, ih]; rfl
theorem aPL {n : Nat} (h : n ≤ 100000) : ayZ (#[48].toList, (n : Int), ()) = some (List.replicate n 48, ()) := by
 unfold ayZ
 rw [if_pos ⟨by show 0 ≤ (n : Int); omega, by show (n : Int) ≤ 100000; omega, by show 1 ≤ 1000; omega⟩]
 rw [← aOf n]
 rfl
theorem aE1 : aa3 0 = [48] := ab2 zb
theorem aB4 {n r : Nat} (hn : 1 ≤ n) (h : r < 10 ^ n) : (atV n r).length = n := by
 unfold atV
 have := (aaZ hn).2 h
 rw [zo, ya]; omega
theorem aRV {n m : Nat} (hn : 1 ≤ n) : (List.replicate (n + 1 - (aa3 m).length) 48 ++ aa3 m).length - n ≤ (List.replicate (n + 1 - (aa3 m).length) 48 ++ aa3 m).length ∧
  (List.replicate (n + 1 - (aa3 m).length) 48 ++ aa3 m).take ((List.replicate (n + 1 - (aa3 m).length) 48 ++ aa3 m).length - n) ++ 46 :: (List.replicate (n + 1 - (aa3 m).length) 48 ++ aa3 m).drop ((List.replicate (n + 1 - (aa3 m).length) 48 ++ aa3 m).length - n) = aPp n m := by
 refine ⟨Nat.sub_le _ _, ?_⟩
 unfold aPp
 rw [if_neg zb]
 have hp : 0 < 10 ^ n := wZ zb
 rcases zv m (10 ^ n) with h | h
 ·have hl := (aaZ hn).2 h
  have hd : m / 10 ^ n = 0 := yQ h
  have hm : m % 10 ^ n = m := yv h
  rw [hd, hm, aE1]
  have e : n + 1 - (aa3 m).length = (n - (aa3 m).length) + 1 := zb
  have hlen : (List.replicate (n + 1 - (aa3 m).length) (48 : UInt8) ++ aa3 m).length - n = 1 := by rw [zo, ya]; omega
  rw [hlen, e, xe]
  rfl
 ·have hl : n + 1 ≤ (aa3 m).length := by
   rcases zv n (aa3 m).length with h2 | h2
   ·omega
   ·have := (aaZ hn).1 h2; omega
  have e : n + 1 - (aa3 m).length = 0 := zb
  rw [e, List.replicate_zero, yX]
  have hq : m / 10 ^ n ≠ 0 := by
   have := Nat.div_pos h hp
   omega
  have hs := ayP hq hn (yy m hp)
  have hdm : m / 10 ^ n * 10 ^ n + m % 10 ^ n = m := by rw [yW]; exact Nat.div_add_mod m (10 ^ n)
  rw [hdm] at hs
  have hpl := aB4 hn (yy m hp)
  generalize atV n (m % 10 ^ n) = pp at *
  rw [hs]
  have hlen : (aa3 (m / 10 ^ n) ++ pp).length - n = (aa3 (m / 10 ^ n)).length := by rw [zo]; omega
  rw [hlen, List.take_left, List.drop_left]
theorem aH6 (a : FxT) (p : Int) (y) (h : aiA (a, p, ()) = some y) : (aAv a p).toO = some y := by
 unfold aiA at h
 dsimp only at h
 unfold aAv
 cases ha : rdF a with
 | none =>
  simp only [ha] at h
  exact uC _ (aaW ha) (uT rfl h)
 | some q =>
  simp only [ha] at h
  have hq := (ac1 ha).1
  have hb := afG ha
  refine uC _ (aaV ha) (uF rfl ?_)
  by_cases c1 : p < 0
  ·rw [if_pos (Or.inl c1)] at h
   exact uT (zl c1) h
  by_cases c2 : p > 20
  ·rw [if_pos (Or.inr c2)] at h
   exact uF (zk c1) (uT (zl c2) h)
  rw [if_neg zb] at h
  obtain ⟨n, rfl⟩ := zE (show 0 ≤ p by omega)
  rw [zm] at h
  injection h with h
  subst h
  have hn : n ≤ 20 := zb
  have h10 : 10 ^ n ≤ 10 ^ 20 := zO zb hn
  have h10' : 10 ^ n ≤ 100000000000000000000 := h10
  have hl := at5 hq (s := 10 ^ n) zb
  refine uF (zk c1) (uF (zk c2) (uC _ (aPL zb) (uN (by simp [lim]; omega) ?_)))
  refine uC (mag (10 ^ n), ()) (by have := ay8 (n := 10 ^ n) (aaG (aaD zb) zb); rw [aOx] at this; exact this) ?_
  refine uC _ (aMl (acR hb zb) (aaG (aaD zb) zb)) ?_
  refine uC _ (aj3 (aSB zb)) ?_
  unfold amC aMv
  have hlm : (aa3 (aj6 q (10 ^ n)).natAbs).length ≤ 9 * 200 + 1 := aeV hl
  have hpos := afL (aj6 q (10 ^ n)).natAbs
  generalize aj6 q (10 ^ n) = z at *
  by_cases c3 : n = 0
  ·subst c3
   refine uF rfl ?_
   unfold aPp
   rw [if_pos rfl]
   by_cases c4 : z < 0
   ·rw [if_pos c4]
    refine uT (zl c4) (uN (by simp [lim]; omega) rfl)
   ·rw [if_neg c4]
    exact uF (zk c4) rfl
  refine uT sd ?_
  have e1 : w64 ((n : Int) + 1) = n + 1 := aaA zb
  have e2 : w64 (w64 ((n : Int) + 1) - len (aa3 z.natAbs)) = (n : Int) + 1 - (aa3 z.natAbs).length := by rw [e1, aaI]; exact aaA zb
  have e3 : (if 0 > w64 (w64 ((n : Int) + 1) - len (aa3 z.natAbs)) then 0 else w64 (w64 ((n : Int) + 1) - len (aa3 z.natAbs))) = ((n + 1 - (aa3 z.natAbs).length : Nat) : Int) := by
   rw [e2]; split <;> omega
  refine uC (List.replicate (n + 1 - (aa3 z.natAbs).length) 48, ()) (by dsimp only; rw [e3]; exact aPL zb) ?_
  obtain ⟨p1, p2⟩ := aRV (n := n) (m := z.natAbs) zb
  dsimp only
  have hsl : (List.replicate (n + 1 - (aa3 z.natAbs).length) (48 : UInt8) ++ aa3 z.natAbs).length ≤ 2000 ∧ n ≤ (List.replicate (n + 1 - (aa3 z.natAbs).length) (48 : UInt8) ++ aa3 z.natAbs).length := by
   rw [zo, ya]; omega
  have hsum : (List.replicate (n + 1 - (aa3 z.natAbs).length) (48 : UInt8)).length + (aa3 z.natAbs).length ≤ 2000 := by rw [← zo]; exact hsl.1
  generalize hs : List.replicate (n + 1 - (aa3 z.natAbs).length) (48 : UInt8) ++ aa3 z.natAbs = s at *
  obtain ⟨s1, s2⟩ := hsl
  have g46 : ([(46 : UInt8)] : List UInt8).length = 1 := rfl
  have g45 : ([(45 : UInt8)] : List UInt8).length = 1 := rfl
  have e4 : w64 (len s - n) = ((s.length - n : Nat) : Int) := by rw [aaI, aaA zb]; omega
  rw [e4, zm]
  have e5 : List.take (s.length - (s.length - n)) (List.drop (s.length - n) s) = s.drop (s.length - n) := zr (by rw [yb]; omega)
  rw [e5]
  have lt1 : (List.take (s.length - n) s).length ≤ 2000 := by rw [zT]; omega
  have lt2 : (List.drop (s.length - n) s).length ≤ 2000 := by rw [yb]; omega
  have e6 : List.take (s.length - n) s ++ #[46].toList ++ List.drop (s.length - n) s = aPp n z.natAbs := by rw [← p2, zY]; rfl
  have le6 : (aPp n z.natAbs).length ≤ 5000 := by rw [← e6]; simp only [zo]; have : (#[(46 : UInt8)].toList).length = 1 := rfl; omega
  refine uN (by unfold lim; omega) (uN ⟨by omega, by rw [aaI]; omega⟩ (uN (by unfold lim; have : (#[(46 : UInt8)].toList).length = 1 := rfl; omega) (uN ⟨by omega, by rw [aaI]; omega⟩ (uN (by rw [zo]; unfold lim; have : (#[(46 : UInt8)].toList).length = 1 := rfl; omega) ?_))))
  by_cases c4 : z < 0
  ·rw [if_pos c4]
   refine uT (zl c4) ?_
   rw [e6]
   exact uN (by unfold lim; have : (#[(45 : UInt8)].toList).length = 1 := rfl; omega) rfl
  ·rw [if_neg c4]
   refine uF (zk c4) ?_
   rw [e6]; rfl
theorem aGt {t : TrT} (h : aoY t = true) : 0 ≤ t.1 ∧ t.1 ≤ 1000000 ∧ 0 ≤ t.2.1 ∧ t.2.1 ≤ t.1 ∧ (∃ g, rdF t.2.2.1 = some g) ∧ (∃ m, rdF t.2.2.2.1 = some m) ∧ t.2.2.2.2.1.length ≤ 4 ∧ ∀ a ∈ t.2.2.2.2.1, ∃ q, rdF a = some q := by
 unfold aoY at h
 cases hg : rdF t.2.2.1 with
 | none => simp [hg] at h
 | some g =>
  cases hm : rdF t.2.2.2.1 with
  | none => simp [hg, hm] at h
  | some m =>
   simp only [hg, hm, zn, zX] at h
   obtain ⟨⟨a, b, c, d⟩, _, h2⟩ := h
   refine ⟨a, b, c, d, ⟨g, rfl⟩, ⟨m, rfl⟩, ?_⟩
   by_cases e : t.2.1 = t.1
   ·rw [if_pos e] at h2
    have := (of_decide_eq_true h2).1
    rw [this]
    exact ⟨by simp, by simp⟩
   ·rw [if_neg e] at h2
    simp only [zn, zX, xR] at h2
    exact ⟨h2.1.2, fun a ha => xh.1 (h2.2 a ha)⟩
theorem aQU {K m s : Nat} (hK : 1 ≤ K) (h : (aa3 m).length ≤ K) : (aa3 (m / s)).length ≤ K :=
 (aaZ hK).2 (we (xp _ _) ((aaZ hK).1 h))
theorem aPT {q : Rat} (hq : aiB q) : (amC q 6).length ≤ 5000 := by
 have hl := at5 hq (s := 10 ^ 6) zf
 have hlm : (aa3 (aj6 q (10 ^ 6)).natAbs).length ≤ 9 * 200 + 1 := aeV hl
 have h2 := aQU (s := 10 ^ 6) zb hlm
 have h3 := aB4 (n := 6) (r := (aj6 q (10 ^ 6)).natAbs % 10 ^ 6) zb (yy _ zf)
 unfold amC aPp
 rw [if_neg zb, zo, zo, zH, h3]
 have h4 : (aMv (aj6 q (10 ^ 6))).length ≤ 1 := by unfold aMv; split <;> simp
 omega
theorem aFj {a : FxT} {q : Rat} (h : rdF a = some q) : aiA (a, 6, ()) = some (amC (rdQ a) 6, 0, ()) := by
 unfold aiA rdQ
 dsimp only
 rw [h]
 rfl
theorem apC {a : FxT} {q : Rat} (h : rdF a = some q) : (amC (rdQ a) 6).length ≤ 5000 := by
 unfold rdQ
 rw [h]
 exact aPT (ac1 h).1
theorem aN2 {l : List (List UInt8)} (h : ∀ x ∈ l, x.length ≤ 5000) : (an3 [32] l).length ≤ 5001 * l.length := by
 have H : ∀ r : List (List UInt8), (∀ x ∈ r, x.length ≤ 5000) → ((r.map fun y => ([32] : List UInt8) ++ y).flatten).length ≤ 5001 * r.length := by
  intro r
  induction r with
  | nil => intro _; simp
  | cons x r ih =>
   intro hr
   have h1 := ih fun y hy => hr y (zx _ hy)
   have h2 := hr x zF
   simp only [wF, wj, zo, zH, yI] at h1 ⊢
   omega
 cases l with
 | nil => exact zL _
 | cons x r =>
  have h1 := H r fun y hy => h y (zx _ hy)
  have h2 := h x zF
  show (x ++ _).length ≤ _
  rw [zo, zH]
  omega
theorem aPM {l : List (List UInt8)} (h1 : 1 ≤ l.length) (h2 : l.length ≤ 6) (h : ∀ x ∈ l, x.length ≤ 5000) : ad8 (l, ()) = some (amQ l, ()) ∧ (amQ l).length ≤ 30100 := by
 have h3 := aN2 h
 refine ⟨if_pos ⟨h1, by show l.length ≤ 1000; omega, by show (an3 [32] l).length ≤ 1000000; omega⟩, ?_⟩
 unfold amQ
 rw [zo]
 have : ([10] : List UInt8).length = 1 := rfl
 omega
theorem awA {a b : List UInt8} (h1 : a.length ≤ 5000) (h2 : b.length ≤ 5000) : ad8 ([a, b], ()) = some (amQ [a, b], ()) ∧ (amQ [a, b]).length ≤ 30100 := by
 refine aPM (by show 1 ≤ 2; omega) (by show 2 ≤ 6; omega) fun x hx => ?_
 rcases zt.1 hx with rfl | hx
 ·exact h1
 ·rcases zt.1 hx with rfl | hx
  ·exact h2
  ·cases hx
theorem aA5 {z : Int} (h0 : 0 ≤ z) (h1 : z ≤ 1000000) : ak1 (z, ()) = some (dec z, ()) ∧ (dec z).length ≤ 5000 := by
 refine ⟨if_pos ⟨by show -9223372036854775808 ≤ z; omega, by show z ≤ 9223372036854775807; omega⟩, ?_⟩
 have h2 := afJ z
 have h3 := acF (k := 6) (n := z.natAbs) (by show z.natAbs < 10000000; omega)
 omega
theorem aBh (v : List UInt8) (e : Int) (y) (h : ag3 (v, e, ()) = some y) : (ao3 v e).toO = some y := by
 unfold ag3 at h
 dsimp only at h
 unfold ao3
 by_cases c : e = 0
 ·rw [if_pos c] at h
  subst c
  exact uF rfl h
 ·rw [if_neg c] at h; cases h
theorem aDC (l : List (List UInt8)) (y) (h : ad8 (l, ()) = some y) : (asU l).toO = some y := by
 unfold ad8 at h
 dsimp only at h
 unfold asU
 by_cases c : 1 ≤ l.length ∧ l.length ≤ 1000 ∧ (an3 [32] l).length ≤ 1000000
 ·rw [if_pos c] at h
  refine uC (an3 [32] l, ()) (if_pos c) (uN ?_ h)
  have : ([(10 : UInt8)] : List UInt8).length = 1 := rfl
  unfold lim
  dsimp only
  omega
 ·rw [if_neg c] at h; cases h
theorem aIP (t : TrT) (hc : aoY t = true) (y : Int × Unit) (y1 y2 y3 y4 : List UInt8 × Unit) (y5 : List UInt8 × Int × Unit) (y6 y7 : List UInt8 × Unit) (y8 : List UInt8 × Int × Unit) (y9 y10 : List UInt8 × Unit)
  (g2 : y2.1.length ≤ 30100) (g4 : y4.1.length ≤ 30100) (g7 : y7.1.length ≤ 30100) (g10 : y10.1.length ≤ 30100) :
  abX (fun i => (ak7 t y y1 y2 y3 y4 y5 y6 y7 y8 y9 y10 i).toO) (0, [wAt], ()) = some (y2.1 ++ y4.1 ++ (y7.1 ++ y10.1) ++ amQ (wAt :: atT t.2.2.2.2.1), 0, ()) := by
 obtain ⟨_, _, _, _, _, _, hl, ha⟩ := aGt hc
 have hb : (y2.1 ++ y4.1 ++ (y7.1 ++ y10.1)).length ≤ 120400 := by
  simp only [zo]; omega
 have hat : wAt.length ≤ 5000 := by show 2 ≤ 5000; omega
 refine aaS (f := fun _ => (y2.1 ++ y4.1 ++ (y7.1 ++ y10.1) ++ amQ (wAt :: atT t.2.2.2.2.1), 0, ())) (fun (i : Int × List (List UInt8) × Unit) => ∃ n : Nat, i.1 = (n : Int) ∧ n ≤ t.2.2.2.2.1.length ∧ i.2.1 = wAt :: (t.2.2.2.2.1.take n).map fun x => amC (rdQ x) 6) (fun i => t.2.2.2.2.1.length - i.1.toNat) ?_ _ ⟨0, rfl, zL _, rfl⟩
 rintro ⟨k, ws, ⟨⟩⟩ ⟨n, hk, hn, hw⟩
 dsimp only at hk hw
 subst hk hw
 rcases zv n t.2.2.2.2.1.length with hlt | hge
 ·left
  have hmem : t.2.2.2.2.1[n] ∈ t.2.2.2.2.1 := yl hlt
  obtain ⟨q, hq⟩ := ha _ hmem
  refine ⟨((n + 1 : Nat), wAt :: (t.2.2.2.2.1.take (n + 1)).map fun x => amC (rdQ x) 6, ()), ?_, ⟨n + 1, rfl, hlt, rfl⟩, by show t.2.2.2.2.1.length - ((n + 1 : Nat) : Int).toNat < t.2.2.2.2.1.length - (n : Int).toNat; omega, rfl⟩
  unfold ak7
  dsimp only
  refine uT (zl (by rw [aaI]; omega)) (uN (aPx zb (by rw [aaI]; omega)) ?_)
  rw [aQy (k := n) rfl hlt]
  refine uC _ (aFj hq) (uC (amC (rdQ t.2.2.2.2.1[n]) 6, ()) (if_pos rfl) ?_)
  have e1 : w64 ((n : Int) + 1) = ((n + 1 : Nat) : Int) := by rw [aaA zb]; omega
  have e2 : List.take ((wAt :: (t.2.2.2.2.1.take n).map fun x => amC (rdQ x) 6).length) (wAt :: (t.2.2.2.2.1.take n).map fun x => amC (rdQ x) 6) ++ [amC (rdQ t.2.2.2.2.1[n]) 6] = wAt :: (t.2.2.2.2.1.take (n + 1)).map fun x => amC (rdQ x) 6 := by
   rw [zu, xu, ← List.map_singleton (f := fun x => amC (rdQ x) 6), ← xI, List.take_append_getElem]
  have e3 : (wAt :: (t.2.2.2.2.1.take n).map fun x => amC (rdQ x) 6).length = n + 1 := by rw [zH, yG, zT]; omega
  have e4 : (wAt :: (t.2.2.2.2.1.take (n + 1)).map fun x => amC (rdQ x) 6).length = n + 1 + 1 := by rw [zH, yG, zT]; omega
  dsimp only
  rw [e1, e2]
  refine uN (by rw [e3]; omega) (uB (uB (uN ⟨⟨rfl, rfl, by rw [e3, e4], rfl⟩, rfl, rfl, rfl, ⟨rfl, rfl, rfl⟩, ⟨rfl, rfl, rfl⟩, ⟨rfl, rfl, rfl⟩, trivial⟩ rfl)))
 ·right
  have he : n = t.2.2.2.2.1.length := zb
  subst he
  unfold ak7
  dsimp only
  refine uF (zk (by rw [aaI]; omega)) ?_
  rw [zu]
  generalize t.2.2.2.2.1 = l at *
  by_cases h0 : l = []
  ·subst h0
   have hL := awA (a := wAt) (b := [45]) hat (by show 1 ≤ 5000; omega)
   refine uT rfl (uN (by show (1 + 1) * 16 ≤ 140737488355328; omega) (uC _ hL.1 (uN (by dsimp only; unfold lim; omega) ?_)))
   have : atT [] = [[45]] := if_pos rfl
   rw [this]
   rfl
  ·have hL := aPM (l := wAt :: l.map fun x => amC (rdQ x) 6) (by rw [zH]; omega) (by rw [zH, yG]; omega) (fun x hx => by
    rcases zt.1 hx with rfl | hx
    ·exact hat
    ·obtain ⟨a, h1, rfl⟩ := zD.1 hx
     obtain ⟨q, hq⟩ := ha a h1
     exact apC hq)
   have hne : (len l == 0) = false := by
    cases l with
    | nil => exact absurd rfl h0
    | cons a r => exact beq_eq_false_iff_ne.2 (by rw [aaI, zH]; omega)
   have : atT l = l.map fun x => amC (rdQ x) 6 := if_neg h0
   rw [this, zu]
   exact uF hne (uC _ hL.1 (uN (by dsimp only; unfold lim; omega) rfl))
theorem aDE (t : TrT) (y) (h : aeW (t, ()) = some y) : (asV t).toO = some y := by
 unfold aeW at h
 dsimp only at h
 ·injection h with h
  subst h
  unfold asV
  by_cases hc : aoY t = true
  ·rw [if_pos hc]
   have hck : abG (t, ()) = some (0, ()) := by unfold abG; dsimp only; rw [if_pos hc]
   obtain ⟨p0, p1, f0, f1, ⟨g, hg⟩, ⟨m, hm⟩, _, _⟩ := aGt hc
   have I1 := aA5 p0 p1
   have I2 := aA5 f0 (by omega : t.2.1 ≤ 1000000)
   have l1 := awA (a := azE) (by show 6 ≤ 5000; omega) I1.2
   have l2 := awA (a := azF) (by show 6 ≤ 5000; omega) I2.2
   have l3 := awA (a := anI) (by show 8 ≤ 5000; omega) (apC hg)
   have l4 := awA (a := aMG) (by show 4 ≤ 5000; omega) (apC hm)
   refine uC _ hck (uF rfl (uC _ I1.1 (uC _ l1.1 (uC _ I2.1 (uC _ l2.1 (uN (by dsimp only; unfold lim; omega) (uC _ (aFj hg) (uC _ (if_pos rfl) (uC _ l3.1 (uC _ (aFj hm) (uC _ (if_pos rfl) (uC _ l4.1 (uN (by dsimp only; unfold lim; omega) (uN (by dsimp only; simp only [zo]; unfold lim; omega) (uO (0, [wAt], ()) rfl ?_)))))))))))))))
   rw [aIP t hc _ _ _ _ _ _ _ _ _ _ _ l1.2 l2.2 l3.2 l4.2]
   rfl
  ·rw [if_neg hc]
   have hck : abG (t, ()) = some (410, ()) := by unfold abG; dsimp only; rw [if_neg hc]
   exact uC _ hck (uT rfl rfl)
open Go Go.Vg Go.RowKit Go.Proofs
theorem aF8 (sep : List UInt8) : ∀ l : List (List UInt8), an3 sep l = aCp sep l
 | [] => rfl
 | x :: r => by
  have ht : ∀ r : List (List UInt8), aHO sep r = (r.map fun y => sep ++ y).flatten := by
   intro r
   induction r with
   | nil => rfl
   | cons y r ih => simp only [aHO, ih, wF, wj, zY]
  show x ++ _ = x ++ _
  rw [ht]
theorem aKH {w : World} {ok : Nat → Prop} {l : List (List UInt8)} {sep : List UInt8} {b o cap : Nat} {c : Array Value} {e : TypeId} {fr : Nat × Nat} (hb : w.heap[b]? = some (.cells c e fr)) (hbl : b < w.heap.size)
  (hr : (c.toList.drop o).take l.length = l.map fun s => .string ⟨⟨s⟩⟩) (k1 : l.length ≤ cap) (g1 : l.length ≤ 1000) (g2 : (an3 sep l).length ≤ 1000000) :
  Calls Tryz.prog 70 ⟨[.slice (some ⟨b, o, none⟩) l.length cap, .string ⟨⟨sep⟩⟩]⟩ w fun e w' => ∃ rs, e = .returned (aIF rs) ∧ RdVs (aB9 ok w w') w' (.pair .str .unit) (an3 sep l, ()) rs ∧ Below w.heap.size w w' := by
 have g2' : (aCp sep l).length ≤ 1000000 := by rw [← aF8]; exact g2
 refine (ax9 (fun bk o c xs sep w h1 h2 h3 h4 h5 => Tryz.strings_Join bk o c xs sep w h1 h2 h3 h4 h5) (l := l) (sep := sep) hb hbl hr k1 g1 g2').mono ?_
 rintro e w' ⟨rfl, hbw⟩
 rw [← aF8]
 exact ⟨[.string ⟨⟨an3 sep l⟩⟩], rfl, aFo (zw g2 zf), hbw⟩
theorem aQg : (aMB (.pair (.sl .str) (.pair .str .unit)) (.pair .str .unit) aMc).ok Tryz.prog Gt 70 := by
 refine avH (by kernel_rfl) (fun w ok vs x y hG hok hvs hy => ?_)
 obtain ⟨l, sep, u⟩ := x
 obtain ⟨v, us, rfl, hv, v2, us2, rfl, hv2, hus⟩ := hvs
 obtain rfl : us2 = [] := hus
 obtain rfl := aTs hv2
 unfold aMc at hy
 split at hy
 case isFalse => cases hy
 case isTrue hr =>
 injection hy with hy
 subst hy
 obtain ⟨g0, g1, g2⟩ := hr
 obtain ⟨cs, ⟨a, cap, e2, k1, k2, k3⟩, hv⟩ := hv
 subst e2
 have hv' : [Value.slice a (List.length (α := List UInt8) l) cap] = [v] := hv
 injection hv' with hv'
 subst hv'
 rcases k3 with k3 | ⟨b, o, c, e, fr, rfl, hokb, hb, hs, hr⟩
 ·have k3' : l = [] := k3
  rw [k3'] at g0
  cases g0
 ·have hr2 : (c.toList.drop o).take (List.length (α := List UInt8) l) = (l : List (List UInt8)).map fun s => Value.string ⟨⟨s⟩⟩ := by
   rw [← anM _ _ hr]
   show _ = (c.toList.drop o).take (List.length (α := List UInt8) l * 1)
   rw [wX]
  exact aKH hb (hok b hokb) hr2 k1 g1 g2
theorem aDB (v : FxT) (e : Int) (y) (h : ab4 (v, e, ()) = some y) : (aBi v e).toO = some y := by
 unfold ab4 at h
 split at h
 ·rename_i he
  have he' : e = 0 := he
  subst he'
  exact uF rfl h
 ·cases h
theorem aBg (n : Int) (y) (h : ab1 (n, ()) = some y) : (aw5 n).toO = some y := by
 unfold ab1 at h
 split at h
 ·rename_i hp
  exact uC _ (aPN (d := 1) hp zb zb) (uC _ rfl h)
 ·cases h
theorem aTT {n d : Int} (h1 : aeI n) (h2 : 0 < d) (h3 : aeI d) : aoT (n, d, ()) = some (fx (mkRat n d.toNat), 0, ()) := by
 have h4 := h3.2
 have := aPN (n := n) (d := d.toNat) h1 zb zb
 rwa [show ((d.toNat : Nat) : Int) = d by omega] at this
theorem aHd (n d : Int) (y) (h : aa2 (n, d, ()) = some y) : (aFN n d).toO = some y := by
 unfold aa2 at h
 split at h
 ·rename_i hp
  exact uC (fx (mkRat n d.toNat), 0, ()) (by unfold av2; exact aTT hp.1 hp.2.1 hp.2.2) h
 ·cases h
theorem aoV {n d : Int} (h1 : aeI n) (h2 : 0 < d) (h3 : aeI d) : aa2 (n, d, ()) = some (fx (mkRat n d.toNat), ()) := if_pos ⟨h1, h2, h3⟩
theorem aGg (a : FxT) : (match a.1 == a.1 with
 | true =>
  match a.2.1 == a.2.1 with
  | true => true
  | false => false
 | false => false) = true := zh
theorem aKU {a b : FxT} (h : a ≠ b) : (match a.1 == b.1 with
 | true =>
  match a.2.1 == b.2.1 with
  | true => true
  | false => false
 | false => false) = false := by
 obtain ⟨a1, a2, a3⟩ := a
 obtain ⟨b1, b2, b3⟩ := b
 dsimp only
 by_cases c1 : a1 = b1
 case neg => rw [beq_eq_false_iff_ne.2 c1]
 by_cases c2 : a2 = b2
 case neg => rw [yA.2 c1, beq_eq_false_iff_ne.2 c2]
 ·subst c1 c2; exact absurd rfl h
theorem azY (x : NmT) (y) (h : ae2 (x, ()) = some y) : (amH x).toO = some y := by
 unfold ae2 at h
 split at h
 case isFalse => cases h
 case isTrue hx =>
 injection h with h
 subst h
 obtain ⟨n, d, u⟩ := x
 obtain ⟨h1, h2, h3, h4⟩ := hx
 dsimp only at h1 h2 h3 h4
 unfold amH
 have e1 : w64 d = d := aaA zb
 have e2 : w64 n = n := aaA zb
 have e3 : w64 (1 + d) = d + 1 := by rw [aaA zb]; omega
 have e4 : w64 (d + 1 + 1) = d + 2 := by rw [aaA zb]; omega
 dsimp only
 rw [e1, e2, e3, e4]
 refine uN zb ?_
 have hb : (n.tmod (d + 2)).natAbs < (d + 2).natAbs := by
  rw [xL]; exact yy _ zb
 unfold shQ
 dsimp only
 generalize hr : n.tmod (d + 2) = r at hb ⊢
 by_cases c : r < 0
 ·refine uT (zl c) ?_
  have e5 : w64 (0 - r) = ((r.natAbs : Nat) : Int) := by rw [aaA zb]; omega
  rw [e5]
  exact uC _ (aoV ⟨by omega, by omega⟩ zb ⟨by omega, by omega⟩) rfl
 ·refine uF (zk c) ?_
  have e5 : r = ((r.natAbs : Nat) : Int) := zb
  conv => lhs; rw [e5]
  exact uC _ (aoV ⟨by omega, by omega⟩ zb ⟨by omega, by omega⟩) rfl
theorem anG {x : NmT} (h : aPv x) : ae2 (x, ()) = some (fx (shQ x), ()) := if_pos h
theorem aQ7 {a : FxT} (h : rdF a = none) : agY (a, ()) = some (0, 20, ()) := by unfold agY; simp only [h]
theorem aMn {a : FxT} {q : Rat} (h : rdF a = some q) : agY (a, ()) = some (q.num.sign, 0, ()) := by unfold agY; simp only [h]
noncomputable def aJf (a : FxT) (i : Int) : (Int × Unit) ⊕ (Int × Unit) := match rdF a with
 | none => .inr (410, ())
 | some q => if q < 0 then .inr (410, ()) else .inl (i, ())
theorem aBf (t : TrT) (k : Nat) (hk : k < 2) (z : FxT) (hz : List.getD [t.2.2.1, t.2.2.2.1] k ([], [], ()) = z) : (acO t ((k : Int), ())).toO = some (aJf z ((k + 1 : Nat) : Int)) := by
 have hx : List.getD [(t.2.2.1.1, t.2.2.1.2.1, ()), (t.2.2.2.1.1, t.2.2.2.1.2.1, ())] (0 + Int.toNat ((k : Int), ()).1) ([], [], ()) = z := by
  rw [← hz]
  match k, hk with
  | 0, _ => rfl
  | 1, _ => rfl
 unfold acO
 refine uT sd (uN sd ?_)
 rw [hx]
 unfold aJf
 cases hr : rdF z with
 | none => exact uC _ (aQ7 hr) (uT rfl rfl)
 | some q =>
  refine uC _ (aMn hr) (uF rfl ?_)
  by_cases c : q < 0
  ·dsimp only
   rw [if_pos c]
   exact uT (zl ((ad1 q).2 c)) rfl
  ·dsimp only
   rw [if_neg c]
   refine uF (zk (fun h => c ((ad1 q).1 h))) ?_
   repeat refine za ?_
   rw [aaA (x := (k : Int) + 1) zb]; rfl
noncomputable def aDw (l : List FxT) : Bool := l.all fun a => (rdF a).isSome
theorem aMK (t : TrT) (i : Int × Unit) (y1 : Int × Int × Unit) (hl : t.2.2.2.2.1.length ≤ 4) : abX (fun i1 => (amD t i y1 i1).toO) (0, ()) = some (.inr ((if aDw t.2.2.2.2.1 then 0 else 410), ())) := by
 obtain ⟨p, f, g, m, l, u⟩ := t
 dsimp only at hl ⊢
 refine aaS (fun i : Int × Unit => ∃ k : Nat, k ≤ l.length ∧ i = ((k : Int), ()) ∧ aDw (l.take k) = true) (fun i => ((l.length : Int) - i.1).toNat) (fun _ => (Sum.inr ((if aDw l then 0 else 410), ()) : (Int × Unit) ⊕ (Int × Unit))) ?_ _ ⟨0, by omega, rfl, by unfold aDw; simp⟩
 rintro i ⟨k, h2, rfl, h3⟩
 unfold amD
 dsimp only
 simp only [aaP]
 rcases zv k l.length with hk | hk
 ·have e1 : l.getD k ([], [], ()) = l[k] := by simp [hk]
  rw [e1]
  by_cases c : (rdF l[k]).isSome = true
  ·left
   refine ⟨(((k + 1 : Nat) : Int), ()), ?_, ⟨k + 1, by omega, rfl, ?_⟩, by dsimp only; omega, zd⟩
   ·refine uT sd (uN sd (uC (0, ()) ?_ (uF rfl ?_)))
    ·show adS (l[k], ()) = _
     unfold adS; dsimp only; rw [if_pos c]
    ·repeat refine za ?_
     rw [aaA (x := (k : Int) + 1) zb]; rfl
   ·unfold aDw at h3 ⊢
    rw [zN hk, vu, h3]
    simp [c]
  ·right
   have e2 : aDw l = false := by unfold aDw; exact List.all_eq_false.2 ⟨l[k], yl hk, c⟩
   rw [e2]
   refine uT sd (uN sd (uC (20, ()) ?_ (uT rfl rfl)))
   show adS (l[k], ()) = _
   unfold adS; dsimp only; rw [if_neg c]
 ·right
  rw [zr hk] at h3
  rw [h3]
  exact uF sd rfl
theorem ajG (q : Rat) : q.num.sign = 0 ↔ q = 0 := by
 constructor
 ·intro h; exact Rat.num_eq_zero.1 (Int.sign_eq_zero_iff_zero.1 h)
 ·rintro rfl; rfl
theorem aML (t : TrT) (g m : Rat) (hg : rdF t.2.2.1 = some g) (hm : rdF t.2.2.2.1 = some m) : (acO t (2, ())).toO = some (.inr ((if decide (m ≤ g) && (if t.2.1 = t.1 then decide (t.2.2.2.2.1 = [] ∧ g = 0) else decide (1 ≤ t.2.2.2.2.1.length ∧ t.2.2.2.2.1.length ≤ 4) && aDw t.2.2.2.2.1) then 0 else 410), ())) := by
 unfold acO
 refine uF rfl ?_
 have hc : ae4 (t.2.2.2.1, t.2.2.1, ()) = some (aDu m g, 0, ()) := by unfold ae4; simp only [hg, hm]
 refine uC _ hc (uF rfl ?_)
 by_cases c1 : m ≤ g
 case neg =>
  rw [zk c1]
  exact uT (zl ((af4 m g).2 (Rat.not_le.1 c1))) rfl
 rw [zl c1]
 refine uF (zk (fun h => xx.2 c1 ((af4 m g).1 h))) ?_
 by_cases c2 : t.2.1 = t.1
 ·rw [if_pos c2]
  refine uT (yA.2 c2) (uC _ (aMn hg) ?_)
  by_cases c3 : t.2.2.2.2.1 = []
  ·refine uF (by rw [c3]; rfl) (uF rfl ?_)
   by_cases c4 : g = 0
   ·rw [zl (show t.2.2.2.2.1 = [] ∧ g = 0 from ⟨c3, c4⟩)]
    refine uF ?_ rfl
    rw [bne_eq_false_iff_eq]; exact (ajG g).2 c4
   ·rw [zk (fun h : t.2.2.2.2.1 = [] ∧ g = 0 => c4 h.2)]
    refine uT ?_ rfl
    rw [xn]; exact fun h => c4 ((ajG g).1 h)
  ·rw [zk (fun h : t.2.2.2.2.1 = [] ∧ g = 0 => c3 h.1)]
   refine uT ?_ rfl
   rw [xn]
   intro h
   have h' : ((t.2.2.2.2.1.length : Nat) : Int) = 0 := h
   exact c3 (yk zb)
 ·rw [if_neg c2]
  refine uF (beq_eq_false_iff_ne.2 c2) ?_
  by_cases c3 : 1 ≤ t.2.2.2.2.1.length
  case neg =>
   rw [zk (fun h : 1 ≤ t.2.2.2.2.1.length ∧ t.2.2.2.2.1.length ≤ 4 => c3 h.1)]
   exact uT sd rfl
  refine uF sd ?_
  by_cases c4 : t.2.2.2.2.1.length ≤ 4
  case neg =>
   rw [zk (fun h : 1 ≤ t.2.2.2.2.1.length ∧ t.2.2.2.2.1.length ≤ 4 => c4 h.2)]
   exact uT sd rfl
  refine uF sd ?_
  rw [zl (show 1 ≤ t.2.2.2.2.1.length ∧ t.2.2.2.2.1.length ≤ 4 from ⟨c3, c4⟩)]
  exact uO (0, ()) rfl (aMK t (2, ()) _ c4)
theorem aAN (t : TrT) (h : 0 ≤ t.1 ∧ t.1 ≤ 1000000 ∧ 0 ≤ t.2.1 ∧ t.2.1 ≤ t.1) : aoY t = (match rdF t.2.2.1, rdF t.2.2.2.1 with
 | some g, some m => decide (0 ≤ g ∧ 0 ≤ m ∧ m ≤ g) && (if t.2.1 = t.1 then decide (t.2.2.2.2.1 = [] ∧ g = 0) else decide (1 ≤ t.2.2.2.2.1.length ∧ t.2.2.2.2.1.length ≤ 4) && aDw t.2.2.2.2.1)
 | _, _ => false) := by
 unfold aoY aDw
 rw [zl h, wG]
 rfl
theorem akT (t : TrT) (h : ¬(0 ≤ t.1 ∧ t.1 ≤ 1000000 ∧ 0 ≤ t.2.1 ∧ t.2.1 ≤ t.1)) : aoY t = false := by
 unfold aoY
 rw [zk h, xv]
theorem aBj (t : TrT) (y) (h : abG (t, ()) = some y) : (ao4 t).toO = some y := by
 unfold abG at h
 injection h with h
 subst h
 dsimp only
 unfold ao4
 by_cases c1 : t.1 < 0
 ·rw [akT t zb]; exact uT (zl c1) rfl
 refine uF (zk c1) ?_
 by_cases c2 : t.1 > 1000000
 ·rw [akT t zb]; exact uT (zl c2) rfl
 refine uF (zk c2) ?_
 by_cases c3 : t.2.1 < 0
 ·rw [akT t zb]; exact uT (zl c3) rfl
 refine uF (zk c3) ?_
 by_cases c4 : t.2.1 > t.1
 ·rw [akT t zb]; exact uT (zl c4) rfl
 refine uF (zk c4) (uO (0, ()) rfl ?_)
 rw [aAN t zb]
 have r0 := aBf t 0 zb t.2.2.1 rfl
 have r1 := aBf t 1 zb t.2.2.2.1 rfl
 unfold aJf at r0 r1
 cases hg : rdF t.2.2.1 with
 | none =>
  rw [hg] at r0
  exact acY r0
 | some g =>
  rw [hg] at r0
  dsimp only at r0
  by_cases g0 : g < 0
  ·rw [if_pos g0] at r0
   have e : abX (fun i => (acO t i).toO) (0, ()) = some (410, ()) := acY r0
   rw [e]
   cases hm : rdF t.2.2.2.1 with
   | none => rfl
   | some m =>
    dsimp only
    have e2 : decide (0 ≤ g ∧ 0 ≤ m ∧ m ≤ g) = false := zk (fun h => xx.2 h.1 g0)
    simp only [e2, xv, yi, if_false]
  ·rw [if_neg g0] at r0
   have e0 : abX (fun i => (acO t i).toO) (0, ()) = abX (fun i => (acO t i).toO) (1, ()) := ab0 r0
   rw [e0]
   cases hm : rdF t.2.2.2.1 with
   | none =>
    rw [hm] at r1
    exact acY r1
   | some m =>
    rw [hm] at r1
    dsimp only at r1 ⊢
    by_cases m0 : m < 0
    ·rw [if_pos m0] at r1
     have e2 : decide (0 ≤ g ∧ 0 ≤ m ∧ m ≤ g) = false := zk (fun h => xx.2 h.2.1 m0)
     simp only [e2, xv, yi, if_false]
     exact acY r1
    ·rw [if_neg m0] at r1
     have e1 : abX (fun i => (acO t i).toO) (1, ()) = abX (fun i => (acO t i).toO) (2, ()) := ab0 r1
     rw [e1]
     have r2 := acY (R := fun i => (acO t i).toO) (i := (2, ())) (aML t g m hg hm)
     rw [r2]
     have e2 : decide (0 ≤ g ∧ 0 ≤ m ∧ m ≤ g) = decide (m ≤ g) := decide_eq_decide.2 ⟨fun h => h.2.2, fun h => ⟨xx.1 g0, xx.1 m0, h⟩⟩
     simp only [e2]
theorem aGB (v : FxT) : ab4 (v, 0, ()) = some (v, ()) := rfl
theorem aAZ {n : Int} (h : aeI n) : ab1 (n, ()) = some (fx (n : Rat), ()) := by unfold ab1; rw [if_pos h]; dsimp only; rw [akK]
theorem aMo {p q : Rat} (h1 : aiB p) (h2 : aiB q) (h3 : aiB (p * q)) : af1 (fx p, fx q, ()) = some (fx (p * q), 0, ()) := by
 unfold af1 aPs
 simp only [ahY h1, ahY h2, aoZ h3]
theorem aPP {p q : Rat} (h1 : aiB p) (h2 : aiB q) (h3 : aiB (p + q)) : aiJ (fx p, fx q, ()) = some (fx (p + q), 0, ()) := by
 unfold aiJ aPs
 simp only [ahY h1, ahY h2, aoZ h3]
theorem aPO {p q : Rat} (h1 : aiB p) (h2 : aiB q) (h0 : q ≠ 0) (h3 : aiB (p / q)) : aiI (fx p, fx q, ()) = some (fx (p / q), 0, ()) := by
 unfold aiI
 simp only [ahY h1, ahY h2, if_neg h0, aoZ h3]
theorem aAc {α : Type} {N M n m : Int} {p q : Rat} {k l : Nat} (e1 : w64 N = n) (e2 : w64 M = m) (hn : 0 ≤ n ∧ n ≤ 1000000) (hm : 0 ≤ m ∧ m ≤ 1000000) (hp : Sm k p) (hq : Sm l q) (hk : k ≤ 200) (hl : l ≤ 200)
  {d1 : FxT × Unit} {d2 : FxT × Int × Unit} {K : FxT × Unit → TT α} {K0 : TT α} {r : Option α} (hK : (K (fx (arV n m p q), ())).toO = r) (hK0 : arV n m p q = 0 → K0.toO = r) :
  (TT.ite (decide (w64 (w64 N + w64 M) > 0)) (TT.call (ab1 (w64 N, ())) d1 fun y3 => TT.call (af1 (fx p, y3.1, ())) d2 fun y4 => TT.call (ab4 (y4.1, y4.2.1, ())) d1 fun y5 =>
   TT.call (ab1 (w64 M, ())) d1 fun y6 => TT.call (af1 (fx q, y6.1, ())) d2 fun y7 => TT.call (ab4 (y7.1, y7.2.1, ())) d1 fun y8 =>
   TT.call (aiJ ((y5.1.1, y5.1.2.1, ()), (y8.1.1, y8.1.2.1, ()), ())) d2 fun y9 => TT.call (ab4 (y9.1, y9.2.1, ())) d1 fun y10 =>
   TT.call (ab1 (w64 (w64 N + w64 M), ())) d1 fun y11 => TT.call (aiI (y10.1, y11.1, ())) d2 fun y12 => TT.call (ab4 (y12.1, y12.2.1, ())) d1 fun y13 => K y13) K0).toO = r := by
 rw [e1, e2, aaA (x := n + m) zb]
 by_cases c : n + m > 0
 case neg =>
  exact uF (zk c) (hK0 (by unfold arV; rw [if_neg c]))
 have s1 : Sm 7 (n : Rat) := aw9 zb (by show _ < 10000000; omega)
 have s2 : Sm 7 (m : Rat) := aw9 zb (by show _ < 10000000; omega)
 have s3 : Sm 7 ((n + m : Int) : Rat) := aw9 zb (by show _ < 10000000; omega)
 have s4 := hp.mul s1
 have s5 := hq.mul s2
 have s6 := s4.add s5
 have s7 := s6.divI (n := n + m) (l := 7) c (by show _ < 10000000; omega)
 refine uT (zl c) (uC _ (aAZ ⟨by omega, by omega⟩) (uC _ (aMo (hp.fit zb) (s1.fit zb) (s4.fit zb)) (uC _ (aGB _)
  (uC _ (aAZ ⟨by omega, by omega⟩) (uC _ (aMo (hq.fit zb) (s2.fit zb) (s5.fit zb)) (uC _ (aGB _) (uC _ (aPP (s4.fit zb) (s5.fit zb) (s6.fit zb)) (uC _ (aGB _)
  (uC _ (aAZ ⟨by omega, by omega⟩) (uC _ (aPO (s6.fit zb) (s3.fit zb) (aE7 c) (s7.fit zb)) (uC _ (aGB _) ?_)))))))))))
 have e : arV n m p q = (p * (n : Rat) + q * (m : Rat)) / ((n + m : Int) : Rat) := by unfold arV; rw [if_pos c]
 rw [← e]
 exact hK
theorem aIt {l : List Rat} (h : ∀ q ∈ l, aiB q) : aDw (l.map fun q => fx q) = true := by
 unfold aDw
 rw [xR]
 intro a ha
 obtain ⟨q, hq, rfl⟩ := zD.1 ha
 rw [ahY (h q hq)]; rfl
theorem aAM {k : Nat} {t : Tp} (h : Gd k t) (hk : k ≤ 600) : aoY (aeK t) = true := by
 have h1 := h.ok.f0; have h2 := h.ok.fp; have h3 := h.p
 rw [aAN (aeK t) ⟨by show 0 ≤ t.p; omega, h3, h1, h2⟩]
 have g1 : rdF (aeK t).2.2.1 = some t.g := ahY (h.g.fit hk)
 have g2 : rdF (aeK t).2.2.2.1 = some t.m := ahY (h.m.fit hk)
 rw [g1, g2]
 dsimp only
 rw [zl (show 0 ≤ t.g ∧ 0 ≤ t.m ∧ t.m ≤ t.g from ⟨h.ok.g0, h.ok.m0, h.ok.mg⟩), wG]
 by_cases c : t.f = t.p
 ·rw [if_pos (show (aeK t).2.1 = (aeK t).1 from c)]
  obtain ⟨z1, z2⟩ := h.ok.z c
  exact zl ⟨by show t.a.map _ = []; rw [z2]; rfl, z1⟩
 ·rw [if_neg (show ¬ (aeK t).2.1 = (aeK t).1 from c)]
  obtain ⟨z1, z2⟩ := h.l c
  have e : (aeK t).2.2.2.2.1.length = t.a.length := yG ..
  rw [e, zl (show 1 ≤ t.a.length ∧ t.a.length ≤ 4 from ⟨z1, z2⟩), wG]
  exact aIt h.a
theorem aMp {k : Nat} {t : Tp} (h : Gd k t) (hk : k ≤ 600) : abG (aeK t, ()) = some (0, ()) := by
 unfold abG
 dsimp only
 rw [aAM h hk]; rfl
theorem Gd.len {k : Nat} {t : Tp} (h : Gd k t) : t.a.length ≤ 4 := by
 by_cases c : t.f = t.p
 ·rw [(h.ok.z c).2]; exact zL _
 ·exact (h.l c).2
theorem aFt {x : NmT} (h : aPv x) : Sm 3 (shQ x) := by
 obtain ⟨h1, h2, h3, h4⟩ := h
 unfold shQ
 have hb : (x.1.tmod (x.2.1 + 2)).natAbs < (x.2.1 + 2).natAbs := by
  rw [xL]; exact yy _ zb
 refine aIX zb (by show _ < 1000; omega) (by show _ < 1000; omega)
theorem aF2 {n : Int} {d : Nat} (hd : d ≠ 0) (h : 0 ≤ n) : 0 ≤ mkRat n d := by
 rw [wE, Rat.div_def]
 exact Rat.mul_nonneg (by exact_mod_cast h) (Rat.le_of_lt (Rat.inv_pos.2 (by exact_mod_cast Nat.pos_of_ne_zero hd)))
theorem aGS {x : NmT} (h : aPv x) : 0 ≤ shQ x := aF2 (by have := h.2.2.1; omega) (Int.natCast_nonneg _)
theorem aRv {x : NmT} (h : aPv x) : shQ x ≤ 1 := by
 obtain ⟨h1, h2, h3, h4⟩ := h
 unfold shQ
 have hb : (x.1.tmod (x.2.1 + 2)).natAbs < (x.2.1 + 2).natAbs := by
  rw [xL]; exact yy _ zb
 have hd : (x.2.1 + 1).toNat ≠ 0 := zb
 have hp : (0 : Rat) < (((x.2.1 + 1).toNat : Nat) : Rat) := by exact_mod_cast Nat.pos_of_ne_zero hd
 refine xx.1 (fun h => ?_)
 have h' := (Rat.mul_lt_mul_right hp).2 h
 rw [aAa _ hd, Rat.one_mul] at h'
 have h2 : (((x.2.1 + 1).toNat : Nat) : Int) < (((x.1.tmod (x.2.1 + 2)).natAbs : Nat) : Int) := by exact_mod_cast h'
 omega
theorem aLc {d : DtT} (h : aIJ d) : 0 ≤ auZ d ∧ auZ d ≤ d.1 := by
 obtain ⟨⟨h1, h2⟩, ⟨h3, h4⟩, -⟩ := h
 unfold auZ
 have a := xY (d.1 + 1) h3
 have b := Int.tmod_lt_of_pos d.2.1 (show 0 < d.1 + 1 by omega)
 omega
theorem aFu {n : Int} (h : 0 ≤ n ∧ n ≤ 65535) : Sm 5 (mkRat n 10000) := aIX zb (by show _ < 100000; omega) (by show _ < 100000; omega)
theorem aCy {n : Int} (h : 0 ≤ n) : 0 ≤ mkRat n 10000 := aF2 zb h
theorem aDK {k : Nat} (h : 1 ≤ k) : Sm k 0 := (show Sm 1 (0 : Rat) from ⟨by decide, by decide⟩).mono h
theorem aQ3 {d : DtT} (h : aIJ d) : ∀ q ∈ atD d, aiB q := by
 obtain ⟨-, -, -, -, h5⟩ := h
 unfold atD
 split
 ·intro q hq
  rw [yj] at hq
  subst hq; exact aK8
 ·intro q hq
  obtain ⟨x, hx, rfl⟩ := zD.1 hq
  exact (aFt (h5 x (yC hx))).fit zb
theorem aSd {d : DtT} (h : aIJ d) : Gd 8 (tpD d) := by
 obtain ⟨f0, f1⟩ := aLc h
 have hh := h
 obtain ⟨⟨h1, h2⟩, ⟨h3, h4⟩, ⟨h5, h6⟩, h7, h8⟩ := h
 unfold tpD
 by_cases c : auZ d = d.1
 ·rw [if_pos c]
  exact ⟨⟨h1, Int.le_refl _, Rat.le_refl, Rat.le_refl, Rat.le_refl, fun _ => ⟨rfl, rfl⟩⟩, by show d.1 ≤ 1000000; omega, aDK zb, aDK zb, fun q hq => (by cases hq), fun h => absurd rfl h⟩
 ·rw [if_neg c]
  have s1 := aFu ⟨h5, h6⟩
  have s2 := aFt h7
  have g0 := aCy h5
  have q0 := aGS h7
  have q1 := aRv h7
  refine ⟨⟨f0, f1, g0, Rat.mul_nonneg g0 q0, ?_, fun h => absurd h c⟩, by show d.1 ≤ 1000000; omega, s1.mono zb, (s1.mul s2), aQ3 hh, fun _ => ?_⟩
  ·show mkRat d.2.2.1 10000 * shQ d.2.2.2.1 ≤ mkRat d.2.2.1 10000
   have := Rat.mul_le_mul_of_nonneg_left q1 g0
   rwa [Rat.mul_one] at this
  ·show 1 ≤ (atD d).length ∧ (atD d).length ≤ 4
   unfold atD
   split
   ·exact ⟨zj _, by decide⟩
   ·rename_i hn
    rw [yG, zT]
    have := zM.2 hn
    omega
theorem av5 {p q : Rat} (h1 : aiB p) (h2 : aiB q) (h3 : aiB (p * q)) : abW (fx p, fx q, ()) = some (fx (p * q), 0, ()) := by
 unfold abW; rw [if_pos ⟨aOR h1, aOR h2⟩]; exact aMo h1 h2 h3
theorem aBA (d : DtT) (y) (h : abC (d, ()) = some y) : (apD d).toO = some y := by
 unfold abC at h
 split at h
 case isFalse => cases h
 case isTrue hd =>
 injection h with h
 subst h
 dsimp only at hd ⊢
 obtain ⟨P, F, G, S, l, u⟩ := d
 have hb := aLc hd
 obtain ⟨⟨h1, h2⟩, ⟨h3, h4⟩, ⟨h5, h6⟩, h7, h8⟩ := hd
 dsimp only at h1 h2 h3 h4 h5 h6 h7 h8
 unfold apD
 dsimp only
 have e1 : w64 P = P := aaA zb
 have e2 : w64 F = F := aaA zb
 have e3 : w64 (P + 1) = P + 1 := aaA zb
 have e4 : w64 G = G := aaA zb
 have e5 : F.tmod (P + 1) = auZ (P, F, G, S, l, u) := rfl
 have ef : Int.tmod (w64 F) (w64 (w64 P + 1)) = auZ (P, F, G, S, l, u) := by rw [e1, e2, e3, e5]
 have z0 : aa2 (0, 1, ()) = some (fx 0, ()) := by
  rw [aoV (n := 0) (d := 1) ⟨by omega, by omega⟩ zb ⟨by omega, by omega⟩, show (1 : Int).toNat = 1 from rfl, aTP]
 refine uC _ z0 ?_
 refine uN (by rw [e1, e3]; omega) ?_
 unfold tpD
 dsimp only
 by_cases c : auZ (P, F, G, S, l, u) = P
 ·rw [if_pos c]
  refine uT (by rw [ef, e1]; exact yA.2 c) ?_
  show some ((w64 P, Int.tmod (w64 F) (w64 (w64 P + 1)), fx 0, fx 0, [], ()), ()) = _
  rw [ef, e1, c]; rfl
 rw [if_neg c]
 have s1 := aFu ⟨h5, h6⟩
 have s2 := aFt h7
 have s3 := s1.mul s2
 refine uF (by rw [ef, e1]; exact beq_eq_false_iff_ne.2 c) (uC (fx (mkRat G 10000), ()) (by rw [e4]; exact aoV (n := G) (d := 10000) ⟨by omega, by omega⟩ zb ⟨by omega, by omega⟩) ?_)
 refine uL (0, dec (mkRat G 10000 * shQ S).num, aa3 (mkRat G 10000 * shQ S).den, ()) ?_ ?_
 ·refine uC _ (anG (x := S) h7) (uV (uV (uC (fx (mkRat G 10000 * shQ S), 0, ()) (av5 (s1.fit zb) (s2.fit zb) (s3.fit zb)) (uV (uV (uF rfl ?_))))))
  repeat refine za ?_
  rfl
 generalize mkRat G 10000 * shQ S = m at *
 generalize mkRat G 10000 = g at *
 unfold as9
 refine uO (0, true, [], ()) rfl ?_
 have hres : ∀ acc : List FxT, acc = (if l = [] then [fx 0] else (l.take 4).map fun x => fx (shQ x)) → ((aeK { p := P, f := auZ (P, F, G, S, l, u), g := g, m := m, a := atD (P, F, G, S, l, u) }, ()) : TrT × Unit) = ((w64 P, Int.tmod (w64 F) (w64 (w64 P + 1)), fx g, fx m, acc, ()), ()) := by
  intro acc ha
  rw [ef, e1, ha]
  unfold aeK atD
  dsimp only
  split
  ·rfl
  ·rw [List.map_map]; rfl
 refine aaS (fun i : Int × Bool × List FxT × Unit => ∃ k : Nat, k ≤ l.length ∧ k ≤ 4 ∧ i = ((k : Int), decide (k = 0), (l.take k).map (fun x => fx (shQ x)), ())) (fun i => (4 - i.1).toNat)
  (fun _ => ((aeK { p := P, f := auZ (P, F, G, S, l, u), g := g, m := m, a := atD (P, F, G, S, l, u) }, ()) : TrT × Unit)) ?_ _ ⟨0, by omega, by omega, rfl⟩
 rintro i ⟨k, k1, k2, rfl⟩
 unfold as8 aiE
 dsimp only
 simp only [aaP]
 by_cases k0 : k = 0
 ·subst k0
  by_cases hn : 0 < l.length
  ·left
   have hx : l.getD 0 (0, 0, ()) = l[0] := by simp [hn]
   have ht : l.take 1 = [l[0]] := by
    cases l with
    | nil => cases hn
    | cons a r => rfl
   refine ⟨(((0 + 1 : Nat) : Int), false, [fx (shQ l[0])], ()), ?_, ⟨1, hn, by omega, ?_⟩, by dsimp only; omega, zd⟩
   ·refine uT rfl (uT sd (uT sd (uN sd (uC (fx (shQ l[0]), ()) (by rw [hx]; exact anG (h8 _ (yl hn))) ?_))))
    repeat refine za ?_
    rw [aaA (x := ((0 : Nat) : Int) + 1) zb]
    rfl
   ·rw [ht]; rfl
  ·right
   have hnil : l = [] := yk zb
   refine uT rfl (uF sd (uN zb ?_))
   rw [hres [fx 0] (by rw [if_pos hnil])]
   rfl
 ·have hlen : ((l.take k).map (fun x => fx (shQ x))).length = k := by rw [yG, zT]; omega
  have hend : (k = 4 ∨ k = l.length) → (l.take k).map (fun x => fx (shQ x)) = (if l = [] then [fx 0] else (l.take 4).map fun x => fx (shQ x)) := by
   intro hh
   have hnn : l ≠ [] := by rintro rfl; simp at k1; omega
   rw [if_neg hnn]
   rcases hh with hh | hh
   ·rw [hh]
   ·rw [hh, zu, zr zb]
  have htk : ∀ acc : List FxT, List.take acc.length acc = acc := fun acc => zu
  rcases zv k l.length with hk | hk
  ·have hx : l.getD k (0, 0, ()) = l[k] := by simp [hk]
   by_cases h4 : k < 4
   ·left
    refine ⟨(((k + 1 : Nat) : Int), false, (l.take k).map (fun x => fx (shQ x)) ++ [fx (shQ l[k])], ()), ?_, ⟨k + 1, by omega, by omega, ?_⟩, by dsimp only; omega, zd⟩
    ·refine uF (zk k0) (uT sd (uT sd (uN sd (uC (fx (shQ l[k]), ()) (by rw [hx]; exact anG (h8 _ (yl hk))) (uN (by rw [hlen]; omega) ?_)))))
     refine uV (uB (uB (uV (uN ?_ ?_))))
     ·rw [htk]; simp
     ·rw [htk, aaA (x := (k : Int) + 1) zb]; rfl
    ·rw [zk (by omega : ¬ k + 1 = 0), zN hk, xI]
     rfl
   ·right
    refine uF (zk k0) (uT sd (uF sd (uF ?_ ?_)))
    ·rw [beq_eq_false_iff_ne]; intro h; have h' : ((((l.take k).map (fun x => fx (shQ x))).length : Nat) : Int) = 0 := h; omega
    ·rw [hres _ (hend zb), htk]; rfl
  ·right
   refine uF (zk k0) (uF sd (uF ?_ ?_))
   ·rw [beq_eq_false_iff_ne]; intro h; have h' : ((((l.take k).map (fun x => fx (shQ x))).length : Nat) : Int) = 0 := h; omega
   ·rw [hres _ (hend zb), htk]; rfl
theorem ay0 {d : DtT} (h : aIJ d) : abC (d, ()) = some (aeK (tpD d), ()) := if_pos h
theorem auF {k : IntKind} {x a b : Int} (h : k.min ≤ x ∧ x ≤ k.max) (ha : k.min = a := by rfl) (hb : k.max = b := by rfl) : a ≤ x ∧ x ≤ b := by subst ha; subst hb; exact h
abbrev aSY : Ty := .pair (.int .i16) (.pair (.int .u8) .unit)
abbrev aSZ : Ty := .pair (.int .u16) (.pair (.int .u16) (.pair (.int .u16) (.pair aSY (.pair (.sl aSY) .unit))))
theorem aRg {x : NmT} (h : Wf aSY x) : aPv x := by
 obtain ⟨h1, h2, -⟩ := h
 exact ⟨(auF h1).1, (auF h1).2, auF h2⟩
theorem aRh {x : DtT} (h : Wf aSZ x) : aIJ x := by
 obtain ⟨h1, h2, h3, h4, ⟨-, h5⟩, -⟩ := h
 exact ⟨auF h1, auF h2, auF h3, aRg h4, fun v hv => aRg (h5 v hv)⟩
end Go.Vs
