/-
  Trees of what the functions compute, and their laws. Own work; no condition.
-/
import Derived.Test.YtlmjbmgabddkiaaGreatDoorClL4
import Derived.Test.YtlmjbmgabddkiaaGreatDoorProg
set_option linter.unusedVariables false
set_option linter.unusedSimpArgs false
set_option maxRecDepth 100000
namespace Go.Vs
open Go Go.Vg Go.Proofs
noncomputable section
def aJf : LTab := []
def aCs (n : Int) (d : Int) : TT ux :=
 .call (asK (n, d, ())) avF fun y =>
 .ok (((y.1.1, y.1.2.1, ()), ()))
def aAT : LTab := []
def akH (x : Int × Int × Unit) : TT ux :=
 .need (w64 (w64 (1 + w64 x.2.1) + 1) ≠ 0) <| .ite (decide (Int.tmod (w64 x.1) (w64 (w64 (1 + w64 x.2.1) + 1)) < 0))
 (.call (ad3 (w64 (0 - Int.tmod (w64 x.1) (w64 (w64 (1 + w64 x.2.1) + 1))), w64 (1 + w64 x.2.1), ())) aoY fun y =>
 .ok (((y.1.1, y.1.2.1, ()), ())))
 (.call (ad3 (Int.tmod (w64 x.1) (w64 (w64 (1 + w64 x.2.1) + 1)), w64 (1 + w64 x.2.1), ())) aoY fun y1 =>
 .ok (((y1.1.1, y1.1.2.1, ()), ())))
def aDx : LTab := [(8, 127, 30722, ⟨0, (Int) × (List UInt8) × (List UInt8) × Unit, .dat (.c 29 0) vG <| .dat (.c 18 4) (Ty.str) <| .dat (.c 18 5) (Ty.str) <| .nil, [4, 3, 2, 1], [29, 18, 3, 1, 0], 0⟩), (8, 2042, 31746, ⟨1, (Int) × Bool × (List vF) × Unit, .dat (.s 6) vG <| .appN (.c 18 6) 31 36 vN <| .nil, [4, 3, 2, 1], [29, 18, 3, 1, 0], 1⟩)]
def agZ (i : (Int) × Bool × (List vF) × Unit) (d : Int × Int × Int × vO × List vO × Unit) (y1 : vF × Unit) (j : Int × List UInt8 × List UInt8 × Unit) (y : vF × Unit) : TT uw :=
 .ite (len i.2.2.1 == 0)
 (.need ((List.length i.2.2.1 + 1) * 32 ≤ 140737488355328) <| .ok (.inr (((w64 d.1, Int.tmod (w64 d.2.1) (w64 (w64 d.1 + 1)), (y1.1.1, y1.1.2.1, ()), (j.2.1, j.2.2.1, ()), List.take (List.length i.2.2.1 + 1) (List.take (List.length i.2.2.1) i.2.2.1 ++ [(y.1.1, y.1.2.1, ())]), ()), ()))))
 (.ok (.inr (((w64 d.1, Int.tmod (w64 d.2.1) (w64 (w64 d.1 + 1)), (y1.1.1, y1.1.2.1, ()), (j.2.1, j.2.2.1, ()), List.take (List.length i.2.2.1) i.2.2.1, ()), ()))))
def ap1 (d : Int × Int × Int × vO × List vO × Unit) (y : vF × Unit) (y1 : vF × Unit) (j : Int × List UInt8 × List UInt8 × Unit) (i : (Int) × Bool × (List vF) × Unit) : TT uw :=
 .ite (i.2.1)
 (.ite (decide (i.1 < len d.2.2.2.2.1))
  (.ite (decide (i.1 < 4))
   (.need (inb i.1 (len d.2.2.2.2.1)) <| .call (ad5 (gi d.2.2.2.2.1 i.1 (0, 0, ()), ())) aoY fun y5 =>
    .need (1 * 32 ≤ 140737488355328) <| .tt <| .lt (w64 (i.1 + 1) : Int) fun z6 => .lt ([(y5.1.1, y5.1.2.1, ())] : List vF) fun z7 => .wZ (vj z6 <| (vh 18 0 true) ∧ (vh 3 0 true) ∧ (vh 1 0 true) ∧ vP ∧ True) <| .wZ (wY (vt 36 z7) <| wY (vB 83 j.1) <| wY (vC 39 (w64 d.1 : Int) (Int.tmod (w64 d.2.1) (w64 (w64 d.1 + 1))) y1.1.1 y1.1.2.1 j.2.1 j.2.2.1 <| (vu 31 0 1 true) ∧ True) <| wY (vq 36 y.1.1 y.1.2.1) <| wY (vC 39 (0 : Int) (0 : Int) (#[].toList : List UInt8) (#[].toList : List UInt8) (#[].toList : List UInt8) (#[].toList : List UInt8) <| True ∧ True) <| wY (vD 28 d.1 d.2.1 d.2.2.1 d.2.2.2.1.1 d.2.2.2.1.2.1 d.2.2.2.2.1) True) <| .ok (.inl ((z6, false, z7, ()))))
   (.need (1 * 32 ≤ 140737488355328) <| .ok (.inr (((w64 d.1, Int.tmod (w64 d.2.1) (w64 (w64 d.1 + 1)), (y1.1.1, y1.1.2.1, ()), (j.2.1, j.2.2.1, ()), [(y.1.1, y.1.2.1, ())], ()), ())))))
  (.need (1 * 32 ≤ 140737488355328) <| .ok (.inr (((w64 d.1, Int.tmod (w64 d.2.1) (w64 (w64 d.1 + 1)), (y1.1.1, y1.1.2.1, ()), (j.2.1, j.2.2.1, ()), [(y.1.1, y.1.2.1, ())], ()), ())))))
 (.ite (decide (i.1 < len d.2.2.2.2.1))
  (.ite (decide (i.1 < 4))
   (.need (inb i.1 (len d.2.2.2.2.1)) <| .call (ad5 (gi d.2.2.2.2.1 i.1 (0, 0, ()), ())) aoY fun y6 =>
    .need ((List.length i.2.2.1 + 1) * 32 ≤ 140737488355328) <| .tt <| .lt (w64 (i.1 + 1) : Int) fun z8 => .lt (List.take (List.length i.2.2.1) i.2.2.1 ++ [(y6.1.1, y6.1.2.1, ())] : List vF) fun z9 => .wZ (vj z8 <| (vh 18 0 true) ∧ (vh 3 0 true) ∧ (vh 1 0 true) ∧ vP ∧ True) <| .need ((((36 : TypeId) = 36) ∧ ((z9 : List vF) = z9)) ∧ (true = true) ∧ (((83 : TypeId) = 83) ∧ (((j.1 : Int) = j.1) ∧ True)) ∧ (true = true) ∧ (((39 : TypeId) = 39) ∧ (((w64 d.1 : Int) = w64 d.1) ∧ (((Int.tmod (w64 d.2.1) (w64 (w64 d.1 + 1)) : Int) = Int.tmod (w64 d.2.1) (w64 (w64 d.1 + 1))) ∧ (((y1.1.1 : List UInt8) = y1.1.1) ∧ (((y1.1.2.1 : List UInt8) = y1.1.2.1) ∧ (((j.2.1 : List UInt8) = j.2.1) ∧ (((j.2.2.1 : List UInt8) = j.2.2.1) ∧ ((((31) = (31)) ∧ (((0) = (0)) ∧ ((List.length i.2.2.1 + 1 = List.length z9) ∧ ((true) = (true))))) ∧ True)))))))) ∧ (true = true) ∧ (((36 : TypeId) = 36) ∧ (((y.1.1 : List UInt8) = y.1.1) ∧ (((y.1.2.1 : List UInt8) = y.1.2.1) ∧ True))) ∧ (true = true) ∧ (((39 : TypeId) = 39) ∧ (((0 : Int) = 0) ∧ (((0 : Int) = 0) ∧ (((#[].toList : List UInt8) = #[].toList) ∧ (((#[].toList : List UInt8) = #[].toList) ∧ (((#[].toList : List UInt8) = #[].toList) ∧ (((#[].toList : List UInt8) = #[].toList) ∧ (True ∧ True)))))))) ∧ (true = true) ∧ (((28 : TypeId) = 28) ∧ (((d.1 : Int) = d.1) ∧ (((d.2.1 : Int) = d.2.1) ∧ (((d.2.2.1 : Int) = d.2.2.1) ∧ (((d.2.2.2.1.1 : Int) = d.2.2.2.1.1) ∧ (((d.2.2.2.1.2.1 : Int) = d.2.2.2.1.2.1) ∧ (((d.2.2.2.2.1 : List vO) = d.2.2.2.2.1) ∧ True))))))) ∧ (true = true) ∧ True) <| .ok (.inl ((z8, false, z9, ()))))
   (agZ i d y1 j y))
  (agZ i d y1 j y))
def ap2 (d : Int × Int × Int × vO × List vO × Unit) (y : vF × Unit) (y1 : vF × Unit) (j : (Int) × (List UInt8) × (List UInt8) × Unit) : TT (vT × Unit) :=
 .loop 1 (.tt <| .wZ (vj (0 : Int) <| (vh 18 0 true) ∧ (vh 3 0 true) ∧ (vh 1 0 true) ∧ vP ∧ True) <| .wZ (wY (vB 83 j.1) <| wY (vC 39 (w64 d.1 : Int) (Int.tmod (w64 d.2.1) (w64 (w64 d.1 + 1))) y1.1.1 y1.1.2.1 j.2.1 j.2.2.1 <| True ∧ True) <| wY (vq 36 y.1.1 y.1.2.1) <| wY (vC 39 (0 : Int) (0 : Int) (#[].toList : List UInt8) (#[].toList : List UInt8) (#[].toList : List UInt8) (#[].toList : List UInt8) <| True ∧ True) <| wY (vD 28 d.1 d.2.1 d.2.2.1 d.2.2.2.1.1 d.2.2.2.1.2.1 d.2.2.2.2.1) True) <| .ok ((0, true, [], ()))) (ap1 d y y1 j)
def amU (d : Int × Int × Int × vO × List vO × Unit) : TT (vT × Unit) :=
 .call (ad3 (0, 1, ())) aoY fun y =>
 .need (w64 (w64 d.1 + 1) ≠ 0) <| .ite (Int.tmod (w64 d.2.1) (w64 (w64 d.1 + 1)) == w64 d.1)
 (.ok (((w64 d.1, Int.tmod (w64 d.2.1) (w64 (w64 d.1 + 1)), (y.1.1, y.1.2.1, ()), (y.1.1, y.1.2.1, ()), [], ()), ())))
 (.call (ad3 (w64 d.2.2.1, 10000, ())) aoY fun y1 =>
 .join 0 (ι := (Int) × (List UInt8) × (List UInt8) × Unit) (.call (ad5 ((d.2.2.2.1.1, d.2.2.2.1.2.1, ()), ())) aoY fun y2 =>
 .tt <| .tt <| .call (ajR ((y1.1.1, y1.1.2.1, ()), (y2.1.1, y2.1.2.1, ()), ())) avF fun y3 =>
 .tt <| .tt <| .ite (y3.2.1 != 0)
 (.call (ad3 (0, 1, ())) aoY fun y4 =>
 .tt <| .lt (y3.2.1 : Int) fun z => .lt (y4.1.1 : List UInt8) fun z1 => .lt (y4.1.2.1 : List UInt8) fun z2 => .wZ ut <| .wZ (wY (vB 83 z) <| wY (vC 39 (w64 d.1 : Int) (Int.tmod (w64 d.2.1) (w64 (w64 d.1 + 1))) y1.1.1 y1.1.2.1 z1 z2 <| True ∧ True) <| wY (vq 36 y.1.1 y.1.2.1) <| wY (vC 39 (0 : Int) (0 : Int) (#[].toList : List UInt8) (#[].toList : List UInt8) (#[].toList : List UInt8) (#[].toList : List UInt8) <| True ∧ True) <| wY (vD 28 d.1 d.2.1 d.2.2.1 d.2.2.2.1.1 d.2.2.2.1.2.1 d.2.2.2.2.1) True) <| .ok (.inl ((z, z1, z2, ()))))
 (.tt <| .lt (y3.2.1 : Int) fun z3 => .lt (y3.1.1 : List UInt8) fun z4 => .lt (y3.1.2.1 : List UInt8) fun z5 => .wZ ut <| .wZ (wY (vB 83 z3) <| wY (vC 39 (w64 d.1 : Int) (Int.tmod (w64 d.2.1) (w64 (w64 d.1 + 1))) y1.1.1 y1.1.2.1 z4 z5 <| True ∧ True) <| wY (vq 36 y.1.1 y.1.2.1) <| wY (vC 39 (0 : Int) (0 : Int) (#[].toList : List UInt8) (#[].toList : List UInt8) (#[].toList : List UInt8) (#[].toList : List UInt8) <| True ∧ True) <| wY (vD 28 d.1 d.2.1 d.2.2.1 d.2.2.2.1.1 d.2.2.2.1.2.1 d.2.2.2.2.1) True) <| .ok (.inl ((z3, z4, z5, ()))))) (ap2 d y y1))
def aFl : LTab := []
def axR (v : List UInt8 × List UInt8 × Unit) (e : Int) : TT ux :=
 .ite (e != 0)
 (.bad)
 (.ok (((v.1, v.2.1, ()), ())))
def aDp : LTab := []
def atP (n : Int) : TT ux :=
 .call (akE (n, 1, ())) avF fun y =>
 .call (abN (y.1, y.2.1, ())) aoY fun y1 =>
 .ok (((y1.1.1, y1.1.2.1, ()), ()))
def aDq : LTab := [(12, 58, 29696, ⟨0, (Int) × Unit, .dat (.s 39) vG <| .nil, [38, 37, 1], [26, 0], 0⟩), (12, 1018, 66560, ⟨1, (Int) × Unit, .dat (.s 105) vG <| .nil, [104, 103], [26, 0], 0⟩)]
def akF (t : Int × Int × vF × vF × List vF × Unit) (i : Int × Unit) (y1 : Int × Int × Unit) (i1 : (Int) × Unit) : TT (vZ ⊕ (vZ ⊕ vU)) :=
 .ite (decide (i1.1 < len t.2.2.2.2.1))
 (.need (inb i1.1 (len t.2.2.2.2.1)) <| .call (afL (((gi t.2.2.2.2.1 i1.1 ([], [], ())).1, (gi t.2.2.2.2.1 i1.1 ([], [], ())).2.1, ()), ())) Dd6 fun y3 =>
 .ite (y3.1 != 0)
 (.ok (.inr (.inr ((410, ())))))
 (.tt <| .lt (w64 (i1.1 + 1) : Int) fun z1 => .wZ (vq z1 (len t.2.2.2.2.1) t.2.2.2.2.1) <| .wZ (wY (vt 36 ([(t.2.2.1.1, t.2.2.1.2.1, ()), (t.2.2.2.1.1, t.2.2.2.1.2.1, ())] : List vF)) <| wY (vE 39 t.1 t.2.1 t.2.2.1.1 t.2.2.1.2.1 t.2.2.2.1.1 t.2.2.2.1.2.1 t.2.2.2.2.1) True) <| .ok (.inl ((z1, ())))))
 (.ok (.inr (.inr ((0, ())))))
def ab2 (t : Int × Int × vF × vF × List vF × Unit) (i : (Int) × Unit) : TT (vZ ⊕ vU) :=
 .ite (decide (i.1 < (↑2 : Int)))
 (.need (inb i.1 (↑2 : Int)) <| .call (afW (((List.getD [(t.2.2.1.1, t.2.2.1.2.1, ()), (t.2.2.2.1.1, t.2.2.2.1.2.1, ())] (0 + Int.toNat i.1) ([], [], ())).1, (List.getD [(t.2.2.1.1, t.2.2.1.2.1, ()), (t.2.2.2.1.1, t.2.2.2.1.2.1, ())] (0 + Int.toNat i.1) ([], [], ())).2.1, ()), ())) aOl fun y =>
 .ite (y.2.1 != 0)
 (.ok (.inr ((410, ()))))
 (.ite (decide (y.1 < 0))
 (.ok (.inr ((410, ()))))
 (.tt <| .lt (w64 (i.1 + 1) : Int) fun z => .triv (((z : Int) = z) ∧ (((↑2 : Int) : Int) = (↑2 : Int)) ∧ (((26) = (26)) ∧ (((0) = (0)) ∧ (((2) = (2)) ∧ ((true) = (true))))) ∧ (((0) = (0)) ∧ (((0) = (0)) ∧ ((true) = (true)))) ∧ True) ⟨rfl, rfl, ⟨rfl, ⟨rfl, ⟨rfl, rfl⟩⟩⟩, ⟨rfl, ⟨rfl, rfl⟩⟩, trivial⟩ <| .wZ (wY (vt 36 ([(t.2.2.1.1, t.2.2.1.2.1, ()), (t.2.2.2.1.1, t.2.2.2.1.2.1, ())] : List vF)) <| wY (vE 39 t.1 t.2.1 t.2.2.1.1 t.2.2.1.2.1 t.2.2.2.1.1 t.2.2.2.1.2.1 t.2.2.2.2.1) True) <| .ok (.inl ((z, ()))))))
 (.call (ad7 ((t.2.2.2.1.1, t.2.2.2.1.2.1, ()), (t.2.2.1.1, t.2.2.1.2.1, ()), ())) aOl fun y1 =>
 .ite (y1.2.1 != 0)
 (.ok (.inr ((410, ()))))
 (.ite (decide (y1.1 > 0))
 (.ok (.inr ((410, ()))))
 (.ite (t.2.1 == t.1)
 (.call (afW ((t.2.2.1.1, t.2.2.1.2.1, ()), ())) aOl fun y2 =>
 .ite (len t.2.2.2.2.1 != 0)
 (.ok (.inr ((410, ()))))
 (.ite (y2.2.1 != 0)
 (.ok (.inr ((410, ()))))
 (.ite (y2.1 != 0)
 (.ok (.inr ((410, ()))))
 (.ok (.inr ((0, ())))))))
 (.ite (decide (len t.2.2.2.2.1 < 1))
 (.ok (.inr ((410, ()))))
 (.ite (decide (len t.2.2.2.2.1 > 4))
 (.ok (.inr ((410, ()))))
 (.loop 1 (.tt <| .wZ (vq (0 : Int) (len t.2.2.2.2.1) t.2.2.2.2.1) <| .wZ (wY (vt 36 ([(t.2.2.1.1, t.2.2.1.2.1, ()), (t.2.2.2.1.1, t.2.2.2.1.2.1, ())] : List vF)) <| wY (vE 39 t.1 t.2.1 t.2.2.1.1 t.2.2.1.2.1 t.2.2.2.1.1 t.2.2.2.1.2.1 t.2.2.2.2.1) True) <| .ok ((0, ()))) (akF t i y1)))))))
def amO (t : Int × Int × vF × vF × List vF × Unit) : TT vU :=
 .ite (decide (t.1 < 0))
 (.ok ((410, ())))
 (.ite (decide (t.1 > 1000000))
 (.ok ((410, ())))
 (.ite (decide (t.2.1 < 0))
 (.ok ((410, ())))
 (.ite (decide (t.2.1 > t.1))
 (.ok ((410, ())))
 (.loop 0 (.tt <| .triv (((0 : Int) = 0) ∧ (((↑2 : Int) : Int) = (↑2 : Int)) ∧ (((26) = (26)) ∧ (((0) = (0)) ∧ (((2) = (2)) ∧ ((true) = (true))))) ∧ (((0) = (0)) ∧ (((0) = (0)) ∧ ((true) = (true)))) ∧ True) ⟨rfl, rfl, ⟨rfl, ⟨rfl, ⟨rfl, rfl⟩⟩⟩, ⟨rfl, ⟨rfl, rfl⟩⟩, trivial⟩ <| .wZ (wY (vt 36 ([(t.2.2.1.1, t.2.2.1.2.1, ()), (t.2.2.2.1.1, t.2.2.2.1.2.1, ())] : List vF)) <| wY (vE 39 t.1 t.2.1 t.2.2.1.1 t.2.2.1.2.1 t.2.2.2.1.1 t.2.2.2.1.2.1 t.2.2.2.2.1) True) <| .ok ((0, ()))) (ab2 t)))))
def aFm : LTab := []
def aiB (b : Int × Int × vF × vF × List vF × Unit) (a : Int × Int × vF × vF × List vF × Unit) (y2 : ((List UInt8) × (List UInt8) × Unit) × Unit) : TT (vT × Int × Unit) :=
 .need (List.length b.2.2.2.2.1 * 32 ≤ 140737488355328) <| .ite (decide (w64 (w64 (a.1 - a.2.1) + w64 (b.1 - b.2.1)) > 0))
 (.call (abL (w64 (a.1 - a.2.1), ())) aoY fun y3 =>
 .call (ae1 ((a.2.2.2.1.1, a.2.2.2.1.2.1, ()), y3.1, ())) avF fun y4 =>
 .call (abN (y4.1, y4.2.1, ())) aoY fun y5 =>
 .call (abL (w64 (b.1 - b.2.1), ())) aoY fun y6 =>
 .call (ae1 ((b.2.2.2.1.1, b.2.2.2.1.2.1, ()), y6.1, ())) avF fun y7 =>
 .call (abN (y7.1, y7.2.1, ())) aoY fun y8 =>
 .call (ag3 ((y5.1.1, y5.1.2.1, ()), (y8.1.1, y8.1.2.1, ()), ())) avF fun y9 =>
 .call (abN (y9.1, y9.2.1, ())) aoY fun y10 =>
 .call (abL (w64 (w64 (a.1 - a.2.1) + w64 (b.1 - b.2.1)), ())) aoY fun y11 =>
 .call (ai0 (y10.1, y11.1, ())) avF fun y12 =>
 .call (abN (y12.1, y12.2.1, ())) aoY fun y13 =>
 .tt <| .triv (Exit.normal = Exit.normal ∨ Exit.normal = Exit.ret) (Or.inl rfl) <| .ok (((w64 (a.1 + b.1), w64 (a.2.1 + b.2.1), (b.2.2.1.1, b.2.2.1.2.1, ()), (y13.1.1, y13.1.2.1, ()), b.2.2.2.2.1, ()), 0, ())))
 (.tt <| .triv (Exit.normal = Exit.normal ∨ Exit.normal = Exit.ret) (Or.inl rfl) <| .ok (((w64 (a.1 + b.1), w64 (a.2.1 + b.2.1), (b.2.2.1.1, b.2.2.1.2.1, ()), (y2.1.1, y2.1.2.1, ()), b.2.2.2.2.1, ()), 0, ())))
def apQ (a : Int × Int × vF × vF × List vF × Unit) (b : Int × Int × vF × vF × List vF × Unit) : TT (vT × Int × Unit) :=
 .call (aeE ((a.1, a.2.1, (a.2.2.1.1, a.2.2.1.2.1, ()), (a.2.2.2.1.1, a.2.2.2.1.2.1, ()), a.2.2.2.2.1, ()), ())) Dd6 fun y =>
 .ite (y.1 != 0)
 (.tt <| .triv (Exit.normal = Exit.normal ∨ Exit.normal = Exit.ret) (Or.inl rfl) <| .ok (((0, 0, (#[].toList, #[].toList, ()), (#[].toList, #[].toList, ()), [], ()), y.1, ())))
 (.call (aeE ((b.1, b.2.1, (b.2.2.1.1, b.2.2.1.2.1, ()), (b.2.2.2.1.1, b.2.2.2.1.2.1, ()), b.2.2.2.2.1, ()), ())) Dd6 fun y1 =>
  .ite (y1.1 != 0)
  (.tt <| .triv (Exit.normal = Exit.normal ∨ Exit.normal = Exit.ret) (Or.inl rfl) <| .ok (((0, 0, (#[].toList, #[].toList, ()), (#[].toList, #[].toList, ()), [], ()), y1.1, ())))
  (.ite (decide (w64 (a.1 + b.1) > 1000000))
   (.tt <| .triv (Exit.normal = Exit.normal ∨ Exit.normal = Exit.ret) (Or.inl rfl) <| .ok (((0, 0, (#[].toList, #[].toList, ()), (#[].toList, #[].toList, ()), [], ()), 410, ())))
   (.call (abL (0, ())) aoY fun y2 =>
    .ite (w64 (a.1 - a.2.1) == 0)
    (aiB b a y2)
    (.call (ad7 ((b.2.2.1.1, b.2.2.1.2.1, ()), (a.2.2.1.1, a.2.2.1.2.1, ()), ())) aOl fun y14 =>
     .tt <| .tt <| .ite (y14.2.1 != 0)
     (.need (-9223372036854775808 ≤ y14.2.1 ∧ y14.2.1 ≤ 9223372036854775807) <| .need (-9223372036854775808 ≤ y14.2.1 ∧ y14.2.1 ≤ 9223372036854775807) <| .tt <| .tt <| .tt <| .triv (Exit.normal = Exit.normal ∨ Exit.normal = Exit.ret) (Or.inl rfl) <| .ok (((0, 0, (#[].toList, #[].toList, ()), (#[].toList, #[].toList, ()), [], ()), y14.2.1, ())))
     (.ite (decide (y14.1 > 0))
      (aiB b a y2)
      (.need (List.length a.2.2.2.2.1 * 32 ≤ 140737488355328) <| .ite (decide (w64 (w64 (a.1 - a.2.1) + w64 (b.1 - b.2.1)) > 0))
       (.call (abL (w64 (a.1 - a.2.1), ())) aoY fun y26 =>
        .call (ae1 ((a.2.2.2.1.1, a.2.2.2.1.2.1, ()), y26.1, ())) avF fun y27 =>
        .call (abN (y27.1, y27.2.1, ())) aoY fun y28 =>
        .call (abL (w64 (b.1 - b.2.1), ())) aoY fun y29 =>
        .call (ae1 ((b.2.2.2.1.1, b.2.2.2.1.2.1, ()), y29.1, ())) avF fun y30 =>
        .call (abN (y30.1, y30.2.1, ())) aoY fun y31 =>
        .call (ag3 ((y28.1.1, y28.1.2.1, ()), (y31.1.1, y31.1.2.1, ()), ())) avF fun y32 =>
        .call (abN (y32.1, y32.2.1, ())) aoY fun y33 =>
        .call (abL (w64 (w64 (a.1 - a.2.1) + w64 (b.1 - b.2.1)), ())) aoY fun y34 =>
        .call (ai0 (y33.1, y34.1, ())) avF fun y35 =>
        .call (abN (y35.1, y35.2.1, ())) aoY fun y36 =>
        .tt <| .triv (Exit.normal = Exit.normal ∨ Exit.normal = Exit.ret) (Or.inl rfl) <| .ok (((w64 (a.1 + b.1), w64 (a.2.1 + b.2.1), (a.2.2.1.1, a.2.2.1.2.1, ()), (y36.1.1, y36.1.2.1, ()), a.2.2.2.2.1, ()), 0, ())))
       (.tt <| .triv (Exit.normal = Exit.normal ∨ Exit.normal = Exit.ret) (Or.inl rfl) <| .ok (((w64 (a.1 + b.1), w64 (a.2.1 + b.2.1), (a.2.2.1.1, a.2.2.1.2.1, ()), (y2.1.1, y2.1.2.1, ()), a.2.2.2.2.1, ()), 0, ())))))))))
def aJ2 : LTab := []
def aCM (n : Int) (d : Int) : TT ux :=
 .call (akE (n, d, ())) avF fun y =>
 .ok (((y.1.1, y.1.2.1, ()), ()))
def aLS : LTab := [(54, 58, 9216, ⟨0, (Int) × Unit, .dat (.s 13) vG <| .nil, [12, 0, 1], [], 0⟩)]
def aCg (s1 : List vF) (s2 : List vF) (i : (Int) × Unit) : TT (vZ ⊕ uc) :=
 .ite (decide (i.1 < len s1))
 (.need (inb i.1 (len s1)) <| .need (inb i.1 (len s2)) <| .ite (!(match (gi s1 i.1 ([], [], ())).1 == (gi s2 i.1 ([], [], ())).1 with | true => (match (gi s1 i.1 ([], [], ())).2.1 == (gi s2 i.1 ([], [], ())).2.1 with | true => true | false => false) | false => false))
 (.ok (.inr ((false, ()))))
 (.tt <| .lt (w64 (i.1 + 1) : Int) fun z => .wZ (vo z (len s1) s1 s2) <| .tr <| .ok (.inl ((z, ())))))
 (.ok (.inr ((true, ()))))
def aAM (s1 : List vF) (s2 : List vF) : TT uc :=
 .ite (len s1 != len s2)
 (.ok ((false, ())))
 (.loop 0 (.tt <| .wZ (vo (0 : Int) (len s1) s1 s2) <| .tr <| .ok ((0, ()))) (aCg s1 s2))
def aEg : LTab := []
def anA (a : Int × Int × vF × vF × List vF × Unit) (b : Int × Int × vF × vF × List vF × Unit) : TT uc :=
 .ite (a.1 == b.1)
 (.ite (a.2.1 == b.2.1)
 (.ite ((match a.2.2.1.1 == b.2.2.1.1 with | true => (match a.2.2.1.2.1 == b.2.2.1.2.1 with | true => true | false => false) | false => false))
 (.ite ((match a.2.2.2.1.1 == b.2.2.2.1.1 with | true => (match a.2.2.2.1.2.1 == b.2.2.2.1.2.1 with | true => true | false => false) | false => false))
 (.call (asI (a.2.2.2.2.1, b.2.2.2.2.1, ())) Dd1 fun y =>
 .ok ((y.1, ())))
 (.ok ((false, ()))))
 (.ok ((false, ()))))
 (.ok ((false, ()))))
 (.ok ((false, ())))
def azB : LTab := []
def aiN (a : List UInt8 × List UInt8 × Unit) (b : List UInt8 × List UInt8 × Unit) : TT uc :=
 .call (ad7 ((a.1, a.2.1, ()), (b.1, b.2.1, ()), ())) aOl fun y =>
 .ite (y.2.1 == 0)
 (.ok ((decide (y.1 ≤ 0), ())))
 (.ok ((false, ())))
def aE2 : LTab := []
def an0 (a : Int × Int × Int × vO × List vO × Unit) (b : Int × Int × Int × vO × List vO × Unit) (c : Int × Int × Int × vO × List vO × Unit) : TT uc :=
 .call (aAr ()) Dd1 fun y =>
 .ite (!y.1)
 (.ok ((false, ())))
 (.call (aeU ((a.1, a.2.1, a.2.2.1, (a.2.2.2.1.1, a.2.2.2.1.2.1, ()), a.2.2.2.2.1, ()), ())) aO3 fun y1 =>
 .call (aeU ((b.1, b.2.1, b.2.2.1, (b.2.2.2.1.1, b.2.2.2.1.2.1, ()), b.2.2.2.2.1, ()), ())) aO3 fun y2 =>
 .call (aeU ((c.1, c.2.1, c.2.2.1, (c.2.2.2.1.1, c.2.2.2.1.2.1, ()), c.2.2.2.2.1, ()), ())) aO3 fun y3 =>
 .call (ajT (0, 1, ())) aoY fun y4 =>
 .call (adY ((y1.1.1, y1.1.2.1, (y1.1.2.2.1.1, y1.1.2.2.1.2.1, ()), (y1.1.2.2.2.1.1, y1.1.2.2.2.1.2.1, ()), y1.1.2.2.2.2.1, ()), (0, 0, (y4.1.1, y4.1.2.1, ()), (y4.1.1, y4.1.2.1, ()), [], ()), ())) aM4 fun y5 =>
 .call (adY ((0, 0, (y4.1.1, y4.1.2.1, ()), (y4.1.1, y4.1.2.1, ()), [], ()), (y1.1.1, y1.1.2.1, (y1.1.2.2.1.1, y1.1.2.2.1.2.1, ()), (y1.1.2.2.2.1.1, y1.1.2.2.2.1.2.1, ()), y1.1.2.2.2.2.1, ()), ())) aM4 fun y6 =>
 .ite (y5.2.1 != 0)
 (.ok ((false, ())))
 (.ite (y6.2.1 != 0)
 (.ok ((false, ())))
 (.call (aeH ((y5.1.1, y5.1.2.1, (y5.1.2.2.1.1, y5.1.2.2.1.2.1, ()), (y5.1.2.2.2.1.1, y5.1.2.2.2.1.2.1, ()), y5.1.2.2.2.2.1, ()), (y1.1.1, y1.1.2.1, (y1.1.2.2.1.1, y1.1.2.2.1.2.1, ()), (y1.1.2.2.2.1.1, y1.1.2.2.2.1.2.1, ()), y1.1.2.2.2.2.1, ()), ())) Dd1 fun y7 =>
 .ite (!y7.1)
 (.ok ((false, ())))
 (.call (aeH ((y6.1.1, y6.1.2.1, (y6.1.2.2.1.1, y6.1.2.2.1.2.1, ()), (y6.1.2.2.2.1.1, y6.1.2.2.2.1.2.1, ()), y6.1.2.2.2.2.1, ()), (y1.1.1, y1.1.2.1, (y1.1.2.2.1.1, y1.1.2.2.1.2.1, ()), (y1.1.2.2.2.1.1, y1.1.2.2.2.1.2.1, ()), y1.1.2.2.2.2.1, ()), ())) Dd1 fun y8 =>
 .ite (!y8.1)
 (.ok ((false, ())))
 (.call (adY ((y1.1.1, y1.1.2.1, (y1.1.2.2.1.1, y1.1.2.2.1.2.1, ()), (y1.1.2.2.2.1.1, y1.1.2.2.2.1.2.1, ()), y1.1.2.2.2.2.1, ()), (y2.1.1, y2.1.2.1, (y2.1.2.2.1.1, y2.1.2.2.1.2.1, ()), (y2.1.2.2.2.1.1, y2.1.2.2.2.1.2.1, ()), y2.1.2.2.2.2.1, ()), ())) aM4 fun y9 =>
 .call (adY ((y2.1.1, y2.1.2.1, (y2.1.2.2.1.1, y2.1.2.2.1.2.1, ()), (y2.1.2.2.2.1.1, y2.1.2.2.2.1.2.1, ()), y2.1.2.2.2.2.1, ()), (y3.1.1, y3.1.2.1, (y3.1.2.2.1.1, y3.1.2.2.1.2.1, ()), (y3.1.2.2.2.1.1, y3.1.2.2.2.1.2.1, ()), y3.1.2.2.2.2.1, ()), ())) aM4 fun y10 =>
 .call (adY ((y9.1.1, y9.1.2.1, (y9.1.2.2.1.1, y9.1.2.2.1.2.1, ()), (y9.1.2.2.2.1.1, y9.1.2.2.2.1.2.1, ()), y9.1.2.2.2.2.1, ()), (y3.1.1, y3.1.2.1, (y3.1.2.2.1.1, y3.1.2.2.1.2.1, ()), (y3.1.2.2.2.1.1, y3.1.2.2.2.1.2.1, ()), y3.1.2.2.2.2.1, ()), ())) aM4 fun y11 =>
 .call (adY ((y1.1.1, y1.1.2.1, (y1.1.2.2.1.1, y1.1.2.2.1.2.1, ()), (y1.1.2.2.2.1.1, y1.1.2.2.2.1.2.1, ()), y1.1.2.2.2.2.1, ()), (y10.1.1, y10.1.2.1, (y10.1.2.2.1.1, y10.1.2.2.1.2.1, ()), (y10.1.2.2.2.1.1, y10.1.2.2.2.1.2.1, ()), y10.1.2.2.2.2.1, ()), ())) aM4 fun y12 =>
 .ite (y9.2.1 == 0)
 (.ite (y10.2.1 == 0)
 (.ite (y11.2.1 == 0)
 (.ite (y12.2.1 == 0)
 (.call (aeH ((y11.1.1, y11.1.2.1, (y11.1.2.2.1.1, y11.1.2.2.1.2.1, ()), (y11.1.2.2.2.1.1, y11.1.2.2.2.1.2.1, ()), y11.1.2.2.2.2.1, ()), (y12.1.1, y12.1.2.1, (y12.1.2.2.1.1, y12.1.2.2.1.2.1, ()), (y12.1.2.2.2.1.1, y12.1.2.2.2.1.2.1, ()), y12.1.2.2.2.2.1, ()), ())) Dd1 fun y13 =>
 .ite (y13.1)
 (.ite (y9.1.1 == w64 (y1.1.1 + y2.1.1))
 (.ite (y9.1.2.1 == w64 (y1.1.2.1 + y2.1.2.1))
 (.call (adE ((y1.1.2.2.1.1, y1.1.2.2.1.2.1, ()), (y9.1.2.2.1.1, y9.1.2.2.1.2.1, ()), ())) Dd1 fun y14 =>
 .ite (y14.1)
 (.call (adE ((y2.1.2.2.1.1, y2.1.2.2.1.2.1, ()), (y9.1.2.2.1.1, y9.1.2.2.1.2.1, ()), ())) Dd1 fun y15 =>
 .ite (y15.1)
 (.call (aeE ((y11.1.1, y11.1.2.1, (y11.1.2.2.1.1, y11.1.2.2.1.2.1, ()), (y11.1.2.2.2.1.1, y11.1.2.2.2.1.2.1, ()), y11.1.2.2.2.2.1, ()), ())) Dd6 fun y16 =>
 .ok ((y16.1 == 0, ())))
 (.ok ((false, ()))))
 (.ok ((false, ()))))
 (.ok ((false, ()))))
 (.ok ((false, ()))))
 (.ok ((false, ()))))
 (.ok ((false, ()))))
 (.ok ((false, ()))))
 (.ok ((false, ()))))
 (.ok ((false, ()))))))))
end
open Go Go.Vg
theorem aAE (v : FxT) (e : Int) (y) (h : abN (v, e, ()) = some y) : (axR v e).toO = some y := by
 unfold abN at h
 split at h
 ·rename_i he
  have he' : e = 0 := he
  subst he'
  exact uF rfl h
 ·cases h
theorem axQ (n : Int) (y) (h : abL (n, ()) = some y) : (atP n).toO = some y := by
 unfold abL at h
 split at h
 ·rename_i hp
  exact uC _ (aLJ (d := 1) hp zb zb) (uC _ rfl h)
 ·cases h
theorem aPg {n d : Int} (h1 : adQ n) (h2 : 0 < d) (h3 : adQ d) : akE (n, d, ()) = some (fx (mkRat n d.toNat), 0, ()) := by
 have h4 := h3.2
 have := aLJ (n := n) (d := d.toNat) h1 zb zb
 rwa [show ((d.toNat : Nat) : Int) = d by omega] at this
theorem aDE (n d : Int) (y) (h : ad3 (n, d, ()) = some y) : (aCs n d).toO = some y := by
 unfold ad3 at h
 split at h
 ·rename_i hp
  exact uC (fx (mkRat n d.toNat), 0, ()) (by unfold asK; exact aPg hp.1 hp.2.1 hp.2.2) h
 ·cases h
theorem aEh (n d : Int) (y) (h : ajT (n, d, ()) = some y) : (aCM n d).toO = some y := by
 unfold ajT ad3 at h
 split at h
 ·rename_i hp
  exact uC _ (aPg hp.1 hp.2.1 hp.2.2) h
 ·cases h
theorem amJ {n d : Int} (h1 : adQ n) (h2 : 0 < d) (h3 : adQ d) : ad3 (n, d, ()) = some (fx (mkRat n d.toNat), ()) := if_pos ⟨h1, h2, h3⟩
theorem as8 (a b : FxT) (y) (h : adE (a, b, ()) = some y) : (aiN a b).toO = some y := by
 unfold adE at h
 dsimp only at h
 unfold aiN
 have hc : ∀ r, ad7 (a, b, ()) = r → ad7 ((a.1, a.2.1, ()), (b.1, b.2.1, ()), ()) = r := fun r h => h
 cases ha : rdF a with
 | none =>
  rw [ha] at h
  refine uC (0, 20, ()) (hc _ (by unfold ad7; simp only [ha])) (uF rfl h)
 | some p =>
  cases hb : rdF b with
  | none =>
   rw [ha, hb] at h
   refine uC (0, 20, ()) (hc _ (by unfold ad7; simp only [ha, hb])) (uF rfl h)
  | some q =>
   rw [ha, hb] at h
   refine uC (aFa p q, 0, ()) (hc _ (by unfold ad7; simp only [ha, hb])) (uT rfl ?_)
   have e : decide (aFa p q ≤ 0) = decide (p ≤ q) := by
    have := alO p q
    apply decide_eq_decide.2
    rw [← Int.not_lt, ← xg]
    exact not_congr this
   show some (decide (aFa p q ≤ 0), ()) = some y
   rw [e]; exact h
theorem aCU (a : FxT) : (match a.1 == a.1 with
 | true =>
  match a.2.1 == a.2.1 with
  | true => true
  | false => false
 | false => false) = true := zh
theorem aHc {a b : FxT} (h : a ≠ b) : (match a.1 == b.1 with
 | true =>
  match a.2.1 == b.2.1 with
  | true => true
  | false => false
 | false => false) = false := by
 obtain ⟨a1, a2, a3⟩ := a
 obtain ⟨b1, b2, b3⟩ := b
 dsimp only
 by_cases c1 : a1 = b1
 case neg => rw [beq_eq_false_iff_ne.2 c1]
 by_cases c2 : a2 = b2
 case neg => rw [yQ.2 c1, beq_eq_false_iff_ne.2 c2]
 ·subst c1 c2; exact absurd rfl h
theorem aFs (s t : List FxT) (y) (h : asI (s, t, ()) = some y) : (aAM s t).toO = some y := by
 unfold asI at h
 split at h
 case isFalse => cases h
 case isTrue hl =>
 injection h with h
 subst h
 dsimp only at hl ⊢
 unfold aAM
 by_cases h1 : s.length = t.length
 case neg =>
  rw [afG (fun h => h1 (by rw [h]))]
  exact uT sd rfl
 refine uF sd (uO (0, ()) rfl ?_)
 refine aaW (fun i : Int × Unit => ∃ k : Nat, k ≤ s.length ∧ i = ((k : Int), ()) ∧ s.take k = t.take k) (fun i => ((s.length : Int) - i.1).toNat) (fun _ => (eqb s t, ())) ?_ _ ⟨0, by omega, rfl, by simp⟩
 rintro i ⟨k, h2, rfl, h3⟩
 simp only [aCg, aaN]
 rcases zt k s.length with hk | hk
 ·have e1 : s.getD k ([], [], ()) = s[k] := by simp [hk]
  have e2 : t.getD k ([], [], ()) = t[k] := by simp [show k < t.length by omega]
  rw [e1, e2]
  by_cases c : s[k] = t[k]
  ·left
   refine ⟨(((k + 1 : Nat) : Int), ()), ?_, ⟨k + 1, by omega, rfl, axV hk zb h3 c⟩, by dsimp only; omega, zd⟩
   refine uT sd (uN sd (uN sd (uF ?_ ?_)))
   ·rw [c]; simp
   ·repeat refine za ?_
    rw [aaA (x := (k : Int) + 1) zb]; rfl
  ·right
   rw [afG (fun h : s = t => c (by subst h; rfl))]
   refine uT sd (uN sd (uN sd (uT ?_ rfl)))
   exact congrArg (fun b : Bool => !b) (aHc c)
 ·right
  rw [zp hk, zp zb] at h3
  rw [apD h3]
  exact uF sd rfl
theorem azA (a b : TrT) (y) (h : aeH (a, b, ()) = some y) : (anA a b).toO = some y := by
 unfold aeH at h
 split at h
 case isFalse => cases h
 case isTrue hl =>
 injection h with h
 subst h
 dsimp only at hl ⊢
 unfold anA
 obtain ⟨p, f, g, m, l, u⟩ := a
 obtain ⟨p', f', g', m', l', u'⟩ := b
 dsimp only at hl ⊢
 by_cases c1 : p = p'
 case neg => rw [afG (fun h => c1 (Prod.mk.inj h).1)]; exact uF (beq_eq_false_iff_ne.2 c1) rfl
 subst c1
 refine uT (yQ.2 rfl) ?_
 by_cases c2 : f = f'
 case neg => rw [afG (fun h => c2 (Prod.mk.inj (Prod.mk.inj h).2).1)]; exact uF (beq_eq_false_iff_ne.2 c2) rfl
 subst c2
 refine uT (yQ.2 rfl) ?_
 by_cases c3 : g = g'
 case neg => rw [afG (fun h => c3 (Prod.mk.inj (Prod.mk.inj (Prod.mk.inj h).2).2).1)]; exact uF (aHc c3) rfl
 subst c3
 refine uT (aCU g) ?_
 by_cases c4 : m = m'
 case neg => rw [afG (fun h => c4 (Prod.mk.inj (Prod.mk.inj (Prod.mk.inj (Prod.mk.inj h).2).2).2).1)]; exact uF (aHc c4) rfl
 subst c4
 refine uT (aCU m) ?_
 refine uC (eqb l l', ()) (by unfold asI; rw [if_pos hl]) ?_
 show some (eqb l l', ()) = _
 by_cases c5 : l = l'
 ·subst c5; rw [apD rfl, apD rfl]
 ·rw [afG c5, afG (fun h => c5 (Prod.mk.inj (Prod.mk.inj (Prod.mk.inj (Prod.mk.inj (Prod.mk.inj h).2).2).2).2).1)]
theorem avZ (x : NmT) (y) (h : ad5 (x, ()) = some y) : (akH x).toO = some y := by
 unfold ad5 at h
 split at h
 case isFalse => cases h
 case isTrue hx =>
 injection h with h
 subst h
 obtain ⟨n, d, u⟩ := x
 obtain ⟨h1, h2, h3, h4⟩ := hx
 dsimp only at h1 h2 h3 h4
 unfold akH
 have e1 : w64 d = d := aaA zb
 have e2 : w64 n = n := aaA zb
 have e3 : w64 (1 + d) = d + 1 := by rw [aaA zb]; omega
 have e4 : w64 (d + 1 + 1) = d + 2 := by rw [aaA zb]; omega
 dsimp only
 rw [e1, e2, e3, e4]
 refine uN zb ?_
 have hb : (n.tmod (d + 2)).natAbs < (d + 2).natAbs := by
  rw [xF]; exact yR _ zb
 unfold shQ
 dsimp only
 generalize hr : n.tmod (d + 2) = r at hb ⊢
 by_cases c : r < 0
 ·refine uT (zm c) ?_
  have e5 : w64 (0 - r) = ((r.natAbs : Nat) : Int) := by rw [aaA zb]; omega
  rw [e5]
  exact uC _ (amJ ⟨by omega, by omega⟩ zb ⟨by omega, by omega⟩) rfl
 ·refine uF (zl c) ?_
  have e5 : r = ((r.natAbs : Nat) : Int) := zb
  conv => lhs; rw [e5]
  exact uC _ (amJ ⟨by omega, by omega⟩ zb ⟨by omega, by omega⟩) rfl
theorem alB {x : NmT} (h : aLt x) : ad5 (x, ()) = some (fx (shQ x), ()) := if_pos h
theorem aMU {a : FxT} (h : rdF a = none) : afW (a, ()) = some (0, 20, ()) := by unfold afW; simp only [h]
theorem aIy {a : FxT} {q : Rat} (h : rdF a = some q) : afW (a, ()) = some (q.num.sign, 0, ()) := by unfold afW; simp only [h]
noncomputable def aFK (a : FxT) (i : Int) : (Int × Unit) ⊕ (Int × Unit) := match rdF a with
 | none => .inr (410, ())
 | some q => if q < 0 then .inr (410, ()) else .inl (i, ())
theorem axP (t : TrT) (k : Nat) (hk : k < 2) (z : FxT) (hz : List.getD [t.2.2.1, t.2.2.2.1] k ([], [], ()) = z) : (ab2 t ((k : Int), ())).toO = some (aFK z ((k + 1 : Nat) : Int)) := by
 have hx : List.getD [(t.2.2.1.1, t.2.2.1.2.1, ()), (t.2.2.2.1.1, t.2.2.2.1.2.1, ())] (0 + Int.toNat ((k : Int), ()).1) ([], [], ()) = z := by
  rw [← hz]
  match k, hk with
  | 0, _ => rfl
  | 1, _ => rfl
 unfold ab2
 refine uT sd (uN sd ?_)
 rw [hx]
 unfold aFK
 cases hr : rdF z with
 | none => exact uC _ (aMU hr) (uT rfl rfl)
 | some q =>
  refine uC _ (aIy hr) (uF rfl ?_)
  by_cases c : q < 0
  ·dsimp only
   rw [if_pos c]
   exact uT (zm ((an8 q).2 c)) rfl
  ·dsimp only
   rw [if_neg c]
   refine uF (zl (fun h => c ((an8 q).1 h))) ?_
   repeat refine za ?_
   rw [aaA (x := (k : Int) + 1) zb]; rfl
noncomputable def aFf (l : List FxT) : Bool := l.all fun a => (rdF a).isSome
theorem aIT (t : TrT) (i : Int × Unit) (y1 : Int × Int × Unit) (hl : t.2.2.2.2.1.length ≤ 4) : adP (fun i1 => (akF t i y1 i1).toO) (0, ()) = some (.inr ((if aFf t.2.2.2.2.1 then 0 else 410), ())) := by
 obtain ⟨p, f, g, m, l, u⟩ := t
 dsimp only at hl ⊢
 refine aaW (fun i : Int × Unit => ∃ k : Nat, k ≤ l.length ∧ i = ((k : Int), ()) ∧ aFf (l.take k) = true) (fun i => ((l.length : Int) - i.1).toNat) (fun _ => (Sum.inr ((if aFf l then 0 else 410), ()) : (Int × Unit) ⊕ (Int × Unit))) ?_ _ ⟨0, by omega, rfl, by unfold aFf; simp⟩
 rintro i ⟨k, h2, rfl, h3⟩
 unfold akF
 dsimp only
 simp only [aaN]
 rcases zt k l.length with hk | hk
 ·have e1 : l.getD k ([], [], ()) = l[k] := by simp [hk]
  rw [e1]
  by_cases c : (rdF l[k]).isSome = true
  ·left
   refine ⟨(((k + 1 : Nat) : Int), ()), ?_, ⟨k + 1, by omega, rfl, ?_⟩, by dsimp only; omega, zd⟩
   ·refine uT sd (uN sd (uC (0, ()) ?_ (uF rfl ?_)))
    ·show afL (l[k], ()) = _
     unfold afL; dsimp only; rw [if_pos c]
    ·repeat refine za ?_
     rw [aaA (x := (k : Int) + 1) zb]; rfl
   ·unfold aFf at h3 ⊢
    rw [zP hk, List.all_append, h3]
    simp [c]
  ·right
   have e2 : aFf l = false := by unfold aFf; exact List.all_eq_false.2 ⟨l[k], yy hk, c⟩
   rw [e2]
   refine uT sd (uN sd (uC (20, ()) ?_ (uT rfl rfl)))
   show afL (l[k], ()) = _
   unfold afL; dsimp only; rw [if_neg c]
 ·right
  rw [zp hk] at h3
  rw [h3]
  exact uF sd rfl
theorem alV (q : Rat) : q.num.sign = 0 ↔ q = 0 := by
 constructor
 ·intro h; exact Rat.num_eq_zero.1 (Int.sign_eq_zero_iff_zero.1 h)
 ·rintro rfl; rfl
theorem aIU (t : TrT) (g m : Rat) (hg : rdF t.2.2.1 = some g) (hm : rdF t.2.2.2.1 = some m) : (ab2 t (2, ())).toO = some (.inr ((if decide (m ≤ g) && (if t.2.1 = t.1 then decide (t.2.2.2.2.1 = [] ∧ g = 0) else decide (1 ≤ t.2.2.2.2.1.length ∧ t.2.2.2.2.1.length ≤ 4) && aFf t.2.2.2.2.1) then 0 else 410), ())) := by
 unfold ab2
 refine uF rfl ?_
 have hc : ad7 (t.2.2.2.1, t.2.2.1, ()) = some (aFa m g, 0, ()) := by unfold ad7; simp only [hg, hm]
 refine uC _ hc (uF rfl ?_)
 by_cases c1 : m ≤ g
 case neg =>
  rw [zl c1]
  exact uT (zm ((alO m g).2 (Rat.not_le.1 c1))) rfl
 rw [zm c1]
 refine uF (zl (fun h => xg.2 c1 ((alO m g).1 h))) ?_
 by_cases c2 : t.2.1 = t.1
 ·rw [if_pos c2]
  refine uT (yQ.2 c2) (uC _ (aIy hg) ?_)
  by_cases c3 : t.2.2.2.2.1 = []
  ·refine uF (by rw [c3]; rfl) (uF rfl ?_)
   by_cases c4 : g = 0
   ·rw [zm (show t.2.2.2.2.1 = [] ∧ g = 0 from ⟨c3, c4⟩)]
    refine uF ?_ rfl
    rw [bne_eq_false_iff_eq]; exact (alV g).2 c4
   ·rw [zl (fun h : t.2.2.2.2.1 = [] ∧ g = 0 => c4 h.2)]
    refine uT ?_ rfl
    rw [xp]; exact fun h => c4 ((alV g).1 h)
  ·rw [zl (fun h : t.2.2.2.2.1 = [] ∧ g = 0 => c3 h.1)]
   refine uT ?_ rfl
   rw [xp]
   intro h
   have h' : ((t.2.2.2.2.1.length : Nat) : Int) = 0 := h
   exact c3 (ya zb)
 ·rw [if_neg c2]
  refine uF (beq_eq_false_iff_ne.2 c2) ?_
  by_cases c3 : 1 ≤ t.2.2.2.2.1.length
  case neg =>
   rw [zl (fun h : 1 ≤ t.2.2.2.2.1.length ∧ t.2.2.2.2.1.length ≤ 4 => c3 h.1)]
   exact uT sd rfl
  refine uF sd ?_
  by_cases c4 : t.2.2.2.2.1.length ≤ 4
  case neg =>
   rw [zl (fun h : 1 ≤ t.2.2.2.2.1.length ∧ t.2.2.2.2.1.length ≤ 4 => c4 h.2)]
   exact uT sd rfl
  refine uF sd ?_
  rw [zm (show 1 ≤ t.2.2.2.2.1.length ∧ t.2.2.2.2.1.length ≤ 4 from ⟨c3, c4⟩)]
  exact uO (0, ()) rfl (aIT t (2, ()) _ c4)
theorem aH1 (t : TrT) (h : 0 ≤ t.1 ∧ t.1 ≤ 1000000 ∧ 0 ≤ t.2.1 ∧ t.2.1 ≤ t.1) : aM2 t = (match rdF t.2.2.1, rdF t.2.2.2.1 with
 | some g, some m => decide (0 ≤ g ∧ 0 ≤ m ∧ m ≤ g) && (if t.2.1 = t.1 then decide (t.2.2.2.2.1 = [] ∧ g = 0) else decide (1 ≤ t.2.2.2.2.1.length ∧ t.2.2.2.2.1.length ≤ 4) && aFf t.2.2.2.2.1)
 | _, _ => false) := by
 unfold aM2 aFf
 rw [zm h, wo]
 rfl
theorem aw4 (t : TrT) (h : ¬(0 ≤ t.1 ∧ t.1 ≤ 1000000 ∧ 0 ≤ t.2.1 ∧ t.2.1 ≤ t.1)) : aM2 t = false := by
 unfold aM2
 rw [zl h, xY]
theorem axS (t : TrT) (y) (h : aeE (t, ()) = some y) : (amO t).toO = some y := by
 unfold aeE at h
 injection h with h
 subst h
 dsimp only
 unfold amO
 by_cases c1 : t.1 < 0
 ·rw [aw4 t zb]; exact uT (zm c1) rfl
 refine uF (zl c1) ?_
 by_cases c2 : t.1 > 1000000
 ·rw [aw4 t zb]; exact uT (zm c2) rfl
 refine uF (zl c2) ?_
 by_cases c3 : t.2.1 < 0
 ·rw [aw4 t zb]; exact uT (zm c3) rfl
 refine uF (zl c3) ?_
 by_cases c4 : t.2.1 > t.1
 ·rw [aw4 t zb]; exact uT (zm c4) rfl
 refine uF (zl c4) (uO (0, ()) rfl ?_)
 rw [aH1 t zb]
 have r0 := axP t 0 zb t.2.2.1 rfl
 have r1 := axP t 1 zb t.2.2.2.1 rfl
 unfold aFK at r0 r1
 cases hg : rdF t.2.2.1 with
 | none =>
  rw [hg] at r0
  exact aeB r0
 | some g =>
  rw [hg] at r0
  dsimp only at r0
  by_cases g0 : g < 0
  ·rw [if_pos g0] at r0
   have e : adP (fun i => (ab2 t i).toO) (0, ()) = some (410, ()) := aeB r0
   rw [e]
   cases hm : rdF t.2.2.2.1 with
   | none => rfl
   | some m =>
    dsimp only
    have e2 : decide (0 ≤ g ∧ 0 ≤ m ∧ m ≤ g) = false := zl (fun h => xg.2 h.1 g0)
    simp only [e2, xY, yf, if_false]
  ·rw [if_neg g0] at r0
   have e0 : adP (fun i => (ab2 t i).toO) (0, ()) = adP (fun i => (ab2 t i).toO) (1, ()) := aeS r0
   rw [e0]
   cases hm : rdF t.2.2.2.1 with
   | none =>
    rw [hm] at r1
    exact aeB r1
   | some m =>
    rw [hm] at r1
    dsimp only at r1 ⊢
    by_cases m0 : m < 0
    ·rw [if_pos m0] at r1
     have e2 : decide (0 ≤ g ∧ 0 ≤ m ∧ m ≤ g) = false := zl (fun h => xg.2 h.2.1 m0)
     simp only [e2, xY, yf, if_false]
     exact aeB r1
    ·rw [if_neg m0] at r1
     have e1 : adP (fun i => (ab2 t i).toO) (1, ()) = adP (fun i => (ab2 t i).toO) (2, ()) := aeS r1
     rw [e1]
     have r2 := aeB (R := fun i => (ab2 t i).toO) (i := (2, ())) (aIU t g m hg hm)
     rw [r2]
     have e2 : decide (0 ≤ g ∧ 0 ≤ m ∧ m ≤ g) = decide (m ≤ g) := decide_eq_decide.2 ⟨fun h => h.2.2, fun h => ⟨xg.1 g0, xg.1 m0, h⟩⟩
     simp only [e2]
theorem aDe (v : FxT) : abN (v, 0, ()) = some (v, ()) := rfl
theorem axE {n : Int} (h : adQ n) : abL (n, ()) = some (fx (n : Rat), ()) := by unfold abL; rw [if_pos h]; dsimp only; rw [aqQ]
theorem aIz {p q : Rat} (h1 : aiA p) (h2 : aiA q) (h3 : aiA (p * q)) : ae1 (fx p, fx q, ()) = some (fx (p * q), 0, ()) := by
 unfold ae1 aLn
 simp only [agM h1, agM h2, amL h3]
theorem aOk {p q : Rat} (h1 : aiA p) (h2 : aiA q) (h3 : aiA (p + q)) : ag3 (fx p, fx q, ()) = some (fx (p + q), 0, ()) := by
 unfold ag3 aLn
 simp only [agM h1, agM h2, amL h3]
theorem aOj {p q : Rat} (h1 : aiA p) (h2 : aiA q) (h0 : q ≠ 0) (h3 : aiA (p / q)) : ai0 (fx p, fx q, ()) = some (fx (p / q), 0, ()) := by
 unfold ai0
 simp only [agM h1, agM h2, if_neg h0, amL h3]
theorem av8 {α : Type} {N M n m : Int} {p q : Rat} {k l : Nat} (e1 : w64 N = n) (e2 : w64 M = m) (hn : 0 ≤ n ∧ n ≤ 1000000) (hm : 0 ≤ m ∧ m ≤ 1000000) (hp : Sm k p) (hq : Sm l q) (hk : k ≤ 200) (hl : l ≤ 200)
  {d1 : FxT × Unit} {d2 : FxT × Int × Unit} {K : FxT × Unit → TT α} {K0 : TT α} {r : Option α} (hK : (K (fx (afA n m p q), ())).toO = r) (hK0 : afA n m p q = 0 → K0.toO = r) :
  (TT.ite (decide (w64 (w64 N + w64 M) > 0)) (TT.call (abL (w64 N, ())) d1 fun y3 => TT.call (ae1 (fx p, y3.1, ())) d2 fun y4 => TT.call (abN (y4.1, y4.2.1, ())) d1 fun y5 =>
   TT.call (abL (w64 M, ())) d1 fun y6 => TT.call (ae1 (fx q, y6.1, ())) d2 fun y7 => TT.call (abN (y7.1, y7.2.1, ())) d1 fun y8 =>
   TT.call (ag3 ((y5.1.1, y5.1.2.1, ()), (y8.1.1, y8.1.2.1, ()), ())) d2 fun y9 => TT.call (abN (y9.1, y9.2.1, ())) d1 fun y10 =>
   TT.call (abL (w64 (w64 N + w64 M), ())) d1 fun y11 => TT.call (ai0 (y10.1, y11.1, ())) d2 fun y12 => TT.call (abN (y12.1, y12.2.1, ())) d1 fun y13 => K y13) K0).toO = r := by
 rw [e1, e2, aaA (x := n + m) zb]
 by_cases c : n + m > 0
 case neg =>
  exact uF (zl c) (hK0 (by unfold afA; rw [if_neg c]))
 have s1 : Sm 7 (n : Rat) := axX zb (by show _ < 10000000; omega)
 have s2 : Sm 7 (m : Rat) := axX zb (by show _ < 10000000; omega)
 have s3 : Sm 7 ((n + m : Int) : Rat) := axX zb (by show _ < 10000000; omega)
 have s4 := hp.mul s1
 have s5 := hq.mul s2
 have s6 := s4.add s5
 have s7 := s6.divI (n := n + m) (l := 7) c (by show _ < 10000000; omega)
 refine uT (zm c) (uC _ (axE ⟨by omega, by omega⟩) (uC _ (aIz (hp.fit zb) (s1.fit zb) (s4.fit zb)) (uC _ (aDe _)
  (uC _ (axE ⟨by omega, by omega⟩) (uC _ (aIz (hq.fit zb) (s2.fit zb) (s5.fit zb)) (uC _ (aDe _) (uC _ (aOk (s4.fit zb) (s5.fit zb) (s6.fit zb)) (uC _ (aDe _)
  (uC _ (axE ⟨by omega, by omega⟩) (uC _ (aOj (s6.fit zb) (s3.fit zb) (ak4 c) (s7.fit zb)) (uC _ (aDe _) ?_)))))))))))
 have e : afA n m p q = (p * (n : Rat) + q * (m : Rat)) / ((n + m : Int) : Rat) := by unfold afA; rw [if_pos c]
 rw [← e]
 exact hK
theorem aEW {l : List Rat} (h : ∀ q ∈ l, aiA q) : aFf (l.map fun q => fx q) = true := by
 unfold aFf
 rw [List.all_eq_true]
 intro a ha
 obtain ⟨q, hq, rfl⟩ := zC.1 ha
 rw [agM (h q hq)]; rfl
theorem aKv {k : Nat} {t : Tp} (h : Gd k t) (hk : k ≤ 600) : aM2 (aeO t) = true := by
 have h1 := h.ok.f0; have h2 := h.ok.fp; have h3 := h.p
 rw [aH1 (aeO t) ⟨by show 0 ≤ t.p; omega, h3, h1, h2⟩]
 have g1 : rdF (aeO t).2.2.1 = some t.g := agM (h.g.fit hk)
 have g2 : rdF (aeO t).2.2.2.1 = some t.m := agM (h.m.fit hk)
 rw [g1, g2]
 dsimp only
 rw [zm (show 0 ≤ t.g ∧ 0 ≤ t.m ∧ t.m ≤ t.g from ⟨h.ok.g0, h.ok.m0, h.ok.mg⟩), wo]
 by_cases c : t.f = t.p
 ·rw [if_pos (show (aeO t).2.1 = (aeO t).1 from c)]
  obtain ⟨z1, z2⟩ := h.ok.z c
  exact zm ⟨by show t.a.map _ = []; rw [z2]; rfl, z1⟩
 ·rw [if_neg (show ¬ (aeO t).2.1 = (aeO t).1 from c)]
  obtain ⟨z1, z2⟩ := h.l c
  have e : (aeO t).2.2.2.2.1.length = t.a.length := xj ..
  rw [e, zm (show 1 ≤ t.a.length ∧ t.a.length ≤ 4 from ⟨z1, z2⟩), wo]
  exact aEW h.a
theorem aB7 {k : Nat} {t : Tp} (h : Gd k t) (hk : k ≤ 600) : aeE (aeO t, ()) = some (0, ()) := by
 unfold aeE
 dsimp only
 rw [aKv h hk]; rfl
theorem Gd.len {k : Nat} {t : Tp} (h : Gd k t) : t.a.length ≤ 4 := by
 by_cases c : t.f = t.p
 ·rw [(h.ok.z c).2]; exact zR _
 ·exact (h.l c).2
theorem aAF (a b : TrT) (y) (h : adY (a, b, ()) = some y) : (apQ a b).toO = some y := by
 obtain ⟨⟨x, z⟩, ⟨hx, hz⟩, e, rfl⟩ := aaH h
 dsimp only at hx hz e ⊢
 clear h
 obtain ⟨rfl, e2⟩ := Prod.mk.inj e
 obtain ⟨rfl, -⟩ := Prod.mk.inj e2
 have x1 := hx.ok.f0; have x2 := hx.ok.fp; have x3 := hx.p
 have z1 := hz.ok.f0; have z2 := hz.ok.fp; have z3 := hz.p
 have lx : ((aeO x).2.2.2.2.1).length ≤ 4 := by rw [show ((aeO x).2.2.2.2.1).length = x.a.length from xj ..]; exact hx.len
 have lz : ((aeO z).2.2.2.2.1).length ≤ 4 := by rw [show ((aeO z).2.2.2.2.1).length = z.a.length from xj ..]; exact hz.len
 unfold apQ aiB
 refine uC (0, ()) (aB7 hx zb) (uF rfl (uC (0, ()) (aB7 hz zb) (uF rfl ?_)))
 have e1 : w64 ((aeO x).1 + (aeO z).1) = x.p + z.p := aaA (by show _ ≤ x.p + z.p ∧ x.p + z.p ≤ _; omega)
 have e2 : w64 ((aeO x).2.1 + (aeO z).2.1) = x.f + z.f := aaA (by show _ ≤ x.f + z.f ∧ x.f + z.f ≤ _; omega)
 have e3 : w64 ((aeO x).1 - (aeO x).2.1) = x.p - x.f := aaA (by show _ ≤ x.p - x.f ∧ x.p - x.f ≤ _; omega)
 have e4 : w64 ((aeO z).1 - (aeO z).2.1) = z.p - z.f := aaA (by show _ ≤ z.p - z.f ∧ z.p - z.f ≤ _; omega)
 rw [e1, e2]
 by_cases c1 : x.p + z.p > 1000000
 ·rw [if_pos c1]
  exact uT (zm c1) (uV (uV rfl))
 rw [if_neg c1]
 refine uF (zl c1) (uC _ (axE ⟨by omega, by omega⟩) ?_)
 have hz0 : ∀ t : Tp, Gd 100 t → t.p - t.f = 0 → t.m = 0 := fun t ht h0 => ht.ok.ok_n h0
 have fin : ∀ (pk : Bool) (g : FxT) (l : List FxT), x.pick z = pk → (if pk then fx z.g else fx x.g) = g → (if pk then (z.a.map fun q => fx q) else (x.a.map fun q => fx q)) = l →
   aeO (x.join z) = (x.p + z.p, x.f + z.f, g, fx (afA (x.p - x.f) (z.p - z.f) x.m z.m), l, ()) := by
  intro pk g l h1 h2 h3
  unfold aeO Tp.join
  dsimp only
  rw [h1, ← h2, ← h3]
  cases pk <;> rfl
 by_cases c2 : x.p - x.f = 0
 ·have hpk : x.pick z = true := by unfold Tp.pick; rw [zm c2]; rfl
  rw [fin true _ _ hpk rfl rfl]
  refine uT (by rw [e3, c2]; rfl) (uN zb ?_)
  refine av8 (p := x.m) (q := z.m) e3 e4 zb zb hx.m hz.m zb zb (uV (uV rfl)) (fun h0 => ?_)
  refine uV (uV ?_)
  rw [h0]; rfl
 ·refine uF (by rw [e3]; exact beq_eq_false_iff_ne.2 c2) ?_
  refine uC _ (aMT (p := z.g) (q := x.g) (hz.g.fit zb) (hx.g.fit zb)) (uV (uV (uF rfl ?_)))
  by_cases c3 : x.g < z.g
  ·have hpk : x.pick z = true := by unfold Tp.pick; rw [zm c3, Bool.or_true]
   rw [fin true _ _ hpk rfl rfl]
   refine uT (zm ((alO _ _).2 c3)) (uN zb ?_)
   refine av8 (p := x.m) (q := z.m) e3 e4 zb zb hx.m hz.m zb zb (uV (uV rfl)) (fun h0 => ?_)
   refine uV (uV ?_)
   rw [h0]; rfl
  ·have hpk : x.pick z = false := by unfold Tp.pick; rw [zl c3, zl c2]; rfl
   rw [fin false _ _ hpk rfl rfl]
   refine uF (zl (fun h => c3 ((alO _ _).1 h))) (uN zb ?_)
   refine av8 (p := x.m) (q := z.m) e3 e4 zb zb hx.m hz.m zb zb (uV (uV rfl)) (fun h0 => ?_)
   refine uV (uV ?_)
   rw [h0]; rfl
theorem aFq {x : NmT} (h : aLt x) : Sm 3 (shQ x) := by
 obtain ⟨h1, h2, h3, h4⟩ := h
 unfold shQ
 have hb : (x.1.tmod (x.2.1 + 2)).natAbs < (x.2.1 + 2).natAbs := by
  rw [xF]; exact yR _ zb
 refine aFr zb (by show _ < 1000; omega) (by show _ < 1000; omega)
theorem aCG {n : Int} {d : Nat} (hd : d ≠ 0) (h : 0 ≤ n) : 0 ≤ mkRat n d := by
 rw [wk, wx]
 exact wN (by exact_mod_cast h) (wX (Rat.inv_pos.2 (by exact_mod_cast Nat.pos_of_ne_zero hd)))
theorem aDt {x : NmT} (h : aLt x) : 0 ≤ shQ x := aCG (by have := h.2.2.1; omega) (Int.natCast_nonneg _)
theorem aNi {x : NmT} (h : aLt x) : shQ x ≤ 1 := by
 obtain ⟨h1, h2, h3, h4⟩ := h
 unfold shQ
 have hb : (x.1.tmod (x.2.1 + 2)).natAbs < (x.2.1 + 2).natAbs := by
  rw [xF]; exact yR _ zb
 have hd : (x.2.1 + 1).toNat ≠ 0 := zb
 have hp : (0 : Rat) < (((x.2.1 + 1).toNat : Nat) : Rat) := by exact_mod_cast Nat.pos_of_ne_zero hd
 refine xg.1 (fun h => ?_)
 have h' := (Rat.mul_lt_mul_right hp).2 h
 rw [av6 _ hd, Rat.one_mul] at h'
 have h2 : (((x.2.1 + 1).toNat : Nat) : Int) < (((x.1.tmod (x.2.1 + 2)).natAbs : Nat) : Int) := by exact_mod_cast h'
 omega
theorem aHs {d : DtT} (h : aFe d) : 0 ≤ arK d ∧ arK d ≤ d.1 := by
 obtain ⟨⟨h1, h2⟩, ⟨h3, h4⟩, -⟩ := h
 unfold arK
 have a := xP (d.1 + 1) h3
 have b := Int.tmod_lt_of_pos d.2.1 (show 0 < d.1 + 1 by omega)
 omega
theorem aCe {n : Int} (h : 0 ≤ n ∧ n ≤ 65535) : Sm 5 (mkRat n 10000) := aFr zb (by show _ < 100000; omega) (by show _ < 100000; omega)
theorem azK {n : Int} (h : 0 ≤ n) : 0 ≤ mkRat n 10000 := aCG zb h
theorem avQ {k : Nat} (h : 1 ≤ k) : Sm k 0 := (show Sm 1 (0 : Rat) from ⟨by decide, by decide⟩).mono h
theorem aMQ {d : DtT} (h : aFe d) : ∀ q ∈ atD d, aiA q := by
 obtain ⟨-, -, -, -, h5⟩ := h
 unfold atD
 split
 ·intro q hq
  rw [yg] at hq
  subst hq; exact aHo
 ·intro q hq
  obtain ⟨x, hx, rfl⟩ := zC.1 hq
  exact (aFq (h5 x (yE hx))).fit zb
theorem aHb {d : DtT} (h : aFe d) : Gd 8 (tpD d) := by
 obtain ⟨f0, f1⟩ := aHs h
 have hh := h
 obtain ⟨⟨h1, h2⟩, ⟨h3, h4⟩, ⟨h5, h6⟩, h7, h8⟩ := h
 unfold tpD
 by_cases c : arK d = d.1
 ·rw [if_pos c]
  exact ⟨⟨h1, Int.le_refl _, xi, xi, xi, fun _ => ⟨rfl, rfl⟩⟩, by show d.1 ≤ 1000000; omega, avQ zb, avQ zb, fun q hq => (by cases hq), fun h => absurd rfl h⟩
 ·rw [if_neg c]
  have s1 := aCe ⟨h5, h6⟩
  have s2 := aFq h7
  have g0 := azK h5
  have q0 := aDt h7
  have q1 := aNi h7
  refine ⟨⟨f0, f1, g0, wN g0 q0, ?_, fun h => absurd h c⟩, by show d.1 ≤ 1000000; omega, s1.mono zb, (s1.mul s2), aMQ hh, fun _ => ?_⟩
  ·show mkRat d.2.2.1 10000 * shQ d.2.2.2.1 ≤ mkRat d.2.2.1 10000
   have := Rat.mul_le_mul_of_nonneg_left q1 g0
   rwa [Rat.mul_one] at this
  ·show 1 ≤ (atD d).length ∧ (atD d).length ≤ 4
   unfold atD
   split
   ·exact ⟨zi _, by decide⟩
   ·rename_i hn
    rw [xj, ye]
    have := zL.2 hn
    omega
theorem aIs {p q : Rat} (h1 : aiA p) (h2 : aiA q) (h3 : aiA (p * q)) : ajR (fx p, fx q, ()) = some (fx (p * q), 0, ()) := by
 unfold ajR; rw [if_pos ⟨aKM h1, aKM h2⟩]; exact aIz h1 h2 h3
theorem ax8 (d : DtT) (y) (h : aeU (d, ()) = some y) : (amU d).toO = some y := by
 unfold aeU at h
 split at h
 case isFalse => cases h
 case isTrue hd =>
 injection h with h
 subst h
 dsimp only at hd ⊢
 obtain ⟨P, F, G, S, l, u⟩ := d
 have hb := aHs hd
 obtain ⟨⟨h1, h2⟩, ⟨h3, h4⟩, ⟨h5, h6⟩, h7, h8⟩ := hd
 dsimp only at h1 h2 h3 h4 h5 h6 h7 h8
 unfold amU
 dsimp only
 have e1 : w64 P = P := aaA zb
 have e2 : w64 F = F := aaA zb
 have e3 : w64 (P + 1) = P + 1 := aaA zb
 have e4 : w64 G = G := aaA zb
 have e5 : F.tmod (P + 1) = arK (P, F, G, S, l, u) := rfl
 have ef : Int.tmod (w64 F) (w64 (w64 P + 1)) = arK (P, F, G, S, l, u) := by rw [e1, e2, e3, e5]
 have z0 : ad3 (0, 1, ()) = some (fx 0, ()) := by
  rw [amJ (n := 0) (d := 1) ⟨by omega, by omega⟩ zb ⟨by omega, by omega⟩, show (1 : Int).toNat = 1 from rfl, aO8]
 refine uC _ z0 ?_
 refine uN (by rw [e1, e3]; omega) ?_
 unfold tpD
 dsimp only
 by_cases c : arK (P, F, G, S, l, u) = P
 ·rw [if_pos c]
  refine uT (by rw [ef, e1]; exact yQ.2 c) ?_
  show some ((w64 P, Int.tmod (w64 F) (w64 (w64 P + 1)), fx 0, fx 0, [], ()), ()) = _
  rw [ef, e1, c]; rfl
 rw [if_neg c]
 have s1 := aCe ⟨h5, h6⟩
 have s2 := aFq h7
 have s3 := s1.mul s2
 refine uF (by rw [ef, e1]; exact beq_eq_false_iff_ne.2 c) (uC (fx (mkRat G 10000), ()) (by rw [e4]; exact amJ (n := G) (d := 10000) ⟨by omega, by omega⟩ zb ⟨by omega, by omega⟩) ?_)
 refine uL (0, dec (mkRat G 10000 * shQ S).num, abV (mkRat G 10000 * shQ S).den, ()) ?_ ?_
 ·refine uC _ (alB (x := S) h7) (uV (uV (uC (fx (mkRat G 10000 * shQ S), 0, ()) (aIs (s1.fit zb) (s2.fit zb) (s3.fit zb)) (uV (uV (uF rfl ?_))))))
  repeat refine za ?_
  rfl
 generalize mkRat G 10000 * shQ S = m at *
 generalize mkRat G 10000 = g at *
 unfold ap2
 refine uO (0, true, [], ()) rfl ?_
 have hres : ∀ acc : List FxT, acc = (if l = [] then [fx 0] else (l.take 4).map fun x => fx (shQ x)) → ((aeO { p := P, f := arK (P, F, G, S, l, u), g := g, m := m, a := atD (P, F, G, S, l, u) }, ()) : TrT × Unit) = ((w64 P, Int.tmod (w64 F) (w64 (w64 P + 1)), fx g, fx m, acc, ()), ()) := by
  intro acc ha
  rw [ef, e1, ha]
  unfold aeO atD
  dsimp only
  split
  ·rfl
  ·rw [List.map_map]; rfl
 refine aaW (fun i : Int × Bool × List FxT × Unit => ∃ k : Nat, k ≤ l.length ∧ k ≤ 4 ∧ i = ((k : Int), decide (k = 0), (l.take k).map (fun x => fx (shQ x)), ())) (fun i => (4 - i.1).toNat)
  (fun _ => ((aeO { p := P, f := arK (P, F, G, S, l, u), g := g, m := m, a := atD (P, F, G, S, l, u) }, ()) : TrT × Unit)) ?_ _ ⟨0, by omega, by omega, rfl⟩
 rintro i ⟨k, k1, k2, rfl⟩
 unfold ap1 agZ
 dsimp only
 simp only [aaN]
 by_cases k0 : k = 0
 ·subst k0
  by_cases hn : 0 < l.length
  ·left
   have hx : l.getD 0 (0, 0, ()) = l[0] := by simp [hn]
   have ht : l.take 1 = [l[0]] := by
    cases l with
    | nil => cases hn
    | cons a r => rfl
   refine ⟨(((0 + 1 : Nat) : Int), false, [fx (shQ l[0])], ()), ?_, ⟨1, hn, by omega, ?_⟩, by dsimp only; omega, zd⟩
   ·refine uT rfl (uT sd (uT sd (uN sd (uC (fx (shQ l[0]), ()) (by rw [hx]; exact alB (h8 _ (yy hn))) ?_))))
    repeat refine za ?_
    rw [aaA (x := ((0 : Nat) : Int) + 1) zb]
    rfl
   ·rw [ht]; rfl
  ·right
   have hnil : l = [] := ya zb
   refine uT rfl (uF sd (uN zb ?_))
   rw [hres [fx 0] (by rw [if_pos hnil])]
   rfl
 ·have hlen : ((l.take k).map (fun x => fx (shQ x))).length = k := by rw [xj, ye]; omega
  have hend : (k = 4 ∨ k = l.length) → (l.take k).map (fun x => fx (shQ x)) = (if l = [] then [fx 0] else (l.take 4).map fun x => fx (shQ x)) := by
   intro hh
   have hnn : l ≠ [] := by rintro rfl; simp at k1; omega
   rw [if_neg hnn]
   rcases hh with hh | hh
   ·rw [hh]
   ·rw [hh, zq, zp zb]
  have htk : ∀ acc : List FxT, List.take acc.length acc = acc := fun acc => zq
  rcases zt k l.length with hk | hk
  ·have hx : l.getD k (0, 0, ()) = l[k] := by simp [hk]
   by_cases h4 : k < 4
   ·left
    refine ⟨(((k + 1 : Nat) : Int), false, (l.take k).map (fun x => fx (shQ x)) ++ [fx (shQ l[k])], ()), ?_, ⟨k + 1, by omega, by omega, ?_⟩, by dsimp only; omega, zd⟩
    ·refine uF (zl k0) (uT sd (uT sd (uN sd (uC (fx (shQ l[k]), ()) (by rw [hx]; exact alB (h8 _ (yy hk))) (uN (by rw [hlen]; omega) ?_)))))
     refine uV (uB (uB (uV (uN ?_ ?_))))
     ·rw [htk]; simp
     ·rw [htk, aaA (x := (k : Int) + 1) zb]; rfl
    ·rw [zl (by omega : ¬ k + 1 = 0), zP hk, wA]
     rfl
   ·right
    refine uF (zl k0) (uT sd (uF sd (uF ?_ ?_)))
    ·rw [beq_eq_false_iff_ne]; intro h; have h' : ((((l.take k).map (fun x => fx (shQ x))).length : Nat) : Int) = 0 := h; omega
    ·rw [hres _ (hend zb), htk]; rfl
  ·right
   refine uF (zl k0) (uF sd (uF ?_ ?_))
   ·rw [beq_eq_false_iff_ne]; intro h; have h' : ((((l.take k).map (fun x => fx (shQ x))).length : Nat) : Int) = 0 := h; omega
   ·rw [hres _ (hend zb), htk]; rfl
theorem an2 {d : DtT} (h : aFe d) : aeU (d, ()) = some (aeO (tpD d), ()) := if_pos h
theorem Tp.join_g1 {x y : Tp} (hx : x.Ok) (hy : y.Ok) : x.g ≤ (x.join y).g := by
 have h2 := hx.fp
 show x.g ≤ if x.pick y then y.g else x.g
 split
 ·rename_i h
  simp only [Tp.pick, yn, zH] at h
  rcases h with h | h
  ·rw [(hx.z zb).1]; exact hy.g0
  ·exact wX h
 ·exact xi
theorem Tp.join_g2 {x y : Tp} : y.g ≤ (x.join y).g := by
 show y.g ≤ if x.pick y then y.g else x.g
 split
 ·exact xi
 ·rename_i h
  simp only [Tp.pick, yn, zH, not_or] at h
  exact xg.1 h.2
theorem aBo {k l : Nat} {x z : Tp} (hx : Gd k x) (hz : Gd l z) (h : x.p + z.p ≤ 1000000) : Gd (k + l + 22) (x.join z) := by
 have x1 := hx.ok.f0; have x2 := hx.ok.fp; have x3 := hx.p
 have z1 := hz.ok.f0; have z2 := hz.ok.fp; have z3 := hz.p
 refine ⟨Tp.join_ok hx.ok hz.ok, h, ?_, aJU zb zb zb zb hx.m hz.m, ?_, ?_⟩
 ·show Sm _ (if x.pick z then z.g else x.g)
  split
  ·exact hz.g.mono zb
  ·exact hx.g.mono zb
 ·show ∀ q ∈ (if x.pick z then z.a else x.a), aiA q
  split
  ·exact hz.a
  ·exact hx.a
 ·intro hne
  have hne' : x.f + z.f ≠ x.p + z.p := hne
  show 1 ≤ (if x.pick z then z.a else x.a).length ∧ (if x.pick z then z.a else x.a).length ≤ 4
  split
  ·rename_i hp
   simp only [Tp.pick, yn, zH] at hp
   refine hz.l (fun e => ?_)
   rcases hp with hp | hp
   ·omega
   ·rw [(hz.ok.z e).1] at hp
    exact xg.2 hx.ok.g0 hp
  ·rename_i hp
   simp only [Tp.pick, yn, zH, not_or] at hp
   exact hx.l (fun e => hp.1 zb)
def nilT : Tp := { p := 0, f := 0, g := 0, m := 0, a := [] }
theorem aLw : Gd 8 nilT := ⟨⟨Int.le_refl _, Int.le_refl _, xi, xi, xi, fun _ => ⟨rfl, rfl⟩⟩, by show (0 : Int) ≤ 1000000; omega, avQ zb, avQ zb, fun q hq => (by cases hq), fun h => absurd rfl h⟩
theorem aEi {x : Tp} (h : x.Ok) : x.join nilT = x := by
 have h1 := h.f0; have h2 := h.fp
 have hz := h.z
 have hm := aGS (n := x.p - x.f) (b := 0) zb h.ok_n
 have hg := h.g0
 obtain ⟨p, f, g, m, a⟩ := x
 unfold Tp.join Tp.pick nilT
 dsimp only at *
 rw [Tp.mk.injEq, show (0 : Int) - 0 = 0 from rfl, hm]
 refine ⟨by omega, by omega, ?_, rfl, ?_⟩
 ·split
  ·rename_i hp
   simp only [yn, zH] at hp
   rcases hp with hp | hp
   ·exact (hz zb).1.symm
   ·exact absurd hp (xg.2 hg)
  ·rfl
 ·split
  ·rename_i hp
   simp only [yn, zH] at hp
   rcases hp with hp | hp
   ·exact (hz zb).2.symm
   ·exact absurd hp (xg.2 hg)
  ·rfl
theorem aEj {x : Tp} (h : x.Ok) : nilT.join x = x := by
 have h1 := h.f0; have h2 := h.fp
 have hm := aGT (n := x.p - x.f) (a := 0) zb h.ok_n
 obtain ⟨p, f, g, m, a⟩ := x
 unfold Tp.join Tp.pick nilT
 dsimp only at *
 rw [Tp.mk.injEq, show (0 : Int) - 0 = 0 from rfl, hm]
 exact ⟨by omega, by omega, rfl, rfl, rfl⟩
theorem auF : ∀ {a b : List Rat}, (a.map fun q => fx q) = (b.map fun q => fx q) → a = b
 | [], [], _ => rfl
 | [], _ :: _, h => by cases h
 | _ :: _, [], h => by cases h
 | x :: a, y :: b, h => by
  injection h with h1 h2
  rw [azL h1, auF h2]
theorem aC2 {a b : Tp} (h : aeO a = aeO b) : a = b := by
 obtain ⟨p, f, g, m, l⟩ := a
 obtain ⟨p', f', g', m', l'⟩ := b
 unfold aeO at h
 dsimp only at h
 obtain ⟨h1, h⟩ := Prod.mk.inj h
 obtain ⟨h2, h⟩ := Prod.mk.inj h
 obtain ⟨h3, h⟩ := Prod.mk.inj h
 obtain ⟨h4, h⟩ := Prod.mk.inj h
 obtain ⟨h5, -⟩ := Prod.mk.inj h
 rw [h1, h2, azL h3, azL h4, auF h5]
theorem Gd.mono {k l : Nat} {x : Tp} (h : Gd k x) (hkl : k ≤ l) : Gd l x := ⟨h.ok, h.p, h.g.mono hkl, h.m.mono hkl, h.a, h.l⟩
theorem avD {k l : Nat} {x z : Tp} (hx : Gd k x) (hz : Gd l z) (hk : k ≤ 100) (hl : l ≤ 100) (hs : x.p + z.p ≤ 1000000) : adY (aeO x, aeO z, ()) = some (aeO (x.join z), 0, ()) := by
 have := aaR (enc := fun x : Tp × Tp => (aeO x.1, aeO x.2, ())) (pre := fun x => Gd 100 x.1 ∧ Gd 100 x.2)
  (f := fun x => (if x.1.p + x.2.p > 1000000 then (noT, 410, ()) else (aeO (x.1.join x.2), 0, ()) : TrT × Int × Unit)) (x, z) ⟨hx.mono hk, hz.mono hl⟩ (fun b hb => by
   obtain ⟨b1, b2⟩ := b
   obtain ⟨h1, h2⟩ := Prod.mk.inj hb
   obtain ⟨h2, -⟩ := Prod.mk.inj h2
   exact Prod.ext (aC2 h1) (aC2 h2))
 refine Eq.trans (show adY (aeO x, aeO z, ()) = _ from this) ?_
 dsimp only
 rw [if_neg zb]
theorem aIq {a b : Tp} (h : a = b) (hl : a.a.length ≤ 4) : aeH (aeO a, aeO b, ()) = some (true, ()) := by
 unfold aeH
 have e : (aeO a).2.2.2.2.1.length = a.a.length := xj ..
 rw [if_pos (by show (aeO a).2.2.2.2.1.length ≤ _; omega)]
 dsimp only
 rw [apD (by rw [h])]
theorem aDi {p q : Rat} (hp : aiA p) (hq : aiA q) (h : p ≤ q) : adE (fx p, fx q, ()) = some (true, ()) := by
 unfold adE
 simp only [agM hp, agM hq, zm h]
theorem aIv : ajT (0, 1, ()) = some (fx 0, ()) := by
 unfold ajT
 rw [amJ (n := 0) (d := 1) ⟨by omega, by omega⟩ zb ⟨by omega, by omega⟩, show (1 : Int).toNat = 1 from rfl, aO8]
theorem aLN {d : DtT} : (tpD d).p = d.1 := by unfold tpD; split <;> rfl
theorem auK {k : IntKind} {x a b : Int} (h : k.min ≤ x ∧ x ≤ k.max) (ha : k.min = a := by rfl) (hb : k.max = b := by rfl) : a ≤ x ∧ x ≤ b := by subst ha; subst hb; exact h
abbrev aOE : Ty := .pair (.int .i16) (.pair (.int .u8) .unit)
abbrev aOm : Ty := .pair (.int .u16) (.pair (.int .u16) (.pair (.int .u16) (.pair aOE (.pair (.sl aOE) .unit))))
theorem aM5 {x : NmT} (h : Wf aOE x) : aLt x := by
 obtain ⟨h1, h2, -⟩ := h
 exact ⟨(auK h1).1, (auK h1).2, auK h2⟩
theorem aLM {x : DtT} (h : Wf aOm x) : aFe x := by
 obtain ⟨h1, h2, h3, h4, ⟨-, h5⟩, -⟩ := h
 exact ⟨auK h1, auK h2, auK h3, aM5 h4, fun v hv => aM5 (h5 v hv)⟩
theorem aLK {x : DtT × DtT × DtT × Unit} (h : Wf (.pair aOm (.pair aOm (.pair aOm .unit))) x) : aFe x.1 ∧ aFe x.2.1 ∧ aFe x.2.2.1 := ⟨aLM h.1, aLM h.2.1, aLM h.2.2.1⟩
theorem aAq (a b c : DtT) (hd : aFe a ∧ aFe b ∧ aFe c) (y) (h : an1 (a, b, c, ()) = some y) : (an0 a b c).toO = some y := by
 injection h with h
 subst h
 obtain ⟨ha, hb, hc⟩ := hd
 have px := aLN (d := a); have py := aLN (d := b); have pz := aLN (d := c)
 have qa := ha.1; have qb := hb.1; have qc := hc.1
 have gx := aHb ha; have gy := aHb hb; have gz := aHb hc
 have L1 := an2 ha; have L2 := an2 hb; have L3 := an2 hc
 generalize tpD a = x at *
 generalize tpD b = w at *
 generalize tpD c = z at *
 have gxy := aBo gx gy zb
 have gyz := aBo gy gz zb
 have s1 : (x.join w).p = x.p + w.p := rfl
 have s2 : (w.join z).p = w.p + z.p := rfl
 have gl := aBo gxy gz zb
 have J1 := avD gx aLw zb zb (by show x.p + 0 ≤ _; omega)
 have J2 := avD aLw gx zb zb (by show 0 + x.p ≤ _; omega)
 rw [aEi gx.ok] at J1
 rw [aEj gx.ok] at J2
 have J3 := avD gx gy zb zb zb
 have J4 := avD gy gz zb zb zb
 have J5 := avD gxy gz zb zb zb
 have J6 := avD gx gyz zb zb zb
 have has := Tp.join_assoc gx.ok gy.ok gz.ok
 have x1 := gx.ok.f0; have x2 := gx.ok.fp; have x3 := gx.p
 have z1 := gy.ok.f0; have z2 := gy.ok.fp; have z3 := gy.p
 unfold an0
 refine uC (true, ()) rfl (uF rfl (uC (aeO x, ()) L1 (uC (aeO w, ()) L2 (uC (aeO z, ()) L3 (uC (fx 0, ()) aIv ?_)))))
 refine uC (aeO x, 0, ()) J1 (uC (aeO x, 0, ()) J2 (uF rfl (uF rfl ?_)))
 refine uC (true, ()) (aIq rfl gx.len) (uF rfl (uC (true, ()) (aIq rfl gx.len) (uF rfl ?_)))
 refine uC (aeO (x.join w), 0, ()) J3 (uC (aeO (w.join z), 0, ()) J4 (uC (aeO ((x.join w).join z), 0, ()) J5 (uC (aeO (x.join (w.join z)), 0, ()) J6 ?_)))
 refine uT rfl (uT rfl (uT rfl (uT rfl (uC (true, ()) (aIq has gl.len) (uT rfl ?_)))))
 refine uT (yQ.2 ?_) (uT (yQ.2 ?_) ?_)
 ·exact (aaA (by show _ ≤ x.p + w.p ∧ x.p + w.p ≤ _; omega)).symm
 ·exact (aaA (by show _ ≤ x.f + w.f ∧ x.f + w.f ≤ _; omega)).symm
 refine uC (true, ()) (aDi (gx.g.fit zb) (gxy.g.fit zb) (Tp.join_g1 gx.ok gy.ok)) (uT rfl ?_)
 refine uC (true, ()) (aDi (gy.g.fit zb) (gxy.g.fit zb) Tp.join_g2) (uT rfl ?_)
 exact uC (0, ()) (aB7 gl zb) rfl
set_option maxRecDepth 100000
open Go Go.Vg Go.Proofs
noncomputable section
def aFg : LTab := [(239, 12, 1025, ⟨0, (List Int) × Unit, .dat (.s 0) uk <| .nil, [2], [], 0⟩)]
def aDn : LTab := [(222, 218, 5122, ⟨0, (Int) × Bool × (List Int) × Unit, .dat (.s 4) vG <| .appN (.s 3) 5 180 vI <| .nil, [2, 0], [], 1⟩), (222, 55834, 13314, ⟨1, (Int) × (Int) × Unit, .dat (.s 7) vG <| .dat (.s 6) vI <| .nil, [15, 5, 14, 13, 12, 3, 4, 2, 0], [], 0⟩), (222, 55834, 13313, ⟨2, (Int) × (Int) × Unit, .dat (.s 7) vG <| .dat (.s 6) vI <| .nil, [15, 5, 14, 13, 12, 3, 4, 2, 0], [5], 0⟩)]
end
end Go.Vs
