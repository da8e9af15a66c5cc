/-
  Trees of what the functions compute, and their laws. Own work; no condition.
-/
import Derived.Test.YtakjojajnblpoaaGreatDoorClX1
import Derived.Test.YtakjojajnblpoaaGreatDoorProg
set_option linter.unusedVariables false
set_option linter.unusedSimpArgs false
set_option maxRecDepth 100000
namespace Go.Vs
open Go Go.Vg Go.Proofs
noncomputable section
def aLW : LTab := []
def apB (m : List Int) : TT (Bool × Unit) :=
 .ok ((len m == 0, ()))
def aLX : LTab := [(207, 12, 1025, { tag := 0, ι := (List Int) × Unit, vs := .dat (.s 0) (Ty.sl (Ty.int IntKind.u32)) <| .nil, ks := [2], kh := [], fresh := 0 })]
def az1 (m : List Int) (i : (List Int) × Unit) : TT (((List Int) × Unit) ⊕ (List Int × Unit)) :=
 .ite (decide (len i.1 > 0))
 (.need (inb (w64 (len i.1 - 1)) (len i.1)) <| .ite (gi i.1 (w64 (len i.1 - 1)) 0 == 0)
 (.need (inc (w64 (len i.1 - 1)) (len i.1)) <| .tt <| .lt (List.take (Int.toNat (w64 (len i.1 - 1))) i.1 : List Int) fun z => .triv (Qq z ∧ True ∧ True) tv <| .tr <| .ok (.inl ((z, ()))))
 (.ok (.inr ((i.1, ())))))
 (.ok (.inr ((i.1, ()))))
def avX (m : List Int) : TT (List Int × Unit) :=
 .loop 0 (.tt <| .triv (Qq m ∧ True ∧ True) tv <| .tr <| .ok ((m, ()))) (az1 m)
def aIY : LTab := [(175, 58, 6144, { tag := 0, ι := (Int) × (Int) × Unit, vs := .dat (.s 4) (Ty.int IntKind.i64) <| .dat (.s 3) (Ty.int IntKind.u64) <| .nil, ks := [2, 0], kh := [], fresh := 0 })]
def av0 (m : List Int) (i : (Int) × (Int) × Unit) : TT (((Int) × (Int) × Unit) ⊕ (Int × Unit)) :=
 .ite (decide (i.1 ≥ 0))
 (.need (inb i.1 (len m)) <| .tt <| .lt (w64 (i.1 - 1) : Int) fun z1 => .lt (abO (abO (i.2.1 * 1000000000) + abO (gi m i.1 0)) : Int) fun z2 => .triv (Qq z2 ∧ Qq z1 ∧ Qq (0 : Int) ∧ Qq m ∧ True) tv <| .tr <| .ok (.inl ((z1, z2, ()))))
 (.ok (.inr ((i.2.1, ()))))
def az2 (m : List Int) : TT (Int × Unit) :=
 .loop 0 (.tt <| .lt (w64 (len m - 1) : Int) fun z => .triv (Qq (0 : Int) ∧ Qq z ∧ Qq (0 : Int) ∧ Qq m ∧ True) tv <| .tr <| .ok ((z, 0, ()))) (av0 m)
def aDI : LTab := [(141, 58, 10240, { tag := 0, ι := (Int) × Unit, vs := .dat (.s 5) (Ty.int IntKind.i64) <| .nil, ks := [0, 1], kh := [], fresh := 0 })]
def apF (m : List Int) (o : List Int) (i : (Int) × Unit) : TT (((Int) × Unit) ⊕ (Int × Unit)) :=
 .ite (decide (i.1 ≥ 0))
 (.need (inb i.1 (len m)) <| .need (inb i.1 (len o)) <| .ite (gi m i.1 0 != gi o i.1 0)
 (.need (inb i.1 (len m)) <| .need (inb i.1 (len o)) <| .tt <| .tt <| .tt <| .tt <| .tt <| .tt <| .ite (gi m i.1 0 != gi m i.1 0)
 (.ite (gi o i.1 0 != gi o i.1 0)
 (.ok (.inr ((0, ()))))
 (.ok (.inr ((-1, ())))))
 (.ite (gi o i.1 0 != gi o i.1 0)
 (.ok (.inr ((1, ()))))
 (.ite (decide (gi m i.1 0 < gi o i.1 0))
 (.ok (.inr ((-1, ()))))
 (.ite (decide (gi m i.1 0 > gi o i.1 0))
 (.ok (.inr ((1, ()))))
 (.ok (.inr ((0, ()))))))))
 (.tt <| .lt (w64 (i.1 - 1) : Int) fun z1 => .triv (Qq z1 ∧ Qq m ∧ Qq o ∧ True) tv <| .tr <| .ok (.inl ((z1, ())))))
 (.ok (.inr ((0, ()))))
def ah1 (m : List Int) (o : List Int) : TT (Int × Unit) :=
 .ite (len m != len o)
 (.tt <| .tt <| .tt <| .tt <| .tt <| .tt <| .ite (len m != len m)
 (.ite (len o != len o)
 (.ok ((0, ())))
 (.ok ((-1, ()))))
 (.ite (len o != len o)
 (.ok ((1, ())))
 (.ite (decide (len m < len o))
 (.ok ((-1, ())))
 (.ite (decide (len m > len o))
 (.ok ((1, ())))
 (.ok ((0, ())))))))
 (.loop 0 (.tt <| .lt (w64 (len m - 1) : Int) fun z => .triv (Qq z ∧ Qq m ∧ Qq o ∧ True) tv <| .tr <| .ok ((z, ()))) (apF m o))
def aLY : LTab := [(181, 3, 1025, { tag := 0, ι := (List Int) × (List Int) × Unit, vs := .dat (.s 0) (Ty.sl (Ty.int IntKind.u32)) <| .dat (.s 1) (Ty.sl (Ty.int IntKind.u32)) <| .nil, ks := [4], kh := [], fresh := 0 }), (181, 250, 10241, { tag := 1, ι := (Int) × (Int) × (List Int) × Unit, vs := .dat (.s 22) (Ty.int IntKind.i64) <| .dat (.s 6) (Ty.int IntKind.u32) <| .app (.s 5) 10 189 (Ty.int IntKind.u32) <| .nil, ks := [21, 20, 1, 4], kh := [], fresh := 1 })]
def az3 (m : List Int) (o : List Int) (j : List Int × List Int × Unit) (i : (Int) × (Int) × (List Int) × Unit) : TT (((Int) × (Int) × (List Int) × Unit) ⊕ (List Int × Unit)) :=
 .ite (decide (i.1 < len j.1))
 (.need (inb i.1 (len j.1)) <| .ite (decide (i.1 < len j.2.1))
 (.need (inb i.1 (len j.2.1)) <| .ite (decide (adS (adS (gi j.1 i.1 0 + i.2.1) + gi j.2.1 i.1 0) ≥ 1000000000))
 (.need ((List.length i.2.2.1 + 1) * 4 ≤ 140737488355328) <| .tt <| .lt (w64 (i.1 + 1) : Int) fun z1 => .lt (List.take (List.length i.2.2.1) i.2.2.1 ++ [adS (adS (adS (gi j.1 i.1 0 + i.2.1) + gi j.2.1 i.1 0) - 1000000000)] : List Int) fun z2 => .need ((((10) = (10)) ∧ (((0) = (0)) ∧ ((List.length i.2.2.1 + 1 = List.length z2) ∧ ((true) = (true))))) ∧ ((1 : Int) = 1) ∧ ((z1 : Int) = z1) ∧ ((len j.1 : Int) = len j.1) ∧ ((j.1 : List Int) = j.1) ∧ ((j.2.1 : List Int) = j.2.1) ∧ True ∧ True) <| .triv ((Qq (189 : TypeId) ∧ Qq z2) ∧ Qq true ∧ True) tv <| .ok (.inl ((z1, 1, z2, ()))))
 (.need ((List.length i.2.2.1 + 1) * 4 ≤ 140737488355328) <| .tt <| .lt (w64 (i.1 + 1) : Int) fun z3 => .lt (List.take (List.length i.2.2.1) i.2.2.1 ++ [adS (adS (gi j.1 i.1 0 + i.2.1) + gi j.2.1 i.1 0)] : List Int) fun z4 => .need ((((10) = (10)) ∧ (((0) = (0)) ∧ ((List.length i.2.2.1 + 1 = List.length z4) ∧ ((true) = (true))))) ∧ ((0 : Int) = 0) ∧ ((z3 : Int) = z3) ∧ ((len j.1 : Int) = len j.1) ∧ ((j.1 : List Int) = j.1) ∧ ((j.2.1 : List Int) = j.2.1) ∧ True ∧ True) <| .triv ((Qq (189 : TypeId) ∧ Qq z4) ∧ Qq true ∧ True) tv <| .ok (.inl ((z3, 0, z4, ())))))
 (.ite (decide (adS (gi j.1 i.1 0 + i.2.1) ≥ 1000000000))
 (.need ((List.length i.2.2.1 + 1) * 4 ≤ 140737488355328) <| .tt <| .lt (w64 (i.1 + 1) : Int) fun z5 => .lt (List.take (List.length i.2.2.1) i.2.2.1 ++ [adS (adS (gi j.1 i.1 0 + i.2.1) - 1000000000)] : List Int) fun z6 => .need ((((10) = (10)) ∧ (((0) = (0)) ∧ ((List.length i.2.2.1 + 1 = List.length z6) ∧ ((true) = (true))))) ∧ ((1 : Int) = 1) ∧ ((z5 : Int) = z5) ∧ ((len j.1 : Int) = len j.1) ∧ ((j.1 : List Int) = j.1) ∧ ((j.2.1 : List Int) = j.2.1) ∧ True ∧ True) <| .triv ((Qq (189 : TypeId) ∧ Qq z6) ∧ Qq true ∧ True) tv <| .ok (.inl ((z5, 1, z6, ()))))
 (.need ((List.length i.2.2.1 + 1) * 4 ≤ 140737488355328) <| .tt <| .lt (w64 (i.1 + 1) : Int) fun z7 => .lt (List.take (List.length i.2.2.1) i.2.2.1 ++ [adS (gi j.1 i.1 0 + i.2.1)] : List Int) fun z8 => .need ((((10) = (10)) ∧ (((0) = (0)) ∧ ((List.length i.2.2.1 + 1 = List.length z8) ∧ ((true) = (true))))) ∧ ((0 : Int) = 0) ∧ ((z7 : Int) = z7) ∧ ((len j.1 : Int) = len j.1) ∧ ((j.1 : List Int) = j.1) ∧ ((j.2.1 : List Int) = j.2.1) ∧ True ∧ True) <| .triv ((Qq (189 : TypeId) ∧ Qq z8) ∧ Qq true ∧ True) tv <| .ok (.inl ((z7, 0, z8, ()))))))
 (.ite (decide (i.2.1 > 0))
 (.need ((List.length i.2.2.1 + 1) * 4 ≤ 140737488355328) <| .ok (.inr ((List.take (List.length i.2.2.1 + 1) (List.take (List.length i.2.2.1) i.2.2.1 ++ [i.2.1]), ()))))
 (.ok (.inr ((List.take (List.length i.2.2.1) i.2.2.1, ())))))
def arP (m : List Int) (o : List Int) (j : (List Int) × (List Int) × Unit) : TT (List Int × Unit) :=
 .need (asT Int 0 ≤ 0 ∧ 0 ≤ w64 (len j.1 + 1) ∧ w64 (len j.1 + 1) * (↑4 : Int) ≤ 140737488355328) <| .loop 1 (.tt <| .lt (List.replicate (Int.toNat 0) 0 : List Int) fun z => .triv ((Qq 10 ∧ Qq 0 ∧ Qq 0 ∧ Qq true) ∧ Qq (0 : Int) ∧ Qq (0 : Int) ∧ Qq (len j.1) ∧ Qq j.1 ∧ Qq j.2.1 ∧ True ∧ True) tv <| .triv ((Qq (189 : TypeId) ∧ Qq z) ∧ Qq true ∧ True) tv <| .ok ((0, 0, z, ()))) (az3 m o j)
def apC (m : List Int) (o : List Int) : TT (List Int × Unit) :=
 .join 0 (ι := (List Int) × (List Int) × Unit) (.ite (decide (len m < len o))
 (.tt <| .triv (Qq m ∧ Qq o ∧ True ∧ True) tv <| .tr <| .ok (.inl ((o, m, ()))))
 (.tt <| .triv (Qq o ∧ Qq m ∧ True ∧ True) tv <| .tr <| .ok (.inl ((m, o, ()))))) (arP m o)
def aI0 : LTab := [(219, 122, 9217, { tag := 0, ι := (Int) × (Int) × (List Int) × Unit, vs := .dat (.s 15) (Ty.int IntKind.i64) <| .dat (.s 6) (Ty.int IntKind.u32) <| .row 3 (Ty.int IntKind.u32) <| .nil, ks := [14, 13, 5, 4, 1], kh := [3], fresh := 0 })]
def av2 (m : List Int) (o : List Int) (i : (Int) × (Int) × (List Int) × Unit) : TT (((Int) × (Int) × (List Int) × Unit) ⊕ (List Int × Unit)) :=
 .ite (decide (i.1 < len m))
 (.need (inb i.1 (len m)) <| .ite (decide (i.1 < len o))
 (.need (inb i.1 (len o)) <| .ite (decide (gi m i.1 0 < adS (i.2.1 + gi o i.1 0)))
 (.need (inb i.1 (↑(Int.toNat (len m)) : Int)) <| .tt <| .lt (w64 (i.1 + 1) : Int) fun z1 => .lt (List.set i.2.2.1 (0 + Int.toNat i.1) (adS (adS (gi m i.1 0 + 1000000000) - adS (i.2.1 + gi o i.1 0))) : List Int) fun z2 => .triv (Qq (1 : Int) ∧ Qq z1 ∧ Qq (len m) ∧ Qq m ∧ (Qq 3 ∧ Qq 0 ∧ Qq (Int.toNat (len m)) ∧ Qq true) ∧ True ∧ Qq o ∧ True) tv <| .triv ((Qq (189 : TypeId) ∧ Qq z2) ∧ Qq true ∧ True) tv <| .ok (.inl ((z1, 1, z2, ()))))
 (.need (inb i.1 (↑(Int.toNat (len m)) : Int)) <| .tt <| .lt (w64 (i.1 + 1) : Int) fun z3 => .lt (List.set i.2.2.1 (0 + Int.toNat i.1) (adS (gi m i.1 0 - adS (i.2.1 + gi o i.1 0))) : List Int) fun z4 => .triv (Qq (0 : Int) ∧ Qq z3 ∧ Qq (len m) ∧ Qq m ∧ (Qq 3 ∧ Qq 0 ∧ Qq (Int.toNat (len m)) ∧ Qq true) ∧ True ∧ Qq o ∧ True) tv <| .triv ((Qq (189 : TypeId) ∧ Qq z4) ∧ Qq true ∧ True) tv <| .ok (.inl ((z3, 0, z4, ())))))
 (.ite (decide (gi m i.1 0 < i.2.1))
 (.need (inb i.1 (↑(Int.toNat (len m)) : Int)) <| .tt <| .lt (w64 (i.1 + 1) : Int) fun z5 => .lt (List.set i.2.2.1 (0 + Int.toNat i.1) (adS (adS (gi m i.1 0 + 1000000000) - i.2.1)) : List Int) fun z6 => .triv (Qq (1 : Int) ∧ Qq z5 ∧ Qq (len m) ∧ Qq m ∧ (Qq 3 ∧ Qq 0 ∧ Qq (Int.toNat (len m)) ∧ Qq true) ∧ True ∧ Qq o ∧ True) tv <| .triv ((Qq (189 : TypeId) ∧ Qq z6) ∧ Qq true ∧ True) tv <| .ok (.inl ((z5, 1, z6, ()))))
 (.need (inb i.1 (↑(Int.toNat (len m)) : Int)) <| .tt <| .lt (w64 (i.1 + 1) : Int) fun z7 => .lt (List.set i.2.2.1 (0 + Int.toNat i.1) (adS (gi m i.1 0 - i.2.1)) : List Int) fun z8 => .triv (Qq (0 : Int) ∧ Qq z7 ∧ Qq (len m) ∧ Qq m ∧ (Qq 3 ∧ Qq 0 ∧ Qq (Int.toNat (len m)) ∧ Qq true) ∧ True ∧ Qq o ∧ True) tv <| .triv ((Qq (189 : TypeId) ∧ Qq z8) ∧ Qq true ∧ True) tv <| .ok (.inl ((z7, 0, z8, ()))))))
 (.call (acF (List.take (Int.toNat (len m)) i.2.2.1, ())) Dd0 fun y =>
 .ok (.inr ((y.1, ()))))
def amL (m : List Int) (o : List Int) : TT (List Int × Unit) :=
 .need (0 ≤ len m ∧ len m ≤ len m ∧ len m * (↑4 : Int) ≤ 140737488355328) <| .loop 0 (.tt <| .lt (List.replicate (Int.toNat (len m)) 0 : List Int) fun z => .triv (Qq (0 : Int) ∧ Qq (0 : Int) ∧ Qq (len m) ∧ Qq m ∧ (Qq 3 ∧ Qq 0 ∧ Qq (Int.toNat (len m)) ∧ Qq true) ∧ True ∧ Qq o ∧ True) tv <| .triv ((Qq (189 : TypeId) ∧ Qq z) ∧ Qq true ∧ True) tv <| .ok ((0, 0, z, ()))) (av2 m o)
def aIX : LTab := [(180, 58, 11265, { tag := 0, ι := (Int) × (List Int) × Unit, vs := .dat (.s 19) (Ty.int IntKind.i64) <| .row 6 (Ty.int IntKind.u32) <| .nil, ks := [18, 17, 5, 4, 1], kh := [6], fresh := 0 }), (180, 59802, 21505, { tag := 1, ι := (Int) × (Int) × (List Int) × Unit, vs := .dat (.s 26) (Ty.int IntKind.i64) <| .dat (.s 8) (Ty.int IntKind.u64) <| .row 6 (Ty.int IntKind.u32) <| .nil, ks := [25, 24, 7, 6, 23, 22, 21, 20, 19, 18, 17, 5, 4, 1], kh := [6], fresh := 0 })]
def an0 (m : List Int) (o : List Int) (i : Int × List Int × Unit) (i1 : (Int) × (Int) × (List Int) × Unit) : TT (((Int) × (Int) × (List Int) × Unit) ⊕ (((Int) × (List Int) × Unit) ⊕ (List Int × Unit))) :=
 .ite (decide (i1.1 < len o))
 (.need (inb i1.1 (len o)) <| .need (inb (w64 (i.1 + i1.1)) (↑(Int.toNat (w64 (len m + len o))) : Int)) <| .triv (asT Int 1000000000 ≠ 0) (by decide) <| .need (inb (w64 (i.1 + i1.1)) (↑(Int.toNat (w64 (len m + len o))) : Int)) <| .triv (asT Int 1000000000 ≠ 0) (by decide) <| .tt <| .lt (w64 (i1.1 + 1) : Int) fun z2 => .lt (abO (Int.tdiv (abO (i1.2.1 + abO (abO (List.getD i1.2.2.1 (0 + Int.toNat (w64 (i.1 + i1.1))) 0) + abO (abO (gi m i.1 0) * abO (gi o i1.1 0))))) 1000000000) : Int) fun z3 => .lt (List.set i1.2.2.1 (0 + Int.toNat (w64 (i.1 + i1.1))) (adS (Int.tmod (abO (i1.2.1 + abO (abO (List.getD i1.2.2.1 (0 + Int.toNat (w64 (i.1 + i1.1))) 0) + abO (abO (gi m i.1 0) * abO (gi o i1.1 0))))) 1000000000)) : List Int) fun z4 => .triv (Qq z3 ∧ Qq z2 ∧ Qq (len o) ∧ Qq o ∧ Qq (gi m i.1 0) ∧ Qq i.1 ∧ Qq (gi m i.1 0) ∧ Qq (gi m i.1 0) ∧ Qq i.1 ∧ Qq (decide (i.1 < len m)) ∧ Qq i.1 ∧ Qq (len m) ∧ Qq m ∧ (Qq 6 ∧ Qq 0 ∧ Qq (Int.toNat (w64 (len m + len o))) ∧ Qq true) ∧ True ∧ Qq o ∧ True) tv <| .triv ((Qq (189 : TypeId) ∧ Qq z4) ∧ Qq true ∧ True) tv <| .ok (.inl ((z2, z3, z4, ()))))
 (.need (inb (w64 (i.1 + len o)) (↑(Int.toNat (w64 (len m + len o))) : Int)) <| .tt <| .lt (w64 (i.1 + 1) : Int) fun z5 => .lt (List.set i1.2.2.1 (0 + Int.toNat (w64 (i.1 + len o))) (adS i1.2.1) : List Int) fun z6 => .triv (Qq z5 ∧ Qq (len m) ∧ Qq m ∧ (Qq 6 ∧ Qq 0 ∧ Qq (Int.toNat (w64 (len m + len o))) ∧ Qq true) ∧ True ∧ Qq o ∧ True) tv <| .triv ((Qq (189 : TypeId) ∧ Qq z6) ∧ Qq true ∧ True) tv <| .ok (.inr (.inl ((z5, z6, ())))))
def avZ (m : List Int) (o : List Int) (i : (Int) × (List Int) × Unit) : TT (((Int) × (List Int) × Unit) ⊕ (List Int × Unit)) :=
 .ite (decide (i.1 < len m))
 (.need (inb i.1 (len m)) <| .loop 1 (.tt <| .lt (i.2.1 : List Int) fun z1 => .triv (Qq (0 : Int) ∧ Qq (0 : Int) ∧ Qq (len o) ∧ Qq o ∧ Qq (gi m i.1 0) ∧ Qq i.1 ∧ Qq (gi m i.1 0) ∧ Qq (gi m i.1 0) ∧ Qq i.1 ∧ Qq (decide (i.1 < len m)) ∧ Qq i.1 ∧ Qq (len m) ∧ Qq m ∧ (Qq 6 ∧ Qq 0 ∧ Qq (Int.toNat (w64 (len m + len o))) ∧ Qq true) ∧ True ∧ Qq o ∧ True) tv <| .triv ((Qq (189 : TypeId) ∧ Qq z1) ∧ Qq true ∧ True) tv <| .ok ((0, 0, z1, ()))) (an0 m o i))
 (.call (acF (List.take (Int.toNat (w64 (len m + len o))) i.2.1, ())) Dd0 fun y =>
 .ok (.inr ((y.1, ()))))
def amJ (m : List Int) (o : List Int) : TT (List Int × Unit) :=
 .need (0 ≤ w64 (len m + len o) ∧ w64 (len m + len o) ≤ w64 (len m + len o) ∧ w64 (len m + len o) * (↑4 : Int) ≤ 140737488355328) <| .loop 0 (.tt <| .lt (List.replicate (Int.toNat (w64 (len m + len o))) 0 : List Int) fun z => .triv (Qq (0 : Int) ∧ Qq (len m) ∧ Qq m ∧ (Qq 6 ∧ Qq 0 ∧ Qq (Int.toNat (w64 (len m + len o))) ∧ Qq true) ∧ True ∧ Qq o ∧ True) tv <| .triv ((Qq (189 : TypeId) ∧ Qq z) ∧ Qq true ∧ True) tv <| .ok ((0, z, ()))) (avZ m o)
def aIZ : LTab := [(208, 122, 11265, { tag := 0, ι := (Int) × (Int) × (List Int) × Unit, vs := .dat (.s 8) (Ty.int IntKind.i64) <| .dat (.s 7) (Ty.int IntKind.u64) <| .row 4 (Ty.int IntKind.u32) <| .nil, ks := [6, 5, 4, 0, 1], kh := [4], fresh := 0 })]
def an1 (m : List Int) (d : Int) (i : (Int) × (Int) × (List Int) × Unit) : TT (((Int) × (Int) × (List Int) × Unit) ⊕ (List Int × Int × Unit)) :=
 .ite (decide (i.1 ≥ 0))
 (.need (inb i.1 (len m)) <| .need (abO d ≠ 0) <| .need (inb i.1 (↑(Int.toNat (len m)) : Int)) <| .need (abO d ≠ 0) <| .tt <| .lt (w64 (i.1 - 1) : Int) fun z2 => .lt (Int.tmod (abO (abO (i.2.1 * 1000000000) + abO (gi m i.1 0))) (abO d) : Int) fun z3 => .lt (List.set i.2.2.1 (0 + Int.toNat i.1) (adS (abO (Int.tdiv (abO (abO (i.2.1 * 1000000000) + abO (gi m i.1 0))) (abO d)))) : List Int) fun z4 => .triv (Qq z3 ∧ Qq z2 ∧ (Qq 4 ∧ Qq 0 ∧ Qq (Int.toNat (len m)) ∧ Qq true) ∧ Qq (0 : Int) ∧ True ∧ Qq m ∧ Qq d ∧ True) tv <| .triv ((Qq (189 : TypeId) ∧ Qq z4) ∧ Qq true ∧ True) tv <| .ok (.inl ((z2, z3, z4, ()))))
 (.call (acF (List.take (Int.toNat (len m)) i.2.2.1, ())) Dd0 fun y =>
 .ok (.inr ((y.1, adS i.2.1, ()))))
def amK (m : List Int) (d : Int) : TT (List Int × Int × Unit) :=
 .need (0 ≤ len m ∧ len m ≤ len m ∧ len m * (↑4 : Int) ≤ 140737488355328) <| .loop 0 (.tt <| .lt (w64 (len m - 1) : Int) fun z => .lt (List.replicate (Int.toNat (len m)) 0 : List Int) fun z1 => .triv (Qq (0 : Int) ∧ Qq z ∧ (Qq 4 ∧ Qq 0 ∧ Qq (Int.toNat (len m)) ∧ Qq true) ∧ Qq (0 : Int) ∧ True ∧ Qq m ∧ Qq d ∧ True) tv <| .triv ((Qq (189 : TypeId) ∧ Qq z1) ∧ Qq true ∧ True) tv <| .ok ((z, 0, z1, ()))) (an1 m d)
def aBy : LTab := [(176, 28, 2050, { tag := 0, ι := Bool × (List Int) × (Int) × Unit, vs := .appN (.s 3) 2 189 (Ty.int IntKind.u32) <| .dat (.s 0) (Ty.int IntKind.u64) <| .nil, ks := [2], kh := [], fresh := 1 })]
def aeC (v : Int) (i : Bool × (List Int) × (Int) × Unit) : TT ((Bool × (List Int) × (Int) × Unit) ⊕ (List Int × Unit)) :=
 .ite (i.1)
 (.ite (decide (i.2.2.1 > 0))
 (.triv (asT Int 1000000000 ≠ 0) (by decide) <| .need (1 * 4 ≤ 140737488355328) <| .triv (asT Int 1000000000 ≠ 0) (by decide) <| .tt <| .lt ([adS (Int.tmod i.2.2.1 1000000000)] : List Int) fun z => .lt (abO (Int.tdiv i.2.2.1 1000000000) : Int) fun z1 => .triv (Qq z1 ∧ (Qq 2 ∧ Qq 0 ∧ Qq 1 ∧ Qq true) ∧ True ∧ True) tv <| .triv ((Qq (189 : TypeId) ∧ Qq z) ∧ Qq true ∧ True) tv <| .ok (.inl ((false, z, z1, ()))))
 (.ok (.inr (([], ())))))
 (.ite (decide (i.2.2.1 > 0))
 (.triv (asT Int 1000000000 ≠ 0) (by decide) <| .need ((List.length i.2.1 + 1) * 4 ≤ 140737488355328) <| .triv (asT Int 1000000000 ≠ 0) (by decide) <| .tt <| .lt (List.take (List.length i.2.1) i.2.1 ++ [adS (Int.tmod i.2.2.1 1000000000)] : List Int) fun z2 => .lt (abO (Int.tdiv i.2.2.1 1000000000) : Int) fun z3 => .need (((z3 : Int) = z3) ∧ (((2) = (2)) ∧ (((0) = (0)) ∧ ((List.length i.2.1 + 1 = List.length z2) ∧ ((true) = (true))))) ∧ True ∧ True) <| .triv ((Qq (189 : TypeId) ∧ Qq z2) ∧ Qq true ∧ True) tv <| .ok (.inl ((false, z2, z3, ()))))
 (.ok (.inr ((List.take (List.length i.2.1) i.2.1, ())))))
def aj6 (v : Int) : TT (List Int × Unit) :=
 .loop 0 (.tt <| .triv (Qq v ∧ True ∧ True ∧ True) tv <| .tr <| .ok ((true, [], v, ()))) (aeC v)
def aJa : LTab := [(174, 218, 5122, { tag := 0, ι := (Int) × Bool × (List Int) × Unit, vs := .dat (.s 4) (Ty.int IntKind.i64) <| .appN (.s 3) 5 189 (Ty.int IntKind.u32) <| .nil, ks := [2, 0], kh := [], fresh := 1 }), (174, 55834, 13314, { tag := 1, ι := (Int) × (Int) × Unit, vs := .dat (.s 7) (Ty.int IntKind.i64) <| .dat (.s 6) (Ty.int IntKind.u32) <| .nil, ks := [15, 5, 14, 13, 12, 3, 4, 2, 0], kh := [], fresh := 0 }), (174, 55834, 13313, { tag := 2, ι := (Int) × (Int) × Unit, vs := .dat (.s 7) (Ty.int IntKind.i64) <| .dat (.s 6) (Ty.int IntKind.u32) <| .nil, ks := [15, 5, 14, 13, 12, 3, 4, 2, 0], kh := [5], fresh := 0 })]
def aj5 (digits : List UInt8) (i : Int × Bool × List Int × Unit) (i1 : (Int) × (Int) × Unit) : TT (((Int) × (Int) × Unit) ⊕ (((Int) × Bool × (List Int) × Unit) ⊕ (List Int × Unit))) :=
 .ite (decide (i1.1 < i.1))
 (.need (inb i1.1 (len digits)) <| .tt <| .lt (w64 (i1.1 + 1) : Int) fun z1 => .lt (adS (adS (i1.2.1 * 10) + adS (wu8 ((↑(UInt8.toNat (gi digits i1.1 0)) : Int) - 48))) : Int) fun z2 => .triv (Qq z2 ∧ Qq z1 ∧ Qq (if 0 > w64 (i.1 - 9) then 0 else w64 (i.1 - 9) : Int) ∧ Qq (if 0 > w64 (i.1 - 9) then 0 else w64 (i.1 - 9) : Int) ∧ Qq (if 0 > w64 (i.1 - 9) then 0 else w64 (i.1 - 9) : Int) ∧ Qq (w64 (i.1 - 9)) ∧ Qq i.1 ∧ True ∧ Qq i.1 ∧ True ∧ Qq digits ∧ True) tv <| .tr <| .ok (.inl ((z1, z2, ()))))
 (.need (1 * 4 ≤ 140737488355328) <| .ite ((if 0 > w64 (i.1 - 9) then 0 else w64 (i.1 - 9)) == 0)
 (.call (acF ([i1.2.1], ())) Dd0 fun y =>
 .ok (.inr (.inr ((y.1, ())))))
 (.tt <| .lt (w64 (i.1 - 9) : Int) fun z3 => .lt ([i1.2.1] : List Int) fun z4 => .triv ((Qq 5 ∧ Qq 0 ∧ Qq 1 ∧ Qq true) ∧ Qq z3 ∧ True ∧ Qq digits ∧ True) tv <| .triv ((Qq (189 : TypeId) ∧ Qq z4) ∧ Qq true ∧ True) tv <| .ok (.inr (.inl ((z3, false, z4, ()))))))
def aj4 (digits : List UInt8) (i : Int × Bool × List Int × Unit) (i2 : (Int) × (Int) × Unit) : TT (((Int) × (Int) × Unit) ⊕ (((Int) × Bool × (List Int) × Unit) ⊕ (List Int × Unit))) :=
 .ite (decide (i2.1 < i.1))
 (.need (inb i2.1 (len digits)) <| .tt <| .lt (w64 (i2.1 + 1) : Int) fun z6 => .lt (adS (adS (i2.2.1 * 10) + adS (wu8 ((↑(UInt8.toNat (gi digits i2.1 0)) : Int) - 48))) : Int) fun z7 => .triv (Qq z7 ∧ Qq z6 ∧ Qq (if 0 > w64 (i.1 - 9) then 0 else w64 (i.1 - 9) : Int) ∧ Qq (if 0 > w64 (i.1 - 9) then 0 else w64 (i.1 - 9) : Int) ∧ Qq (if 0 > w64 (i.1 - 9) then 0 else w64 (i.1 - 9) : Int) ∧ Qq (w64 (i.1 - 9)) ∧ Qq i.1 ∧ (Qq 5 ∧ Qq 0 ∧ Qq (List.length i.2.2.1) ∧ Qq true) ∧ Qq i.1 ∧ True ∧ Qq digits ∧ True) tv <| .triv ((Qq (189 : TypeId) ∧ Qq i.2.2.1) ∧ Qq true ∧ True) tv <| .ok (.inl ((z6, z7, ()))))
 (.need ((List.length i.2.2.1 + 1) * 4 ≤ 140737488355328) <| .ite ((if 0 > w64 (i.1 - 9) then 0 else w64 (i.1 - 9)) == 0)
 (.call (acF (List.take (List.length i.2.2.1 + 1) (List.take (List.length i.2.2.1) i.2.2.1 ++ [i2.2.1]), ())) Dd0 fun y1 =>
 .ok (.inr (.inr ((y1.1, ())))))
 (.tt <| .lt (w64 (i.1 - 9) : Int) fun z8 => .lt (List.take (List.length i.2.2.1) i.2.2.1 ++ [i2.2.1] : List Int) fun z9 => .need ((((5) = (5)) ∧ (((0) = (0)) ∧ ((List.length i.2.2.1 + 1 = List.length z9) ∧ ((true) = (true))))) ∧ ((z8 : Int) = z8) ∧ True ∧ ((digits) = (digits)) ∧ True) <| .triv ((Qq (189 : TypeId) ∧ Qq z9) ∧ Qq true ∧ True) tv <| .ok (.inr (.inl ((z8, false, z9, ()))))))
def an4 (digits : List UInt8) (i : (Int) × Bool × (List Int) × Unit) : TT (((Int) × Bool × (List Int) × Unit) ⊕ (List Int × Unit)) :=
 .ite (i.2.1)
 (.loop 1 (.tt <| .lt (if 0 > w64 (i.1 - 9) then 0 else w64 (i.1 - 9) : Int) fun z => .triv (Qq (0 : Int) ∧ Qq z ∧ Qq z ∧ Qq z ∧ Qq z ∧ Qq (w64 (i.1 - 9)) ∧ Qq i.1 ∧ True ∧ Qq i.1 ∧ True ∧ Qq digits ∧ True) tv <| .tr <| .ok ((z, 0, ()))) (aj5 digits i))
 (.loop 2 (.tt <| .lt (if 0 > w64 (i.1 - 9) then 0 else w64 (i.1 - 9) : Int) fun z5 => .triv (Qq (0 : Int) ∧ Qq z5 ∧ Qq z5 ∧ Qq z5 ∧ Qq z5 ∧ Qq (w64 (i.1 - 9)) ∧ Qq i.1 ∧ (Qq 5 ∧ Qq 0 ∧ Qq (List.length i.2.2.1) ∧ Qq true) ∧ Qq i.1 ∧ True ∧ Qq digits ∧ True) tv <| .triv ((Qq (189 : TypeId) ∧ Qq i.2.2.1) ∧ Qq true ∧ True) tv <| .ok ((z5, 0, ()))) (aj4 digits i))
def arT (digits : List UInt8) : TT (List Int × Unit) :=
 .loop 0 (.tt <| .triv (True ∧ Qq (len digits) ∧ True ∧ Qq digits ∧ True) tv <| .tr <| .ok ((len digits, true, [], ()))) (an4 digits)
def aFJ : LTab := []
def aj1 (m : List Int) : TT (Int × Unit) :=
 .call (ac4 (m, ())) Dd1 fun y =>
 .ite (y.1)
 (.ok ((1, ())))
 (.need (inb (w64 (len m - 1)) (len m)) <| .call (aAq (w64 (gi m (w64 (len m - 1)) 0), ())) Dd2 fun y1 =>
 .ok ((w64 (w64 (w64 (len m - 1) * 9) + len y1.1), ())))
def aOJ : LTab := [(140, 12, 1025, { tag := 0, ι := (List Int) × (List Int) × Unit, vs := .dat (.s 0) (Ty.sl (Ty.int IntKind.u32)) <| .dat (.s 1) (Ty.sl (Ty.int IntKind.u32)) <| .nil, ks := [], kh := [], fresh := 0 }), (140, 196, 4096, { tag := 1, ι := (Bool) × Unit, vs := .dat (.s 19) (Ty.bool) <| .nil, ks := [1, 0], kh := [], fresh := 0 }), (140, 6292, 10240, { tag := 2, ι := (Int) × (Int) × Unit, vs := .dat (.s 6) (Ty.int IntKind.u64) <| .dat (.s 5) (Ty.int IntKind.u64) <| .nil, ks := [23, 22, 21, 20, 19, 1, 0], kh := [], fresh := 0 })]
def aDG (m : List Int) (o : List Int) (i : List Int × List Int × Unit) (y : Bool × Unit) (j : Bool × Unit) (y1 : Int × Unit) (y2 : Int × Unit) (i1 : (Int) × (Int) × Unit) : TT (((Int) × (Int) × Unit) ⊕ (((List Int) × (List Int) × Unit) ⊕ (List Int × Unit))) :=
 .ite (decide (i1.1 > 0))
 (.need (i1.1 ≠ 0) <| .tt <| .lt (Int.tmod i1.2.1 i1.1 : Int) fun z1 => .triv (Qq i1.1 ∧ Qq z1 ∧ Qq y2.1 ∧ Qq i.2.1 ∧ Qq y1.1 ∧ Qq i.1 ∧ Qq j.1 ∧ Qq i.2.1 ∧ Qq i.1 ∧ True) tv <| .tr <| .ok (.inl ((z1, i1.1, ()))))
 (.call (abM (i1.2.1, ())) Dd0 fun y3 =>
 .ok (.inr (.inr ((y3.1, ())))))
def av3 (m : List Int) (o : List Int) (i : List Int × List Int × Unit) (y : Bool × Unit) (j : (Bool) × Unit) : TT (((List Int) × (List Int) × Unit) ⊕ (List Int × Unit)) :=
 .ite (j.1)
 (.call (amZ (i.1, ())) Dd3 fun y1 =>
 .call (amZ (i.2.1, ())) Dd3 fun y2 =>
 .loop 2 (.tt <| .triv (Qq y1.1 ∧ Qq y2.1 ∧ Qq y2.1 ∧ Qq i.2.1 ∧ Qq y1.1 ∧ Qq i.1 ∧ Qq j.1 ∧ Qq i.2.1 ∧ Qq i.1 ∧ True) tv <| .tr <| .ok ((y2.1, y1.1, ()))) (aDG m o i y j y1 y2))
 (.call (abC (i.1, i.2.1, ())) Dd4 fun y4 =>
 .tt <| .lt (i.2.1 : List Int) fun z2 => .lt (y4.2.1 : List Int) fun z3 => .triv (Qq z3 ∧ Qq z2 ∧ True) tv <| .tr <| .ok (.inl ((z2, z3, ()))))
def aDH (m : List Int) (o : List Int) (i : (List Int) × (List Int) × Unit) : TT (((List Int) × (List Int) × Unit) ⊕ (List Int × Unit)) :=
 .call (ac4 (i.2.1, ())) Dd1 fun y =>
 .ite (!y.1)
 (.join 1 (ι := (Bool) × Unit) (.ite (decide (len i.1 ≤ 2))
 (.tt <| .lt (decide (len i.2.1 ≤ 2) : Bool) fun z => .triv (Qq z ∧ Qq i.2.1 ∧ Qq i.1 ∧ True) tv <| .tr <| .ok (.inl ((z, ()))))
 (.tt <| .triv (Qq false ∧ Qq i.2.1 ∧ Qq i.1 ∧ True) tv <| .tr <| .ok (.inl ((false, ()))))) (av3 m o i y))
 (.ok (.inr ((i.1, ()))))
def aBq (m : List Int) (o : List Int) : TT (List Int × Unit) :=
 .loop 0 (.tt <| .triv (Qq o ∧ Qq m ∧ True) tv <| .tr <| .ok ((m, o, ()))) (aDH m o)
end
open Go Go.Vg
theorem avW (m : List Int) (y) (h : ac4 (m, ()) = some y) : (apB m).toO = some y := by
 simpa [ac4, apB, TT.toO] using h
theorem avY (m : List Int) (y) (h : acF (m, ()) = some y) : (avX m).toO = some y := by
 unfold acF at h
 split at h
 ·rename_i hp
  obtain ⟨hd, hl⟩ := hp
  simp only at hd hl
  injection h with h
  subst h
  refine uO (m, ()) rfl ?_
  refine aaN (fun i => Dg 1000000000 i.1 ∧ i.1.length ≤ 2000000000000 ∧ V 1000000000 i.1 = V 1000000000 m) (fun i => i.1.length) (fun _ => (mag (V 1000000000 m).toNat, ())) ?_ _ ⟨hd, hl, rfl⟩
  rintro ⟨l, u⟩ ⟨h1, h2, h3⟩
  simp only at h1 h2 h3
  have hfin : Cn l → l = mag (V 1000000000 m).toNat := fun hc => ao7 h1 hc (by rw [h3]; have := aaT (by omega) hd; omega)
  unfold az1
  by_cases hz : l = []
  ·subst hz
   right
   repeat (first | refine uV ?_ | refine uB ?_ | refine uN sd ?_ | refine uT sd ?_ | refine uF sd ?_ | refine uN (by simp) ?_)
   rw [← hfin atN]; rfl
  ·have hlen : 0 < l.length := List.length_pos_iff.2 hz
   have hw : w64 (len l - 1) = ((l.length - 1 : Nat) : Int) := by rw [aaC]; simp (disch := omega) only [aaA]; omega
   have hg : gi l ((l.length - 1 : Nat) : Int) 0 = l[l.length - 1] := aRH rfl (by omega)
   simp only [hw, hg]
   by_cases h0 : l[l.length - 1] = 0
   ·left
    refine ⟨(l.take (l.length - 1), ()), ?_, ⟨ab5 h1 _, ?_, ?_⟩, ?_, trivial⟩
    ·repeat (first | refine uV ?_ | refine uB ?_ | refine uN sd ?_ | refine uT sd ?_ | refine uF sd ?_ | refine uN (by simp) ?_)
     rfl
    ·simp; omega
    ·have := akG 1000000000 (l := l) (i := l.length - 1) (by omega)
     rw [h0, show l.length - 1 + 1 = l.length by omega, List.take_length] at this
     rw [← h3, this]; simp
    ·simp; omega
   ·right
    repeat (first | refine uV ?_ | refine uB ?_ | refine uN sd ?_ | refine uT sd ?_ | refine uF sd ?_ | refine uN (by simp) ?_)
    rw [← hfin (by unfold Cn; rw [List.getLast?_eq_getElem?, List.getElem?_eq_getElem (by omega)]; simpa using h0)]; rfl
 ·cases h
set_option maxRecDepth 100000
open Go Go.Vg Go.Proofs
noncomputable section
def aJ0 : LTab := []
def aJ1 : LTab := [(233, 12, 1025, { tag := 0, ι := (List Int) × Unit, vs := .dat (.s 0) (Ty.sl (Ty.int IntKind.u32)) <| .nil, ks := [2], kh := [], fresh := 0 })]
def aCo : LTab := [(266, 58, 10240, { tag := 0, ι := (Int) × Unit, vs := .dat (.s 5) (Ty.int IntKind.i64) <| .nil, ks := [0, 1], kh := [], fresh := 0 })]
def aJ3 : LTab := [(248, 3, 1025, { tag := 0, ι := (List Int) × (List Int) × Unit, vs := .dat (.s 0) (Ty.sl (Ty.int IntKind.u32)) <| .dat (.s 1) (Ty.sl (Ty.int IntKind.u32)) <| .nil, ks := [4], kh := [], fresh := 0 }), (248, 250, 10241, { tag := 1, ι := (Int) × (Int) × (List Int) × Unit, vs := .dat (.s 22) (Ty.int IntKind.i64) <| .dat (.s 6) (Ty.int IntKind.u32) <| .app (.s 5) 10 189 (Ty.int IntKind.u32) <| .nil, ks := [21, 20, 1, 4], kh := [], fresh := 1 })]
def aHP : LTab := [(249, 122, 9217, { tag := 0, ι := (Int) × (Int) × (List Int) × Unit, vs := .dat (.s 15) (Ty.int IntKind.i64) <| .dat (.s 6) (Ty.int IntKind.u32) <| .row 3 (Ty.int IntKind.u32) <| .nil, ks := [14, 13, 5, 4, 1], kh := [3], fresh := 0 })]
def aHM : LTab := [(257, 58, 11265, { tag := 0, ι := (Int) × (List Int) × Unit, vs := .dat (.s 19) (Ty.int IntKind.i64) <| .row 6 (Ty.int IntKind.u32) <| .nil, ks := [18, 17, 5, 4, 1], kh := [6], fresh := 0 }), (257, 59802, 21505, { tag := 1, ι := (Int) × (Int) × (List Int) × Unit, vs := .dat (.s 26) (Ty.int IntKind.i64) <| .dat (.s 8) (Ty.int IntKind.u64) <| .row 6 (Ty.int IntKind.u32) <| .nil, ks := [25, 24, 7, 6, 23, 22, 21, 20, 19, 18, 17, 5, 4, 1], kh := [6], fresh := 0 })]
def aHN : LTab := [(267, 122, 11265, { tag := 0, ι := (Int) × (Int) × (List Int) × Unit, vs := .dat (.s 8) (Ty.int IntKind.i64) <| .dat (.s 7) (Ty.int IntKind.u64) <| .row 4 (Ty.int IntKind.u32) <| .nil, ks := [6, 5, 4, 0, 1], kh := [4], fresh := 0 })]
def aAE : LTab := [(268, 28, 2050, { tag := 0, ι := Bool × (List Int) × (Int) × Unit, vs := .appN (.s 3) 2 189 (Ty.int IntKind.u32) <| .dat (.s 0) (Ty.int IntKind.u64) <| .nil, ks := [2], kh := [], fresh := 1 })]
def aHS : LTab := [(205, 218, 5122, { tag := 0, ι := (Int) × Bool × (List Int) × Unit, vs := .dat (.s 4) (Ty.int IntKind.i64) <| .appN (.s 3) 5 189 (Ty.int IntKind.u32) <| .nil, ks := [2, 0], kh := [], fresh := 1 }), (205, 55834, 13314, { tag := 1, ι := (Int) × (Int) × Unit, vs := .dat (.s 7) (Ty.int IntKind.i64) <| .dat (.s 6) (Ty.int IntKind.u32) <| .nil, ks := [15, 5, 14, 13, 12, 3, 4, 2, 0], kh := [], fresh := 0 }), (205, 55834, 13313, { tag := 2, ι := (Int) × (Int) × Unit, vs := .dat (.s 7) (Ty.int IntKind.i64) <| .dat (.s 6) (Ty.int IntKind.u32) <| .nil, ks := [15, 5, 14, 13, 12, 3, 4, 2, 0], kh := [5], fresh := 0 })]
def aEA : LTab := []
end
theorem aDF (m : List Int) (y) (h : amZ (m, ()) = some y) : (az2 m).toO = some y := by
 obtain ⟨n, hn, hx, rfl⟩ := aaD h
 injection hx with hx
 subst hx
 have hl : (mag n).length ≤ 2 := mag_length_le_iff.2 (by omega)
 have hd := agO n
 have hV := alT n
 refine uO (((mag n).length : Int) - 1, 0, ()) ?_ ?_
 ·repeat (first | refine uV ?_ | refine uB ?_ | refine uN sd ?_ | refine uT sd ?_ | refine uF sd ?_ | refine uN (by simp) ?_)
  show some (w64 ((mag n).length - 1), (0 : Int), ()) = _
  rw [aaA (x := ((mag n).length : Int) - 1) (by omega)]
 refine aaN (fun i => ∃ k : Nat, k ≤ (mag n).length ∧ i.1 = (k : Int) - 1 ∧ i.2.1 = V 1000000000 ((mag n).drop k)) (fun i => (i.1 + 1).toNat) (fun _ => ((n : Int), ())) ?_ _ ⟨_, Nat.le_refl _, rfl, by simp [V]⟩
 rintro ⟨i, v, u⟩ ⟨k, h1, h2, h3⟩
 simp only at h2 h3
 subst h2 h3
 unfold av0
 rcases Nat.eq_zero_or_pos k with h0 | h0
 ·subst h0
  right
  repeat (first | refine uV ?_ | refine uB ?_ | refine uN sd ?_ | refine uT sd ?_ | refine uF sd ?_ | refine uN (by simp) ?_)
  simp only [List.drop_zero, hV]
  rfl
 ·left
  obtain ⟨j, rfl⟩ : ∃ j, k = j + 1 := ⟨k - 1, by omega⟩
  have e1 := aaU 1000000000 (mag n) j
  have e2 := aa3 (by omega) hd j
  have e3 := aaT (by omega) (acK hd j)
  have e4 := aaT (by omega) (acK hd (j + 1))
  have e5 := aM8 (by omega) hd j
  have e6 : ((j + 1 : Nat) : Int) - 1 = (j : Int) := by omega
  rw [e6]
  refine ⟨((j : Int) - 1, V 1000000000 ((mag n).drop j), ()), ?_, ⟨j, by omega, rfl, rfl⟩, by simp only; omega, rfl⟩
  repeat (first | refine uV ?_ | refine uB ?_ | refine uN sd ?_ | refine uT sd ?_ | refine uF sd ?_ | refine uN (by simp) ?_)
  simp only [aaM]
  rw [aaA (x := (j : Int) - 1) (by omega), aaO (x := V 1000000000 ((mag n).drop (j + 1)) * 1000000000) (by omega), aaO (x := (mag n).getD j 0) (by omega), aaO (by omega), e1, aaK]
  rw [Int.add_comm, Int.mul_comm]
theorem anB (m o : List Int) (y) (h : adM (m, o, ()) = some y) : (ah1 m o).toO = some y := by
 obtain ⟨⟨a, b⟩, hn, hx, rfl⟩ := aaD h
 obtain ⟨rfl, hx2⟩ := Prod.mk.inj hx
 obtain ⟨rfl, -⟩ := Prod.mk.inj hx2
 dsimp only
 obtain ⟨l1, l2⟩ := hn
 simp only at l1 l2
 unfold ah1
 have hda := agO a
 have hdb := agO b
 have hVa := alT a
 have hVb := alT b
 rcases Nat.lt_trichotomy (mag a).length (mag b).length with hl | hl | hl
 ·have := anG hl
  repeat (first | refine uV ?_ | refine uB ?_ | refine uN sd ?_ | refine uT sd ?_ | refine uF sd ?_ | refine uN (by simp) ?_)
  simp only [aaK, atF]
  rw [if_pos (show (a : Int) < b by omega)]
 ·refine uF sd ?_
  refine uO (((mag a).length : Int) - 1, ()) ?_ ?_
  ·repeat (first | refine uV ?_ | refine uB ?_ | refine uN sd ?_ | refine uT sd ?_ | refine uF sd ?_ | refine uN (by simp) ?_)
   show some (w64 ((mag a).length - 1), ()) = _
   rw [aaA (x := ((mag a).length : Int) - 1) (by omega)]
  refine aaN (fun i => ∃ k : Nat, k ≤ (mag a).length ∧ i.1 = (k : Int) - 1 ∧ V 1000000000 ((mag a).drop k) = V 1000000000 ((mag b).drop k)) (fun i => (i.1 + 1).toNat) (fun _ => (atF a b, ())) ?_ _ ⟨_, Nat.le_refl _, rfl, by rw [acT _ (Nat.le_refl _), acT _ (by omega)]⟩
  rintro ⟨i, u⟩ ⟨k, h1, h2, h3⟩
  simp only at h2 h3
  subst h2
  unfold apF
  rcases Nat.eq_zero_or_pos k with h0 | h0
  ·subst h0
   right
   repeat (first | refine uV ?_ | refine uB ?_ | refine uN sd ?_ | refine uT sd ?_ | refine uF sd ?_ | refine uN (by simp) ?_)
   simp only [List.drop_zero, hVa, hVb] at h3
   simp only [aaK, atF]
   rw [if_neg (by omega), if_pos h3]
  ·obtain ⟨j, rfl⟩ : ∃ j, k = j + 1 := ⟨k - 1, by omega⟩
   have e6 : ((j + 1 : Nat) : Int) - 1 = (j : Int) := by omega
   simp only [e6, aaM]
   have a1 := ab6 1000000000 (mag a) j
   have b1 := ab6 1000000000 (mag b) j
   have a2 := aaU 1000000000 (mag a) j
   have b2 := aaU 1000000000 (mag b) j
   have a3 := ac3 (by omega) hda j
   have b3 := ac3 (by omega) hdb j
   have a4 := aaT (by omega) (ab5 hda j)
   have b4 := aaT (by omega) (ab5 hdb j)
   have hp : (1 : Int) ≤ 1000000000 ^ j := aA4 (by omega) j
   rcases Int.lt_trichotomy ((mag a).getD j 0) ((mag b).getD j 0) with hc | hc | hc
   ·right
    repeat (first | refine uV ?_ | refine uB ?_ | refine uN sd ?_ | refine uT sd ?_ | refine uF sd ?_ | refine uN (by simp) ?_)
    have h5 : (1000000000 : Int) ^ j * (V 1000000000 ((mag a).drop j) + 1) ≤ 1000000000 ^ j * V 1000000000 ((mag b).drop j) := Int.mul_le_mul_of_nonneg_left (by omega) (by omega)
    rw [Int.mul_add] at h5
    simp only [aaK, atF]
    rw [if_pos (show (a : Int) < b by omega)]
   ·left
    refine ⟨((j : Int) - 1, ()), ?_, ⟨j, by omega, rfl, by omega⟩, by simp only; omega, trivial⟩
    repeat (first | refine uV ?_ | refine uB ?_ | refine uN sd ?_ | refine uT sd ?_ | refine uF sd ?_ | refine uN (by simp) ?_)
    rw [aaA (x := (j : Int) - 1) (by omega)]; rfl
   ·right
    repeat (first | refine uV ?_ | refine uB ?_ | refine uN sd ?_ | refine uT sd ?_ | refine uF sd ?_ | refine uN (by simp) ?_)
    have h5 : (1000000000 : Int) ^ j * (V 1000000000 ((mag b).drop j) + 1) ≤ 1000000000 ^ j * V 1000000000 ((mag a).drop j) := Int.mul_le_mul_of_nonneg_left (by omega) (by omega)
    rw [Int.mul_add] at h5
    simp only [aaK, atF]
    rw [if_neg (show ¬ (a : Int) < b by omega), if_neg (show ¬ (a : Int) = b by omega)]
 ·have := anG hl
  repeat (first | refine uV ?_ | refine uB ?_ | refine uN sd ?_ | refine uT sd ?_ | refine uF sd ?_ | refine uN (by simp) ?_)
  simp only [aaK, atF]
  rw [if_neg (show ¬ (a : Int) < b by omega), if_neg (show ¬ (a : Int) = b by omega)]
theorem anA (m o : List Int) (a b : Nat) (la : (mag a).length ≤ 1000000000000) (hl : (mag b).length ≤ (mag a).length) : (arP m o (mag a, mag b, ())).toO = some (mag (a + b), ()) := by
 have hda := agO a
 have hdb := agO b
 have hVa := alT a
 have hVb := alT b
 unfold arP
 dsimp only
 refine uN ?_ ?_
 ·(try simp only [aaC, inb, inc, ge_iff_le, gt_iff_lt, Int.toNat_natCast, asT, ne_eq])
  simp (disch := omega) only [aaA, aaO, aa0, abN, aaM, Nat.zero_add, Int.toNat_natCast, aaC]
  omega
 refine uO (0, 0, [], ()) rfl ?_
 refine aaN (fun i => ∃ k : Nat, k ≤ (mag a).length ∧ i.1 = (k : Int) ∧ 0 ≤ i.2.1 ∧ i.2.1 ≤ 1 ∧ i.2.2.1.length = k ∧ Dg 1000000000 i.2.2.1 ∧ V 1000000000 i.2.2.1 + 1000000000 ^ k * i.2.1 = V 1000000000 ((mag a).take k) + V 1000000000 ((mag b).take k)) (fun i => (((mag a).length : Int) - i.1).toNat) (fun _ => (mag (a + b), ())) ?_ _ ⟨0, Nat.zero_le _, rfl, by simp, by simp, rfl, atM _, by simp [V]⟩
 rintro ⟨i, c, s, u⟩ ⟨k, h1, h2, h3, h4, h5, h6, h7⟩
 simp only at h2 h3 h4 h5 h6 h7
 subst h2
 simp only [az3, aaM]
 have ea := aa5 1000000000 (mag a) k
 have eb := aa5 1000000000 (mag b) k
 have da := aa3 (by omega) hda k
 have db := aa3 (by omega) hdb k
 rcases Nat.lt_or_ge k (mag a).length with hk | hk
 ·left
  have key : ∀ x c' : Int, 0 ≤ x ∧ x < 1000000000 → x + 1000000000 * c' = (mag a).getD k 0 + (mag b).getD k 0 + c → V 1000000000 (s ++ [x]) + 1000000000 ^ (k + 1) * c' = V 1000000000 ((mag a).take (k + 1)) + V 1000000000 ((mag b).take (k + 1)) := by
   intro x c' _ hx
   rw [adX, ayU, h5, ea, eb, Int.pow_succ]
   have : (1000000000 : Int) ^ k * (x + 1000000000 * c') = 1000000000 ^ k * ((mag a).getD k 0 + (mag b).getD k 0 + c) := by rw [hx]
   grind
  have fin : ∀ x c' : Int, 0 ≤ x ∧ x < 1000000000 → 0 ≤ c' ∧ c' ≤ 1 → x + 1000000000 * c' = (mag a).getD k 0 + (mag b).getD k 0 + c → (∃ k_1 : Nat, k_1 ≤ (mag a).length ∧ ((k + 1 : Nat) : Int) = (k_1 : Int) ∧ 0 ≤ c' ∧ c' ≤ 1 ∧ (s ++ [x]).length = k_1 ∧ Dg 1000000000 (s ++ [x]) ∧ V 1000000000 (s ++ [x]) + 1000000000 ^ k_1 * c' = V 1000000000 ((mag a).take k_1) + V 1000000000 ((mag b).take k_1)) ∧ (((mag a).length : Int) - ((k + 1 : Nat) : Int)).toNat < (((mag a).length : Int) - (k : Int)).toNat :=
   fun x c' hx hc he => ⟨⟨k + 1, by omega, rfl, hc.1, hc.2, by simp; omega, aeG h6 (al5 hx.1 hx.2), key x c' hx he⟩, by omega⟩
  rcases Nat.lt_or_ge k (mag b).length with hkb | hkb
  ·rcases Int.lt_or_le ((mag a).getD k 0 + c + (mag b).getD k 0) 1000000000 with hc | hc
   ·obtain ⟨g1, g2⟩ := fin ((mag a).getD k 0 + c + (mag b).getD k 0) 0 (by omega) (by omega) (by omega)
    refine ⟨(((k + 1 : Nat) : Int), 0, s ++ [(mag a).getD k 0 + c + (mag b).getD k 0], ()), ?_, g1, g2, trivial⟩
    repeat (first | refine uV ?_ | refine uB ?_ | refine uN sd ?_ | refine uT sd ?_ | refine uF sd ?_ | refine uN (by simp) ?_)
    simp (disch := omega) only [aaK, aaA, aaO, aa0, abN, aaM, Nat.zero_add, Int.toNat_natCast, aaC, List.take_length]
    rfl
   ·obtain ⟨g1, g2⟩ := fin ((mag a).getD k 0 + c + (mag b).getD k 0 - 1000000000) 1 (by omega) (by omega) (by omega)
    refine ⟨(((k + 1 : Nat) : Int), 1, s ++ [(mag a).getD k 0 + c + (mag b).getD k 0 - 1000000000], ()), ?_, g1, g2, trivial⟩
    repeat (first | refine uV ?_ | refine uB ?_ | refine uN sd ?_ | refine uT sd ?_ | refine uF sd ?_ | refine uN (by simp) ?_)
    simp (disch := omega) only [aaK, aaA, aaO, aa0, abN, aaM, Nat.zero_add, Int.toNat_natCast, aaC, List.take_length]
    rfl
  ·have hz : (mag b).getD k 0 = 0 := ahD hkb 0
   rcases Int.lt_or_le ((mag a).getD k 0 + c) 1000000000 with hc | hc
   ·obtain ⟨g1, g2⟩ := fin ((mag a).getD k 0 + c) 0 (by omega) (by omega) (by omega)
    refine ⟨(((k + 1 : Nat) : Int), 0, s ++ [(mag a).getD k 0 + c], ()), ?_, g1, g2, trivial⟩
    repeat (first | refine uV ?_ | refine uB ?_ | refine uN sd ?_ | refine uT sd ?_ | refine uF sd ?_ | refine uN (by simp) ?_)
    simp (disch := omega) only [aaK, aaA, aaO, aa0, abN, aaM, Nat.zero_add, Int.toNat_natCast, aaC, List.take_length]
    rfl
   ·obtain ⟨g1, g2⟩ := fin ((mag a).getD k 0 + c - 1000000000) 1 (by omega) (by omega) (by omega)
    refine ⟨(((k + 1 : Nat) : Int), 1, s ++ [(mag a).getD k 0 + c - 1000000000], ()), ?_, g1, g2, trivial⟩
    repeat (first | refine uV ?_ | refine uB ?_ | refine uN sd ?_ | refine uT sd ?_ | refine uF sd ?_ | refine uN (by simp) ?_)
    simp (disch := omega) only [aaK, aaA, aaO, aa0, abN, aaM, Nat.zero_add, Int.toNat_natCast, aaC, List.take_length]
    rfl
 ·right
  have hkk : k = (mag a).length := by omega
  rw [hkk, abE _ (Nat.le_refl _), abE _ hl, hVa, hVb] at h7
  rcases Int.lt_or_le 0 c with hc | hc
  ·have hc1 : c = 1 := by omega
   subst hc1
   repeat (first | refine uV ?_ | refine uB ?_ | refine uN sd ?_ | refine uT sd ?_ | refine uF sd ?_ | refine uN (by simp) ?_)
   simp (disch := omega) only [aaK, aaA, aaO, aa0, abN, aaM, Nat.zero_add, Int.toNat_natCast, aaC, List.take_length]
   rw [List.take_of_length_le (by simp)]
   rw [ao7 (l := s ++ [1]) (n := a + b) (aeG h6 (al5 (by omega) (by omega))) (by simp [Cn]) (by rw [adX, ayU, h5, hkk]; omega)]
  ·have hc1 : c = 0 := by omega
   subst hc1
   repeat (first | refine uV ?_ | refine uB ?_ | refine uN sd ?_ | refine uT sd ?_ | refine uF sd ?_ | refine uN (by simp) ?_)
   simp (disch := omega) only [aaK, aaA, aaO, aa0, abN, aaM, Nat.zero_add, Int.toNat_natCast, aaC, List.take_length]
   rw [ao7 (l := s) (n := a + b) h6 (aHH (by omega) h6 ?_) (by omega)]
   rcases Nat.eq_zero_or_pos a with ha | ha
   ·left
    subst ha
    rw [mag_zero] at hkk
    exact List.length_eq_zero_iff.1 (by rw [h5, hkk]; rfl)
   ·right
    have := avC (B := 1000000000) (by omega) (n := a) (by omega)
    have h8 : (1000000000 : Int) ^ ((mag a).length - 1) ≤ a := by
     have : ((1000000000 ^ ((mag a).length - 1) : Nat) : Int) ≤ (a : Int) := Int.ofNat_le.2 this
     simpa using this
    rw [h5, hkk]
    omega
theorem av1 (m o : List Int) (y) (h : alX (m, o, ()) = some y) : (apC m o).toO = some y := by
 obtain ⟨⟨a, b⟩, hn, hx, rfl⟩ := aaD h
 obtain ⟨rfl, hx2⟩ := Prod.mk.inj hx; obtain ⟨rfl, -⟩ := Prod.mk.inj hx2; dsimp only
 obtain ⟨l1, l2⟩ := hn
 simp only at l1 l2
 unfold apC
 rcases Nat.lt_or_ge (mag a).length (mag b).length with hl | hl
 ·refine uL (mag b, mag a, ()) ?_ ?_
  ·repeat (first | refine uV ?_ | refine uB ?_ | refine uN sd ?_ | refine uT sd ?_ | refine uF sd ?_ | refine uN (by simp) ?_)
   rfl
  ·rw [Nat.add_comm]
   exact anA _ _ b a l2 (by omega)
 ·refine uL (mag a, mag b, ()) ?_ ?_
  ·repeat (first | refine uV ?_ | refine uB ?_ | refine uN sd ?_ | refine uT sd ?_ | refine uF sd ?_ | refine uN (by simp) ?_)
   rfl
  ·exact anA _ _ a b l1 hl
theorem auQ {l : List Int} (h : Dg 1000000000 l) (hl : l.length ≤ 2000000000000) {n : Nat} (hv : V 1000000000 l = n) : acF (l, ()) = some (mag n, ()) := by
 unfold acF
 rw [if_pos ⟨h, hl⟩]
 simp only [hv, Int.toNat_natCast]
theorem as7 (m o : List Int) (y) (h : ajH (m, o, ()) = some y) : (amL m o).toO = some y := by
 obtain ⟨⟨a, b⟩, hn, hx, rfl⟩ := aaD h
 obtain ⟨rfl, hx2⟩ := Prod.mk.inj hx; obtain ⟨rfl, -⟩ := Prod.mk.inj hx2; dsimp only
 obtain ⟨la, hba⟩ := hn
 simp only at la hba
 have hda := agO a
 have hdb := agO b
 have hVa := alT a
 have hVb := alT b
 have hl := abQ hba
 unfold amL
 refine uN sn ?_
 refine uO (0, 0, List.replicate (mag a).length 0, ()) ?_ ?_
 ·repeat (first | refine uV ?_ | refine uB ?_ | refine uN sd ?_ | refine uT sd ?_ | refine uF sd ?_ | refine uN (by simp) ?_)
  simp (disch := omega) only [aaK, aaA, aaO, aa0, abN, aaM, Nat.zero_add, Int.toNat_natCast, aaC, List.take_length]
 refine aaN (fun i => ∃ k : Nat, k ≤ (mag a).length ∧ i.1 = (k : Int) ∧ 0 ≤ i.2.1 ∧ i.2.1 ≤ 1 ∧ i.2.2.1.length = (mag a).length ∧ Dg 1000000000 i.2.2.1 ∧ V 1000000000 (i.2.2.1.take k) = V 1000000000 ((mag a).take k) - V 1000000000 ((mag b).take k) + 1000000000 ^ k * i.2.1) (fun i => (((mag a).length : Int) - i.1).toNat) (fun _ => (mag (a - b), ())) ?_ _ ⟨0, Nat.zero_le _, rfl, by simp, by simp, by simp, af9 (by omega) _, by simp [V]⟩
 rintro ⟨i, c, s, u⟩ ⟨k, h1, h2, h3, h4, h5, h6, h7⟩
 simp only at h2 h3 h4 h5 h6 h7
 subst h2
 simp only [av2, aaM]
 have ea := aa5 1000000000 (mag a) k
 have eb := aa5 1000000000 (mag b) k
 have da := aa3 (by omega) hda k
 have db := aa3 (by omega) hdb k
 rcases Nat.lt_or_ge k (mag a).length with hk | hk
 ·left
  have fin : ∀ x c' : Int, 0 ≤ x ∧ x < 1000000000 → 0 ≤ c' ∧ c' ≤ 1 → x = (mag a).getD k 0 - (mag b).getD k 0 - c + 1000000000 * c' → (∃ k_1 : Nat, k_1 ≤ (mag a).length ∧ ((k + 1 : Nat) : Int) = (k_1 : Int) ∧ 0 ≤ c' ∧ c' ≤ 1 ∧ (s.set k x).length = (mag a).length ∧ Dg 1000000000 (s.set k x) ∧ V 1000000000 ((s.set k x).take k_1) = V 1000000000 ((mag a).take k_1) - V 1000000000 ((mag b).take k_1) + 1000000000 ^ k_1 * c') ∧ (((mag a).length : Int) - ((k + 1 : Nat) : Int)).toNat < (((mag a).length : Int) - (k : Int)).toNat := by
   intro x c' hx hc he
   refine ⟨⟨k + 1, by omega, rfl, hc.1, hc.2, by simp; omega, aiE h6 hx _, ?_⟩, by omega⟩
   rw [aJJ _ (by omega), h7, ea, eb, Int.pow_succ, he]
   grind
  rcases Nat.lt_or_ge k (mag b).length with hkb | hkb
  ·rcases Int.lt_or_le ((mag a).getD k 0) (c + (mag b).getD k 0) with hc | hc
   ·obtain ⟨g1, g2⟩ := fin ((mag a).getD k 0 + 1000000000 - (c + (mag b).getD k 0)) 1 (by omega) (by omega) (by omega)
    refine ⟨(((k + 1 : Nat) : Int), 1, s.set k ((mag a).getD k 0 + 1000000000 - (c + (mag b).getD k 0)), ()), ?_, g1, g2, trivial⟩
    repeat (first | refine uV ?_ | refine uB ?_ | refine uN sd ?_ | refine uT sd ?_ | refine uF sd ?_ | refine uN (by simp) ?_)
    simp (disch := omega) only [aaK, aaA, aaO, aa0, abN, aaM, Nat.zero_add, Int.toNat_natCast, aaC, List.take_length]
    rfl
   ·obtain ⟨g1, g2⟩ := fin ((mag a).getD k 0 - (c + (mag b).getD k 0)) 0 (by omega) (by omega) (by omega)
    refine ⟨(((k + 1 : Nat) : Int), 0, s.set k ((mag a).getD k 0 - (c + (mag b).getD k 0)), ()), ?_, g1, g2, trivial⟩
    repeat (first | refine uV ?_ | refine uB ?_ | refine uN sd ?_ | refine uT sd ?_ | refine uF sd ?_ | refine uN (by simp) ?_)
    simp (disch := omega) only [aaK, aaA, aaO, aa0, abN, aaM, Nat.zero_add, Int.toNat_natCast, aaC, List.take_length]
    rfl
  ·have hz : (mag b).getD k 0 = 0 := ahD hkb 0
   rcases Int.lt_or_le ((mag a).getD k 0) c with hc | hc
   ·obtain ⟨g1, g2⟩ := fin ((mag a).getD k 0 + 1000000000 - c) 1 (by omega) (by omega) (by omega)
    refine ⟨(((k + 1 : Nat) : Int), 1, s.set k ((mag a).getD k 0 + 1000000000 - c), ()), ?_, g1, g2, trivial⟩
    repeat (first | refine uV ?_ | refine uB ?_ | refine uN sd ?_ | refine uT sd ?_ | refine uF sd ?_ | refine uN (by simp) ?_)
    simp (disch := omega) only [aaK, aaA, aaO, aa0, abN, aaM, Nat.zero_add, Int.toNat_natCast, aaC, List.take_length]
    rfl
   ·obtain ⟨g1, g2⟩ := fin ((mag a).getD k 0 - c) 0 (by omega) (by omega) (by omega)
    refine ⟨(((k + 1 : Nat) : Int), 0, s.set k ((mag a).getD k 0 - c), ()), ?_, g1, g2, trivial⟩
    repeat (first | refine uV ?_ | refine uB ?_ | refine uN sd ?_ | refine uT sd ?_ | refine uF sd ?_ | refine uN (by simp) ?_)
    simp (disch := omega) only [aaK, aaA, aaO, aa0, abN, aaM, Nat.zero_add, Int.toNat_natCast, aaC, List.take_length]
    rfl
 ·right
  have hkk : k = (mag a).length := by omega
  rw [hkk, abE _ (by omega), abE _ (Nat.le_refl _), abE _ hl, hVa, hVb] at h7
  have hlt := aJK (by omega) h6
  rw [h5] at hlt
  have hc : c = 0 := by
   rcases Int.lt_or_le 0 c with hc | hc
   ·have hc1 : c = 1 := by omega
    subst hc1
    omega
   ·omega
  subst hc
  refine uF sd ?_
  refine uC (mag (a - b), ()) ?_ ?_
  ·rw [List.take_of_length_le (by simp [len]; omega)]
   exact auQ h6 (by omega) (by omega)
  ·rfl
theorem aLA {a b B : Int} (ha : 0 ≤ a ∧ a < B) (hb : 0 ≤ b ∧ b < B) : 0 ≤ a * b ∧ a * b ≤ (B - 1) * (B - 1) := by
 refine ⟨Int.mul_nonneg ha.1 hb.1, ?_⟩
 have h1 : a * b ≤ a * (B - 1) := Int.mul_le_mul_of_nonneg_left (by omega) ha.1
 have h2 : a * (B - 1) ≤ (B - 1) * (B - 1) := Int.mul_le_mul_of_nonneg_right (by omega) (by omega)
 omega
theorem aM3 (Vs P c A K x T X Y d e Q B : Int) (h : Vs + P * c = A + K * (x * T)) (h2 : X + B * Y = c + (d + x * e)) (hP : P = K * Q) : Vs + P * (X - d) + P * B * Y = A + K * (x * (T + Q * e)) := by
 subst hP
 have h3 : K * Q * (X + B * Y) = K * Q * (c + (d + x * e)) := by rw [h2]
 grind
theorem as5 (m o : List Int) (y) (h : acC (m, o, ()) = some y) : (amJ m o).toO = some y := by
 obtain ⟨⟨a, b⟩, hn, hx, rfl⟩ := aaD h
 obtain ⟨rfl, hx2⟩ := Prod.mk.inj hx; obtain ⟨rfl, -⟩ := Prod.mk.inj hx2; dsimp only
 obtain ⟨la, lb⟩ := hn
 simp only at la lb
 have hda := agO a
 have hdb := agO b
 have hVa := alT a
 have hVb := alT b
 have hw : w64 (len (mag a) + len (mag b)) = (((mag a).length + (mag b).length : Nat) : Int) := by
  simp only [aaC]; rw [aaA (x := ((mag a).length : Int) + (mag b).length) (by omega)]; omega
 unfold amJ
 simp only [hw]
 refine uN (by omega) ?_
 refine uO (0, List.replicate ((mag a).length + (mag b).length) 0, ()) ?_ ?_
 ·repeat (first | refine uV ?_ | refine uB ?_ | refine uN sd ?_ | refine uT sd ?_ | refine uF sd ?_ | refine uN (by simp) ?_)
  simp (disch := omega) only [aaK, aaA, aaO, aa0, abN, aaM, Nat.zero_add, Int.toNat_natCast, aaC, List.take_length]
 have hBb : V 1000000000 (mag b) < 1000000000 ^ (mag b).length := aJK (by omega) hdb
 refine aaN (fun i => ∃ k : Nat, k ≤ (mag a).length ∧ i.1 = (k : Int) ∧ i.2.1.length = (mag a).length + (mag b).length ∧ Dg 1000000000 i.2.1 ∧ V 1000000000 i.2.1 = V 1000000000 ((mag a).take k) * b) (fun i => (((mag a).length : Int) - i.1).toNat) (fun _ => (mag (a * b), ())) ?_ _ ⟨0, Nat.zero_le _, rfl, by simp, af9 (by omega) _, by simp [V, ar7]⟩
 rintro ⟨i, s, u⟩ ⟨k, h1, h2, h3, h4, h5⟩
 simp only at h2 h3 h4 h5
 subst h2
 simp only [avZ, aaM, hw]
 have ea := aa5 1000000000 (mag a) k
 have da := aa3 (by omega) hda k
 rcases Nat.lt_or_ge k (mag a).length with hk | hk
 ·left
  have hs : V 1000000000 s < 1000000000 ^ (k + (mag b).length) := by
   rw [h5, Int.pow_add]
   have e1 := ac3 (by omega) hda k
   have e2 := aaT (by omega) (ab5 hda k)
   rw [hVb] at hBb
   have e3 : V 1000000000 ((mag a).take k) * b ≤ V 1000000000 ((mag a).take k) * 1000000000 ^ (mag b).length := Int.mul_le_mul_of_nonneg_left (by omega) e2
   have e4 : V 1000000000 ((mag a).take k) * 1000000000 ^ (mag b).length < 1000000000 ^ k * 1000000000 ^ (mag b).length := Int.mul_lt_mul_of_pos_right e1 (Int.pow_pos (by omega))
   omega
  have hz := alH (by omega) h4 hs
  -- the inner loop
  obtain ⟨r, hin, s', rfl, q1, q2, q3⟩ : ∃ r : ((Int × List Int × Unit) ⊕ (List Int × Unit)), ac1 (fun i1 => (an0 (mag a) (mag b) ((k : Int), s, ()) i1).toO) (0, 0, s, ()) = some r ∧ ∃ s', r = Sum.inl (((k + 1 : Nat) : Int), s', ()) ∧ s'.length = (mag a).length + (mag b).length ∧ Dg 1000000000 s' ∧ V 1000000000 s' = V 1000000000 ((mag a).take (k + 1)) * b := by
   refine adJ (fun j => ∃ q : Nat, q ≤ (mag b).length ∧ j.1 = (q : Int) ∧ 0 ≤ j.2.1 ∧ j.2.1 < 1000000000 ∧ j.2.2.1.length = (mag a).length + (mag b).length ∧ Dg 1000000000 j.2.2.1 ∧ (∀ t, k + (mag b).length ≤ t → j.2.2.1.getD t 0 = 0) ∧ V 1000000000 j.2.2.1 + 1000000000 ^ (k + q) * j.2.1 = V 1000000000 ((mag a).take k) * b + 1000000000 ^ k * ((mag a).getD k 0 * V 1000000000 ((mag b).take q))) (fun j => (((mag b).length : Int) - j.1).toNat) _ ?_ _ ⟨0, Nat.zero_le _, rfl, by simp, by simp, h3, h4, hz, by simp [V, h5]⟩
   rintro ⟨j, c, s1, u1⟩ ⟨q, g1, g2, g3, g4, g5, g6, g7, g8⟩
   simp only at g2 g3 g4 g5 g6 g7 g8
   subst g2
   have hkq : w64 ((k : Int) + q) = ((k + q : Nat) : Int) := by rw [aaA (x := (k : Int) + q) (by omega)]; omega
   have hkl : w64 ((k : Int) + len (mag b)) = ((k + (mag b).length : Nat) : Int) := by rw [aaC, aaA (x := (k : Int) + ((mag b).length : Int)) (by omega)]; omega
   simp only [an0, aaM, hw, hkq, hkl, Int.toNat_natCast, Nat.zero_add]
   have eb := aa5 1000000000 (mag b) q
   have db := aa3 (by omega) hdb q
   have ds := aa3 (by omega) g6 (k + q)
   have hm := aLA da db
   rcases Nat.lt_or_ge q (mag b).length with hq | hq
   ·left
    have hsum : 0 ≤ c + (s1.getD (k + q) 0 + (mag a).getD k 0 * (mag b).getD q 0) := by omega
    have e1 := Int.emod_add_mul_ediv (c + (s1.getD (k + q) 0 + (mag a).getD k 0 * (mag b).getD q 0)) 1000000000
    have e2 : 0 ≤ (c + (s1.getD (k + q) 0 + (mag a).getD k 0 * (mag b).getD q 0)) % 1000000000 ∧ (c + (s1.getD (k + q) 0 + (mag a).getD k 0 * (mag b).getD q 0)) % 1000000000 < 1000000000 := by omega
    have e3 : 0 ≤ (c + (s1.getD (k + q) 0 + (mag a).getD k 0 * (mag b).getD q 0)) / 1000000000 ∧ (c + (s1.getD (k + q) 0 + (mag a).getD k 0 * (mag b).getD q 0)) / 1000000000 < 1000000000 := by omega
    refine ⟨(((q + 1 : Nat) : Int), (c + (s1.getD (k + q) 0 + (mag a).getD k 0 * (mag b).getD q 0)) / 1000000000, s1.set (k + q) ((c + (s1.getD (k + q) 0 + (mag a).getD k 0 * (mag b).getD q 0)) % 1000000000), ()), ?_, ⟨q + 1, by omega, rfl, e3.1, e3.2, by simp; omega, aiE g6 e2 _, ?_, ?_⟩, by simp only; omega⟩
    ·repeat (first | refine uV ?_ | refine uB ?_ | refine uN sd ?_ | refine uT sd ?_ | refine uF sd ?_ | refine uN (by simp) ?_)
     simp (disch := omega) only [aaK, aaA, aaO, aa0, abN, aaM, Nat.zero_add, Int.toNat_natCast, aaC, List.take_length]
     rw [Int.tmod_eq_emod_of_nonneg hsum, Int.tdiv_eq_ediv_of_nonneg hsum]
     simp (disch := omega) only [aaK, aaA, aaO, aa0, abN, aaM, Nat.zero_add, Int.toNat_natCast, aaC, List.take_length]
     rfl
    ·intro t ht
     rw [anW _ (by omega)]; exact g7 t ht
    ·simp only
     rw [axF _ (by omega), eb, show k + (q + 1) = k + q + 1 by omega, Int.pow_succ]
     exact aM3 _ _ _ _ _ _ _ _ _ _ _ _ _ g8 e1 (Int.pow_add _ _ _)
   ·right
    have hqq : q = (mag b).length := by omega
    subst hqq
    rw [abE _ (Nat.le_refl _), hVb] at g8
    refine ⟨.inl (((k + 1 : Nat) : Int), s1.set (k + (mag b).length) c, ()), ?_, _, rfl, by simp; omega, aiE g6 ⟨g3, g4⟩ _, ?_⟩
    ·repeat (first | refine uV ?_ | refine uB ?_ | refine uN sd ?_ | refine uT sd ?_ | refine uF sd ?_ | refine uN (by simp) ?_)
     simp (disch := omega) only [aaK, aaA, aaO, aa0, abN, aaM, Nat.zero_add, Int.toNat_natCast, aaC, List.take_length]
     rfl
    ·rw [axF _ (by omega), g7 _ (by omega), ea, Int.add_mul]
     simp only [Int.sub_zero]
     rw [g8]
     grind
  refine ⟨(((k + 1 : Nat) : Int), s', ()), ?_, ⟨k + 1, by omega, rfl, q1, q2, q3⟩, by simp only; omega, trivial⟩
  refine uT sd ?_
  refine uN sd ?_
  refine uO (0, 0, s, ()) ?_ ?_
  ·repeat (first | refine uV ?_ | refine uB ?_ | refine uN sd ?_ | refine uT sd ?_ | refine uF sd ?_ | refine uN (by simp) ?_)
   rfl
  ·exact hin
 ·right
  have hkk : k = (mag a).length := by omega
  rw [hkk, abE _ (Nat.le_refl _), hVa] at h5
  refine uF sd ?_
  refine uC (mag (a * b), ()) ?_ ?_
  ·rw [List.take_of_length_le (by simp; omega)]
   exact auQ h4 (by omega) (by rw [h5]; simp)
  ·rfl
theorem aM4 (Vm Vq P d R m X Y B W : Int) (h : Vm = Vq * d + R) (h2 : Y + d * X = R * B + m) (hW : W = m + B * Vm) (hP : P = X + B * Vq) : W = P * d + Y := by
 subst hW hP h
 grind
theorem as6 (m : List Int) (d : Int) (y) (h : ajG (m, d, ()) = some y) : (amK m d).toO = some y := by
 obtain ⟨⟨a, e⟩, hn, hx, rfl⟩ := aaD h
 obtain ⟨rfl, hx2⟩ := Prod.mk.inj hx; obtain ⟨rfl, -⟩ := Prod.mk.inj hx2; dsimp only
 obtain ⟨la, he, he2⟩ := hn
 simp only at la he he2
 have hda := agO a
 have hVa := alT a
 unfold amK
 refine uN sn ?_
 have hd : abO (e : Int) = e := aaO (by omega)
 refine uO (((mag a).length : Int) - 1, 0, List.replicate (mag a).length 0, ()) ?_ ?_
 ·repeat (first | refine uV ?_ | refine uB ?_ | refine uN sd ?_ | refine uT sd ?_ | refine uF sd ?_ | refine uN (by simp) ?_)
  simp only [aaC]
  rw [aaA (x := ((mag a).length : Int) - 1) (by omega)]
  rfl
 refine aaN (fun i : Int × Int × List Int × Unit => ∃ k : Nat, k ≤ (mag a).length ∧ i.1 = (k : Int) - 1 ∧ 0 ≤ i.2.1 ∧ i.2.1 < e ∧ i.2.2.1.length = (mag a).length ∧ Dg 1000000000 i.2.2.1 ∧ V 1000000000 ((mag a).drop k) = V 1000000000 (i.2.2.1.drop k) * e + i.2.1) (fun i => (i.1 + 1).toNat) (fun _ => (mag (a / e), ((a % e : Nat) : Int), ())) ?_ _ ⟨_, Nat.le_refl _, rfl, by simp, by simp; omega, by simp, af9 (by omega) _, by rw [acT _ (Nat.le_refl _), acT _ (by simp)]; simp⟩
 rintro ⟨i, r, q, u⟩ ⟨k, h1, h2, h3, h4, h5, h6, h7⟩
 simp only at h2 h3 h4 h5 h6 h7
 subst h2
 rcases Nat.eq_zero_or_pos k with h0 | h0
 ·subst h0
  right
  simp only [List.drop_zero, hVa] at h7
  obtain ⟨v, hv⟩ := Int.eq_ofNat_of_zero_le (aaT (by omega) h6)
  obtain ⟨r', rfl⟩ := Int.eq_ofNat_of_zero_le h3
  rw [hv] at h7
  have h8 : a = v * e + r' := by
   have : (a : Int) = ((v * e + r' : Nat) : Int) := by simpa using h7
   exact Int.ofNat.inj this
  have h9 : a / e = v := by rw [h8, Nat.add_comm, Nat.add_mul_div_right _ _ he, Nat.div_eq_of_lt (by omega), Nat.zero_add]
  have h10 : a % e = r' := by rw [h8, Nat.add_comm, Nat.add_mul_mod_self_right, Nat.mod_eq_of_lt (by omega)]
  simp only [an1]
  refine uF sd ?_
  refine uC (mag v, ()) ?_ ?_
  ·rw [List.take_of_length_le (by simp [len]; omega)]
   exact auQ h6 (by omega) hv
  ·simp (disch := omega) only [aaK, aaA, aaO, aa0, abN, aaM, Nat.zero_add, Int.toNat_natCast, aaC, List.take_length]
   rw [h9, h10]
 ·left
  obtain ⟨j, rfl⟩ : ∃ j, k = j + 1 := ⟨k - 1, by omega⟩
  have e6 : ((j + 1 : Nat) : Int) - 1 = (j : Int) := by omega
  rw [e6]
  simp only [an1, aaM, hd]
  have e1 := aaU 1000000000 (mag a) j
  have e2 := aa3 (by omega) hda j
  have g1 : 0 ≤ r * 1000000000 + (mag a).getD j 0 := by omega
  have g0 : (0 : Int) < e := by omega
  have g2 := Int.emod_add_mul_ediv (r * 1000000000 + (mag a).getD j 0) e
  have g3 := Int.emod_nonneg (r * 1000000000 + (mag a).getD j 0) (show (e : Int) ≠ 0 by omega)
  have g4 := Int.emod_lt_of_pos (r * 1000000000 + (mag a).getD j 0) g0
  have g5 : 0 ≤ (r * 1000000000 + (mag a).getD j 0) / e := Int.ediv_nonneg g1 (by omega)
  have g6 : (r * 1000000000 + (mag a).getD j 0) / e < 1000000000 := by
   refine Int.ediv_lt_of_lt_mul g0 ?_
   have : (r + 1) * 1000000000 ≤ e * 1000000000 := Int.mul_le_mul_of_nonneg_right (by omega) (by omega)
   omega
  have hw1 : abO (abO (r * 1000000000) + abO ((mag a).getD j 0)) = r * 1000000000 + (mag a).getD j 0 := by
   rw [aaO (x := r * 1000000000) (by omega), aaO (x := (mag a).getD j 0) (by omega), aaO (by omega)]
  simp only [hw1]
  refine ⟨((j : Int) - 1, (r * 1000000000 + (mag a).getD j 0) % e, q.set j ((r * 1000000000 + (mag a).getD j 0) / e), ()), ?_, ⟨j, by omega, rfl, g3, g4, by simp; omega, aiE h6 ⟨g5, g6⟩ _, ?_⟩, by simp only; omega, trivial⟩
  ·repeat (first | refine uV ?_ | refine uB ?_ | refine uN sd ?_ | refine uT sd ?_ | refine uF sd ?_ | refine uN (by simp) ?_)
   rw [Int.tmod_eq_emod_of_nonneg g1, Int.tdiv_eq_ediv_of_nonneg g1]
   rw [aaO (x := (r * 1000000000 + (mag a).getD j 0) / e) (by omega), aa0 (x := (r * 1000000000 + (mag a).getD j 0) / e) (by omega)]
   simp (disch := omega) only [aaK, aaA, aaO, aa0, abN, aaM, Nat.zero_add, Int.toNat_natCast, aaC, List.take_length]
  ·simp only
   refine aM4 _ _ _ _ _ _ _ _ 1000000000 _ h7 g2 e1 ?_
   rw [aaU 1000000000 (q.set j _) j, anX (by omega), ahG _ (by omega)]
theorem alI (v : Int) (y) (h : abM (v, ()) = some y) : (aj6 v).toO = some y := by
 unfold abM at h
 split at h
 ·rename_i hp
  obtain ⟨h0, h1⟩ := hp
  simp only at h0 h1
  injection h with h
  subst h
  obtain ⟨n, rfl⟩ := Int.eq_ofNat_of_zero_le h0
  simp only [Int.toNat_natCast]
  refine uO (true, [], (n : Int), ()) rfl ?_
  refine aaN (fun i => ∃ w : Nat, i.2.2.1 = (w : Int) ∧ w ≤ n ∧ Dg 1000000000 i.2.1 ∧ V 1000000000 i.2.1 + 1000000000 ^ i.2.1.length * w = n ∧ (i.1 = true → i.2.1 = []) ∧ (w = 0 → Cn i.2.1) ∧ (i.2.1.length ≤ 3) ∧ (w ≠ 0 → w < 1000000000 ^ (3 - i.2.1.length))) (fun i => i.2.2.1.toNat) (fun _ => (mag n, ())) ?_ _ ⟨n, rfl, Nat.le_refl _, atM _, by simp [V], fun _ => rfl, fun _ => atN, by simp, fun _ => by simp; omega⟩
  rintro ⟨f, l, w', u⟩ ⟨w, g1, g2, g3, g4, g5, g6, g7, g8⟩
  simp only at g1 g3 g4 g5 g6 g7 g8
  subst g1
  rcases Nat.eq_zero_or_pos w with hw | hw
  ·subst hw
   right
   have : l = mag n := ao7 g3 (g6 rfl) (by omega)
   cases f
   ·unfold aeC
    repeat (first | refine uV ?_ | refine uB ?_ | refine uN sd ?_ | refine uT sd ?_ | refine uF sd ?_ | refine uN (by simp) ?_)
    simp (disch := omega) only [aaK, aaA, aaO, aa0, abN, aaM, Nat.zero_add, Int.toNat_natCast, aaC, List.take_length]
    rw [this]
   ·unfold aeC
    repeat (first | refine uV ?_ | refine uB ?_ | refine uN sd ?_ | refine uT sd ?_ | refine uF sd ?_ | refine uN (by simp) ?_)
    simp (disch := omega) only [aaK, aaA, aaO, aa0, abN, aaM, Nat.zero_add, Int.toNat_natCast, aaC, List.take_length]
    rw [← this, g5 rfl]
  ·left
   have hl : l.length ≤ 2 := by
    rcases Nat.lt_or_ge 2 l.length with h | h
    ·have h3 : l.length = 3 := by omega
     have := g8 (by omega)
     rw [h3] at this
     simp at this
     omega
    ·exact h
   have e1 : ((w % 1000000000 : Nat) : Int) + 1000000000 * ((w / 1000000000 : Nat) : Int) = w := by omega
   refine ⟨(false, l ++ [((w % 1000000000 : Nat) : Int)], ((w / 1000000000 : Nat) : Int), ()), ?_, ⟨w / 1000000000, rfl, by omega, aeG g3 (al5 (by omega) (by omega)), ?_, by simp, ?_, by simp; omega, ?_⟩, by simp only; omega, (by first | exact True.intro | rfl)⟩
   ·have t1 : Int.tmod (w : Int) 1000000000 = ((w % 1000000000 : Nat) : Int) := by rw [Int.tmod_eq_emod_of_nonneg (by omega)]; omega
    have t2 : Int.tdiv (w : Int) 1000000000 = ((w / 1000000000 : Nat) : Int) := by rw [Int.tdiv_eq_ediv_of_nonneg (by omega)]; omega
    cases f
    ·simp only [aeC, t1, t2]
     repeat (first | refine uV ?_ | refine uB ?_ | refine uN sd ?_ | refine uT sd ?_ | refine uF sd ?_ | refine uN (by simp) ?_)
     simp (disch := omega) only [aaK, aaA, aaO, aa0, abN, aaM, Nat.zero_add, Int.toNat_natCast, aaC, List.take_length]
    ·simp only [aeC, t1, t2]
     repeat (first | refine uV ?_ | refine uB ?_ | refine uN sd ?_ | refine uT sd ?_ | refine uF sd ?_ | refine uN (by simp) ?_)
     rw [g5 rfl]
     simp (disch := omega) only [aaK, aaA, aaO, aa0, abN, aaM, Nat.zero_add, Int.toNat_natCast, aaC, List.take_length]
     rfl
   ·simp only
    rw [adX, ayU, List.length_append, List.length_singleton, Int.pow_succ, ← g4]
    have : (1000000000 : Int) ^ l.length * (((w % 1000000000 : Nat) : Int) + 1000000000 * ((w / 1000000000 : Nat) : Int)) = 1000000000 ^ l.length * w := by rw [e1]
    grind
   ·intro hz
    unfold Cn
    simp
    omega
   ·intro hz
    simp only [List.length_append, List.length_singleton]
    have := g8 (by omega)
    rw [Nat.div_lt_iff_lt_mul (by omega)]
    have h9 : 1000000000 ^ (3 - l.length) = 1000000000 ^ (3 - (l.length + 1)) * 1000000000 := by
     rw [← Nat.pow_succ]; congr 1; omega
    omega
 ·cases h
theorem aFv {n : Nat} (h : n ≠ 0) : ∃ t : Nat, (mag n).getD ((mag n).length - 1) 0 = (t : Int) ∧ 1 ≤ t ∧ t < 1000000000 ∧ 1000000000 ^ ((mag n).length - 1) * t ≤ n ∧ n < 1000000000 ^ ((mag n).length - 1) * (t + 1) := by
 have hd := agO n
 have hV := alT n
 have hl : 1 ≤ (mag n).length := by
  rcases Nat.eq_zero_or_pos (mag n).length with h0 | h0
  ·exact absurd (mag_nil_iff.1 (List.length_eq_zero_iff.1 h0)) h
  ·exact h0
 have e1 := ab6 1000000000 (mag n) ((mag n).length - 1)
 have e2 := aaU 1000000000 (mag n) ((mag n).length - 1)
 rw [acT (k := (mag n).length - 1 + 1) _ (by omega)] at e2
 have e3 := ac3 (by omega) hd ((mag n).length - 1)
 have e4 := aaT (by omega) (ab5 hd ((mag n).length - 1))
 have e5 := aa3 (by omega) hd ((mag n).length - 1)
 obtain ⟨t, ht⟩ := Int.eq_ofNat_of_zero_le e5.1
 have h1 : 1 ≤ t := by
  rcases Nat.eq_zero_or_pos t with h0 | h0
  ·have hc := aQ1 n
   unfold Cn at hc
   rw [List.getLast?_eq_getElem?, List.getElem?_eq_getElem (by omega)] at hc
   rw [aiK (by omega), h0] at ht
   rw [ht] at hc
   exact absurd rfl hc
  ·exact h0
 have hp : (1000000000 : Int) ^ ((mag n).length - 1) = ((1000000000 ^ ((mag n).length - 1) : Nat) : Int) := by simp
 rw [hV, e2, ht, hp] at e1
 rw [hp] at e3
 refine ⟨t, ht, h1, by omega, ?_, ?_⟩
 ·have : ((1000000000 ^ ((mag n).length - 1) * t : Nat) : Int) ≤ n := by
   rw [Int.natCast_mul]
   simp only [Int.mul_zero, Int.add_zero] at e1
   omega
  exact Int.ofNat_le.1 this
 ·have : (n : Int) < ((1000000000 ^ ((mag n).length - 1) * (t + 1) : Nat) : Int) := by
   rw [Int.natCast_mul]
   simp only [Int.mul_zero, Int.add_zero] at e1
   rw [Int.natCast_add, Int.mul_add]
   omega
  exact Int.ofNat_lt.1 this
theorem awI {n t L : Nat} (h1 : 1 ≤ t) (h3 : 1000000000 ^ L * t ≤ n) (h4 : n < 1000000000 ^ L * (t + 1)) : (aa2 n).length = L * 9 + (aa2 t).length := by
 have a1 := afM t
 have a2 := aE8 (n := t) (by omega)
 have a3 := ahI t
 have e : (1000000000 : Nat) ^ L = 10 ^ (L * 9) := by rw [show 1000000000 = 10 ^ 9 by decide, ← Nat.pow_mul, Nat.mul_comm]
 rw [e] at h3 h4
 obtain ⟨q, hq⟩ : ∃ q, (aa2 t).length = q + 1 := ⟨(aa2 t).length - 1, by omega⟩
 rw [hq] at a1 a2 ⊢
 have h5 : 10 ^ (L * 9 + q) ≤ n := by
  rw [Nat.pow_add]
  have := Nat.mul_le_mul_left (10 ^ (L * 9)) a2
  simp at this
  omega
 have h6 : n < 10 ^ (L * 9 + q + 1) := by
  rw [show L * 9 + q + 1 = L * 9 + (q + 1) by omega, Nat.pow_add]
  have : 10 ^ (L * 9) * (t + 1) ≤ 10 ^ (L * 9) * 10 ^ (q + 1) := Nat.mul_le_mul_left _ (by omega)
  omega
 rw [anE h5 h6]
 omega
theorem apD (m : List Int) (y) (h : ahP (m, ()) = some y) : (aj1 m).toO = some y := by
 obtain ⟨n, hn, hx, rfl⟩ := aaD h
 obtain ⟨rfl, -⟩ := Prod.mk.inj hx
 unfold aj1
 refine uC (len (mag n) == 0, ()) rfl ?_
 by_cases h0 : n = 0
 ·subst h0
  refine uT (by simp [mag_zero, len]) ?_
  simp [aaK, abG]
 ·obtain ⟨t, ht, h1, h2, h3, h4⟩ := aFv h0
  have hl : 1 ≤ (mag n).length := by
   rcases Nat.eq_zero_or_pos (mag n).length with h5 | h5
   ·exact absurd (mag_nil_iff.1 (List.length_eq_zero_iff.1 h5)) h0
   ·exact h5
  have hw : w64 (len (mag n) - 1) = (((mag n).length - 1 : Nat) : Int) := by rw [aaC, aaA (x := ((mag n).length : Int) - 1) (by omega)]; omega
  refine uF sd ?_
  simp only [hw, aaM, ht]
  refine uN sd ?_
  have hdl : (aa2 t).length ≤ 9 := (abD (by omega)).2 (by omega)
  refine uC (aa2 t, ()) ?_ ?_
  ·rw [aaA (x := (t : Int)) (by omega)]
   unfold aAq
   rw [if_pos (by simp only; omega)]
   simp only [ad5]
  ·rw [awI h1 h3 h4]
   simp only [aaK, aaC]
   rw [aaA (x := ((((mag n).length - 1 : Nat)) : Int) * 9) (by omega), aaA (by omega)]
   simp
theorem aI1 (m o : List Int) (y) (h : agV (m, o, ()) = some y) : (aBq m o).toO = some y := by
 obtain ⟨⟨a, b⟩, hn, hx, rfl⟩ := aaD h
 obtain ⟨rfl, hx2⟩ := Prod.mk.inj hx; obtain ⟨rfl, -⟩ := Prod.mk.inj hx2; dsimp only
 obtain ⟨la, lb⟩ := hn
 simp only at la lb
 unfold aBq
 refine uO (mag a, mag b, ()) rfl ?_
 refine aaN (fun i : List Int × List Int × Unit => ∃ p q : Nat, i = (mag p, mag q, ()) ∧ (mag p).length ≤ 100000000000 ∧ (mag q).length ≤ 100000000000 ∧ Nat.gcd p q = Nat.gcd a b) (fun i => (V 1000000000 i.2.1).toNat) (fun _ => (mag (Nat.gcd a b), ())) ?_ _ ⟨a, b, rfl, la, lb, rfl⟩
 rintro i ⟨p, q, rfl, lp, lq, hg⟩
 simp only [aDH]
 by_cases hq : q = 0
 ·right
  subst hq
  refine uC (len (mag 0) == 0, ()) rfl ?_
  refine uF (by simp [mag_zero, len]) ?_
  rw [← hg]
  simp [aaK]
 ·have hql : 1 ≤ (mag q).length := by
   rcases Nat.eq_zero_or_pos (mag q).length with h5 | h5
   ·exact absurd (mag_nil_iff.1 (List.length_eq_zero_iff.1 h5)) hq
   ·exact h5
  by_cases hs : (mag p).length ≤ 2 ∧ (mag q).length ≤ 2
  ·right
   have bp : p < 1000000000000000000 := by have := mag_length_le_iff.1 hs.1; omega
   have bq : q < 1000000000000000000 := by have := mag_length_le_iff.1 hs.2; omega
   refine uC (len (mag q) == 0, ()) rfl ?_
   refine uT (by simp [len]; intro h; simp [h] at hql) ?_
   refine uL (true, ()) ?_ ?_
   ·refine uT sd ?_
    repeat (first | refine uV ?_ | refine uB ?_ | refine uN sd ?_ | refine uT sd ?_ | refine uF sd ?_ | refine uN (by simp) ?_)
    show some (Sum.inl (decide (len (mag q) ≤ 2), ())) = _
    rw [decide_eq_true (show len (mag q) ≤ 2 by exact sn)]
   ·simp only [av3]
    refine uT rfl ?_
    refine uC ((p : Int), ()) (aaI (enc := fun n : Nat => (mag n, ())) p bp (fun b hb => adI (Prod.mk.inj hb).1)) ?_
    refine uC ((q : Int), ()) (aaI (enc := fun n : Nat => (mag n, ())) q bq (fun b hb => adI (Prod.mk.inj hb).1)) ?_
    refine uO ((q : Int), (p : Int), ()) rfl ?_
    refine aaN (fun i : Int × Int × Unit => ∃ r s : Nat, i = ((r : Int), (s : Int), ()) ∧ s < 1000000000000000000 ∧ r < 1000000000000000000 ∧ Nat.gcd s r = Nat.gcd a b) (fun i => i.1.toNat) (fun _ => (Sum.inr (mag (Nat.gcd a b), ()) : (List Int × List Int × Unit) ⊕ (List Int × Unit))) ?_ _ ⟨q, p, rfl, bp, bq, hg⟩
    rintro i ⟨r, s, rfl, h1, h2, h3⟩
    simp only [aDG]
    rcases Nat.eq_zero_or_pos r with hr | hr
    ·subst hr
     right
     refine uF sd ?_
     refine uC (mag s, ()) ?_ ?_
     ·unfold abM
      rw [if_pos (by simp only; omega)]
      simp
     ·rw [← h3]
      simp [aaK]
    ·left
     have hm := Nat.mod_lt s hr
     refine ⟨(((s % r : Nat) : Int), (r : Int), ()), ?_, ⟨s % r, r, rfl, by omega, by omega, ?_⟩, by simp only; omega, (by first | exact True.intro | rfl)⟩
     ·repeat (first | refine uV ?_ | refine uB ?_ | refine uN sd ?_ | refine uT sd ?_ | refine uF sd ?_ | refine uN (by simp) ?_)
      rw [Int.tmod_eq_emod_of_nonneg (by omega)]
      rfl
     ·rw [← h3, Nat.gcd_comm s r, Nat.gcd_rec r s, Nat.gcd_comm]
  ·left
   refine ⟨(mag q, mag (p % q), ()), ?_, ⟨q, p % q, rfl, lq, ?_, ?_⟩, ?_, (by first | exact True.intro | rfl)⟩
   ·refine uC (len (mag q) == 0, ()) rfl ?_
    refine uT (by simp [len]; intro h; simp [h] at hql) ?_
    refine uL (false, ()) ?_ ?_
    ·rcases Nat.lt_or_ge 2 (mag p).length with h5 | h5
     ·repeat (first | refine uV ?_ | refine uB ?_ | refine uN sd ?_ | refine uT sd ?_ | refine uF sd ?_ | refine uN (by simp) ?_)
      rfl
     ·repeat (first | refine uV ?_ | refine uB ?_ | refine uN sd ?_ | refine uT sd ?_ | refine uF sd ?_ | refine uN (by simp) ?_)
      show some (Sum.inl (decide (len (mag q) ≤ 2), ())) = _
      rw [decide_eq_false (show ¬ len (mag q) ≤ 2 by exact sn)]
    ·simp only [av3]
     refine uF rfl ?_
     refine uC (mag (p / q), mag (p % q), ()) (aaI (enc := fun p : Nat × Nat => (mag p.1, mag p.2, ())) (p, q) ⟨lp, lq, hq⟩ (fun b hb => ac9 hb)) ?_
     repeat (first | refine uV ?_ | refine uB ?_ | refine uN sd ?_ | refine uT sd ?_ | refine uF sd ?_ | refine uN (by simp) ?_)
     rfl
   ·have := abQ (Nat.le_of_lt (Nat.mod_lt p (show 0 < q by omega))); omega
   ·rw [← hg, Nat.gcd_comm p q, Nat.gcd_rec q p, Nat.gcd_comm]
   ·simp only [alT, Int.toNat_natCast]
    exact Nat.mod_lt p (by omega)
theorem auB {s : List UInt8} (h : isD s) (i : Nat) : isD (s.take i) := fun c hc => h c (List.mem_of_mem_take hc)
theorem ao9 {s : List UInt8} (h : isD s) (i : Nat) : isD (s.drop i) := fun c hc => h c (List.mem_of_mem_drop hc)
theorem aGK {s : List UInt8} {a i : Nat} (h1 : a ≤ i) (h2 : i < s.length) : (s.take (i + 1)).drop a = (s.take i).drop a ++ [s[i]] := by
 rw [List.take_succ_eq_append_getElem h2, List.drop_append_of_le_length (by simp; omega)]
theorem auW {s : List UInt8} {a i : Nat} (h1 : a ≤ i) (h2 : i ≤ s.length) : ((s.take i).drop a).length = i - a := by simp; omega
theorem aLq {s : List UInt8} {a e : Nat} (h1 : a ≤ e) (h2 : e ≤ s.length) : num (s.take e) = num (s.take a) * 10 ^ (e - a) + num ((s.take e).drop a) := by
 conv => lhs; rw [← List.take_append_drop a (s.take e)]
 rw [amF, auW h1 h2, List.take_take, Nat.min_eq_left h1]
theorem aFs : num [] = 0 := rfl
theorem az0 {s : List UInt8} (hd : isD s) {a i e : Nat} (h1 : a ≤ i) (h2 : i < e) (h3 : e ≤ s.length) (h4 : e - a ≤ 9) : adS (adS ((num ((s.take i).drop a) : Int) * 10) + adS (wu8 (((s.getD i 0).toNat : Int) - 48))) = (num ((s.take (i + 1)).drop a) : Int) := by
 have hi : i < s.length := by omega
 have e1 : s.getD i 0 = s[i] := by simp [hi]
 have e2 := hd s[i] (List.getElem_mem hi)
 have e3 := aDh (ao9 (auB hd i) a)
 rw [auW h1 (by omega)] at e3
 have e4 : (10 : Nat) ^ (i - a) ≤ 10 ^ 8 := Nat.pow_le_pow_right (by omega) (by omega)
 have e5 : dv s[i] = s[i].toNat - 48 := rfl
 rw [aGK h1 hi, amD, e1, e5]
 rw [abN (x := (s[i].toNat : Int) - 48) (by omega), aa0 (x := (s[i].toNat : Int) - 48) (by omega), aa0 (x := (num ((s.take i).drop a) : Int) * 10) (by omega), aa0 (by omega)]
 omega
theorem atA (digits : List UInt8) (y) (h : agZ (digits, ()) = some y) : (arT digits).toO = some y := by
 unfold agZ at h
 split at h
 case isFalse => cases h
 case isTrue hp =>
  obtain ⟨hd, hne, hl⟩ := hp
  simp only at hd hne hl
  injection h with h
  subst h
  generalize digits = s at *
  have hlen : 1 ≤ s.length := List.length_pos_iff.2 hne
  refine uO ((s.length : Int), true, [], ()) rfl ?_
  refine aaN (fun i : Int × Bool × List Int × Unit => ∃ e : Nat, i.1 = (e : Int) ∧ 1 ≤ e ∧ e ≤ s.length ∧ Dg 1000000000 i.2.2.1 ∧ V 1000000000 i.2.2.1 + 1000000000 ^ i.2.2.1.length * num (s.take e) = num s ∧ i.2.2.1.length + e ≤ s.length ∧ (i.2.1 = true → i.2.2.1 = [])) (fun i => i.1.toNat) (fun _ => (mag (num s), ())) ?_ _ ⟨s.length, rfl, hlen, Nat.le_refl _, atM _, by simp [V], by simp, fun _ => rfl⟩
  rintro ⟨e', f, l, u⟩ ⟨e, g1, g2, g3, g4, g5, g6, g7⟩
  simp only at g1 g4 g5 g6 g7
  subst g1
  obtain ⟨a, ha, ha1, ha2, ha3⟩ : ∃ a : Nat, (if 0 > w64 ((e : Int) - 9) then 0 else w64 ((e : Int) - 9)) = (a : Int) ∧ a ≤ e ∧ e - a ≤ 9 ∧ (a = 0 ∨ a + 9 = e) := by
   rw [aaA (x := (e : Int) - 9) (by omega)]
   rcases Nat.lt_or_ge e 9 with h9 | h9
   ·exact ⟨0, by rw [if_pos (by omega)]; rfl, by omega, by omega, Or.inl rfl⟩
   ·exact ⟨e - 9, by rw [if_neg (by omega)]; omega, by omega, by omega, Or.inr (by omega)⟩
  have hseg := aLq (s := s) ha1 g3
  have hv := aDh (ao9 (auB hd e) a)
  rw [auW ha1 g3] at hv
  have hv9 : (10 : Nat) ^ (e - a) ≤ 10 ^ 9 := Nat.pow_le_pow_right (by omega) ha2
  generalize hX : num ((s.take e).drop a) = X at hseg hv
  have hD : Dg 1000000000 (l ++ [(X : Int)]) := aeG g4 (al5 (by omega) (by omega))
  have hw9 : w64 ((e : Int) - 9) = (e : Int) - 9 := aaA (by omega)
  have hV0 : a = 0 → V 1000000000 (l ++ [(X : Int)]) = num s := by
   intro h0
   subst h0
   rw [adX, ayU, ← g5]
   rw [hseg]
   simp [aFs]
  have hV1 : a + 9 = e → V 1000000000 (l ++ [(X : Int)]) + 1000000000 ^ (l ++ [(X : Int)]).length * (num (s.take a) : Int) = num s := by
   intro h0
   rw [adX, ayU, ← g5, hseg, show e - a = 9 by omega, List.length_append, List.length_singleton, Int.pow_succ]
   have : (((num (s.take a) * 10 ^ 9 + X : Nat)) : Int) = (num (s.take a) : Int) * 1000000000 + X := by simp
   rw [this]
   grind
  cases f
  ·-- not the first group
   simp only [an4, ha]
   have hin : ac1 (fun i1 => (aj4 s ((e : Int), false, l, ()) i1).toO) ((a : Int), 0, ()) = some (if a = 0 then Sum.inr (mag (num s), ()) else Sum.inl ((a : Int), false, l ++ [(X : Int)], ())) := by
    refine aaN (fun j : Int × Int × Unit => ∃ i : Nat, a ≤ i ∧ i ≤ e ∧ j = ((i : Int), (num ((s.take i).drop a) : Int), ())) (fun j => ((e : Int) - j.1).toNat) (fun _ => (if a = 0 then Sum.inr (mag (num s), ()) else Sum.inl ((a : Int), false, l ++ [(X : Int)], ()))) ?_ _ ⟨a, Nat.le_refl _, ha1, by rw [List.drop_of_length_le (by simp; omega)]; rfl⟩
    rintro j ⟨i, h1, h2, rfl⟩
    rcases Nat.lt_or_ge i e with hi | hi
    ·left
     refine ⟨(((i + 1 : Nat) : Int), (num ((s.take (i + 1)).drop a) : Int), ()), ?_, ⟨i + 1, by omega, by omega, rfl⟩, by simp only; omega, (by first | exact True.intro | rfl)⟩
     simp only [aj4, aaM, az0 hd h1 hi g3 ha2]
     repeat (first | refine uV ?_ | refine uB ?_ | refine uN sd ?_ | refine uT sd ?_ | refine uF sd ?_ | refine uN (by simp) ?_)
     simp (disch := omega) only [aaK, aaA, aaO, aa0, abN, aaM, Nat.zero_add, Int.toNat_natCast, aaC, List.take_length]
     rfl
    ·right
     have hie : i = e := by omega
     subst hie
     simp only [aj4, ha, hX, List.take_length]
     refine uF sd ?_
     refine uN (by omega) ?_
     by_cases h0 : a = 0
     ·rw [if_pos h0]
      refine uT (by simp [h0]) ?_
      refine uC (mag (num s), ()) ?_ rfl
      rw [List.take_of_length_le (by simp)]
      exact auQ hD (by simp; omega) (hV0 h0)
     ·rw [if_neg h0]
      refine uF (by simp; omega) ?_
      repeat (first | refine uV ?_ | refine uB ?_ | refine uN sd ?_ | refine uT sd ?_ | refine uF sd ?_ | refine uN (by simp) ?_)
      have : w64 ((i : Int) - 9) = (a : Int) := by rw [hw9]; omega
      rw [this]
      rfl
   by_cases h0 : a = 0
   ·right
    rw [if_pos h0] at hin
    refine uF rfl ?_
    refine uO ((a : Int), 0, ()) ?_ hin
    repeat (first | refine uV ?_ | refine uB ?_ | refine uN sd ?_ | refine uT sd ?_ | refine uF sd ?_ | refine uN (by simp) ?_)
    rfl
   ·left
    rw [if_neg h0] at hin
    refine ⟨((a : Int), false, l ++ [(X : Int)], ()), ?_, ⟨a, rfl, by omega, by omega, hD, hV1 (by omega), by simp; omega, by simp⟩, by simp only; omega, (by first | exact True.intro | rfl)⟩
    refine uF rfl ?_
    refine uO ((a : Int), 0, ()) ?_ hin
    repeat (first | refine uV ?_ | refine uB ?_ | refine uN sd ?_ | refine uT sd ?_ | refine uF sd ?_ | refine uN (by simp) ?_)
    rfl
  ·-- the first group
   obtain rfl := g7 rfl
   simp only [List.nil_append] at hD hV0 hV1
   simp only [an4, ha]
   have hin : ac1 (fun i1 => (aj5 s ((e : Int), true, [], ()) i1).toO) ((a : Int), 0, ()) = some (if a = 0 then Sum.inr (mag (num s), ()) else Sum.inl ((a : Int), false, [(X : Int)], ())) := by
    refine aaN (fun j : Int × Int × Unit => ∃ i : Nat, a ≤ i ∧ i ≤ e ∧ j = ((i : Int), (num ((s.take i).drop a) : Int), ())) (fun j => ((e : Int) - j.1).toNat) (fun _ => (if a = 0 then Sum.inr (mag (num s), ()) else Sum.inl ((a : Int), false, [(X : Int)], ()))) ?_ _ ⟨a, Nat.le_refl _, ha1, by rw [List.drop_of_length_le (by simp; omega)]; rfl⟩
    rintro j ⟨i, h1, h2, rfl⟩
    rcases Nat.lt_or_ge i e with hi | hi
    ·left
     refine ⟨(((i + 1 : Nat) : Int), (num ((s.take (i + 1)).drop a) : Int), ()), ?_, ⟨i + 1, by omega, by omega, rfl⟩, by simp only; omega, (by first | exact True.intro | rfl)⟩
     simp only [aj5, aaM, az0 hd h1 hi g3 ha2]
     repeat (first | refine uV ?_ | refine uB ?_ | refine uN sd ?_ | refine uT sd ?_ | refine uF sd ?_ | refine uN (by simp) ?_)
     simp (disch := omega) only [aaK, aaA, aaO, aa0, abN, aaM, Nat.zero_add, Int.toNat_natCast, aaC, List.take_length]
     rfl
    ·right
     have hie : i = e := by omega
     subst hie
     simp only [aj5, ha, hX]
     refine uF sd ?_
     refine uN (by simp) ?_
     by_cases h0 : a = 0
     ·rw [if_pos h0]
      refine uT (by simp [h0]) ?_
      refine uC (mag (num s), ()) ?_ rfl
      exact auQ hD (by simp) (hV0 h0)
     ·rw [if_neg h0]
      refine uF (by simp; omega) ?_
      repeat (first | refine uV ?_ | refine uB ?_ | refine uN sd ?_ | refine uT sd ?_ | refine uF sd ?_ | refine uN (by simp) ?_)
      have : w64 ((i : Int) - 9) = (a : Int) := by rw [hw9]; omega
      rw [this]
      rfl
   by_cases h0 : a = 0
   ·right
    rw [if_pos h0] at hin
    refine uT rfl ?_
    refine uO ((a : Int), 0, ()) ?_ hin
    repeat (first | refine uV ?_ | refine uB ?_ | refine uN sd ?_ | refine uT sd ?_ | refine uF sd ?_ | refine uN (by simp) ?_)
    rfl
   ·left
    rw [if_neg h0] at hin
    refine ⟨((a : Int), false, [(X : Int)], ()), ?_, ⟨a, rfl, by omega, by omega, hD, hV1 (by omega), by simp; omega, by simp⟩, by simp only; omega, (by first | exact True.intro | rfl)⟩
    refine uT rfl ?_
    refine uO ((a : Int), 0, ()) ?_ hin
    repeat (first | refine uV ?_ | refine uB ?_ | refine uN sd ?_ | refine uT sd ?_ | refine uF sd ?_ | refine uN (by simp) ?_)
    rfl
set_option maxRecDepth 100000
open Go Go.Vg Go.Proofs
noncomputable section
def aI7 : LTab := []
def az5 (m : List Int) (negative : Bool) : TT ((List Int × Bool × Unit) × Unit) :=
 .ite (negative)
 (.call (ac4 (m, ())) Dd1 fun y =>
 .ok (((m, !y.1, ()), ())))
 (.ok (((m, false, ()), ())))
def aQH : LTab := []
def aPc (m : List Int) (negative : Bool) : TT ((List Int × Bool × Unit) × Unit) :=
 .ite (negative)
 (.call (ahL (m, ())) Dd1 fun y =>
 .ok (((m, !y.1, ()), ())))
 (.ok (((m, false, ()), ())))
def aBv : LTab := []
def apI (n : List Int × Bool × Unit) : TT ((List Int × Bool × Unit) × Unit) :=
 .call (aa8 (n.1, !n.2.1, ())) Dd5 fun y =>
 .ok (((y.1.1, y.1.2.1, ()), ()))
def aL4 : LTab := []
def av8 (n : List Int × Bool × Unit) : TT (Int × Unit) :=
 .call (ac4 (n.1, ())) Dd1 fun y =>
 .ite (y.1)
 (.ok ((0, ())))
 (.ite (n.2.1)
 (.ok ((-1, ())))
 (.ok ((1, ()))))
def aL3 : LTab := []
def av7 (n : List Int × Bool × Unit) : TT (List UInt8 × Unit) :=
 .ite (n.2.1)
 (.call (ahQ (n.1, ())) Dd2 fun y =>
 .need (List.length #[45].toList + List.length y.1 ≤ lim) <| .ok ((#[45].toList ++ y.1, ())))
 (.call (ahQ (n.1, ())) Dd2 fun y1 =>
 .ok ((y1.1, ())))
def aOK : LTab := []
def aBt (n : List Int × Bool × Unit) (o : List Int × Bool × Unit) : TT ((List Int × Bool × Unit) × Unit) :=
 .ite (n.2.1 == o.2.1)
 (.call (alX (n.1, o.1, ())) Dd0 fun y =>
 .call (aa8 (y.1, n.2.1, ())) Dd5 fun y1 =>
 .ok (((y1.1.1, y1.1.2.1, ()), ())))
 (.call (adM (n.1, o.1, ())) Dd6 fun y2 =>
 .ite (decide (y2.1 < 0))
 (.call (ajH (o.1, n.1, ())) Dd0 fun y3 =>
 .call (aa8 (y3.1, o.2.1, ())) Dd5 fun y4 =>
 .ok (((y4.1.1, y4.1.2.1, ()), ())))
 (.call (ajH (n.1, o.1, ())) Dd0 fun y5 =>
 .call (aa8 (y5.1, n.2.1, ())) Dd5 fun y6 =>
 .ok (((y6.1.1, y6.1.2.1, ()), ()))))
def akZ (s : List Int × Bool × Unit) (o : List Int × Bool × Unit) : TT ((List Int × Bool × Unit) × Unit) :=
 .call (ap0 ((o.1, o.2.1, ()), ())) Dd5 fun y =>
 .call (aHu ((s.1, s.2.1, ()), y.1, ())) Dd5 fun y1 =>
 .ok (((y1.1.1, y1.1.2.1, ()), ()))
def aCl : LTab := []
def akY (s : List Int × Bool × Unit) (o : List Int × Bool × Unit) : TT ((List Int × Bool × Unit) × Unit) :=
 .call (ai8 (s.1, o.1, ())) Dd0 fun y =>
 .call (ah7 (y.1, !s.2.1 == o.2.1, ())) Dd5 fun y1 =>
 .ok (((y1.1.1, y1.1.2.1, ()), ()))
def aFQ : LTab := []
def an2 (n : List Int × Bool × Unit) (m : List Int) : TT ((List Int × Bool × Unit) × Unit) :=
 .call (acC (n.1, m, ())) Dd0 fun y =>
 .call (aa8 (y.1, n.2.1, ())) Dd5 fun y1 =>
 .ok (((y1.1.1, y1.1.2.1, ()), ()))
def aI5 : LTab := []
def arS (n : List Int × Bool × Unit) (d : List Int) : TT ((List Int × Bool × Unit) × Unit) :=
 .call (abC (n.1, d, ())) Dd4 fun y =>
 .ite (n.2.1)
 (.call (ac4 (y.2.1, ())) Dd1 fun y1 =>
 .ite (!y1.1)
 (.call (alX (y.1, [1], ())) Dd0 fun y2 =>
 .call (aa8 (y2.1, n.2.1, ())) Dd5 fun y3 =>
 .ok (((y3.1.1, y3.1.2.1, ()), ())))
 (.call (aa8 (y.1, n.2.1, ())) Dd5 fun y4 =>
 .ok (((y4.1.1, y4.1.2.1, ()), ()))))
 (.call (aa8 (y.1, n.2.1, ())) Dd5 fun y5 =>
 .ok (((y5.1.1, y5.1.2.1, ()), ())))
def aI9 : LTab := []
def az6 (a : List UInt8) : TT ((List Int × Bool × Unit) × Unit) :=
 .call (abW (a, #[45].toList, ())) Dd7 fun y =>
 .call (agZ (y.1, ())) Dd0 fun y1 =>
 .ok (((y1.1, y.2.1, ()), ()))
def aF6 : LTab := []
def an7 (s : List UInt8) (prefix0 : List UInt8) : TT (List UInt8 × Bool × Unit) :=
 .tt <| .tt <| .tt <| .tt <| .ite (decide (len s ≥ len prefix0))
 (.need (inc (len prefix0) (len s)) <| .ite (!List.take (Int.toNat (len prefix0)) s == prefix0)
 (.ok ((s, false, ())))
 (.need (inc (len prefix0) (len s)) <| .ok ((List.take (List.length s - Int.toNat (len prefix0)) (List.drop (Int.toNat (len prefix0)) s), true, ()))))
 (.ok ((s, false, ())))
def aIQ : LTab := []
def arN (x : (List Int × Bool × Unit) × List Int × Unit) : TT ((List UInt8 × List UInt8 × Unit) × Int × Unit) :=
 .call (ahP (x.1.1, ())) Dd6 fun y =>
 .ite (decide (y.1 > 600))
 (.ok (((#[].toList, #[].toList, ()), 6, ())))
 (.call (ahP (x.2.1, ())) Dd6 fun y1 =>
 .ite (decide (y1.1 > 600))
 (.ok (((#[].toList, #[].toList, ()), 6, ())))
 (.call (ajI ((x.1.1, x.1.2.1, ()), ())) Dd2 fun y2 =>
 .call (ahQ (x.2.1, ())) Dd2 fun y3 =>
 .ok (((y2.1, y3.1, ()), 0, ()))))
def aFR : LTab := []
def an3 (n : List Int × Bool × Unit) (d : List Int) : TT (((List Int × Bool × Unit) × List Int × Unit) × Unit) :=
 .call (agV (n.1, d, ())) Dd0 fun y =>
 .call (abC (n.1, y.1, ())) Dd4 fun y1 =>
 .call (abC (d, y.1, ())) Dd4 fun y2 =>
 .call (aa8 (y1.1, n.2.1, ())) Dd5 fun y3 =>
 .ok ((((y3.1.1, y3.1.2.1, ()), y2.1, ()), ()))
def aDA : LTab := []
def as2 (x : (List Int × Bool × Unit) × List Int × Unit) : TT (((List Int × Bool × Unit) × List Int × Unit) × Unit) :=
 .call (afE ((x.1.1, x.1.2.1, ()), ())) Dd5 fun y =>
 .ok ((((y.1.1, y.1.2.1, ()), x.2.1, ()), ()))
def aOI : LTab := []
def aBp (x : (List Int × Bool × Unit) × List Int × Unit) (y : (List Int × Bool × Unit) × List Int × Unit) : TT (((List Int × Bool × Unit) × List Int × Unit) × Unit) :=
 .call (agV (x.2.1, y.2.1, ())) Dd0 fun y1 =>
 .call (abC (y.2.1, y1.1, ())) Dd4 fun y2 =>
 .call (abC (x.2.1, y1.1, ())) Dd4 fun y3 =>
 .call (adN ((x.1.1, x.1.2.1, ()), y2.1, ())) Dd5 fun y4 =>
 .call (adN ((y.1.1, y.1.2.1, ()), y3.1, ())) Dd5 fun y5 =>
 .call (am0 (y4.1, y5.1, ())) Dd5 fun y6 =>
 .call (agV (y6.1.1, y1.1, ())) Dd0 fun y7 =>
 .call (abC (y6.1.1, y7.1, ())) Dd4 fun y8 =>
 .call (abC (y.2.1, y7.1, ())) Dd4 fun y9 =>
 .call (aa8 (y8.1, y6.1.2.1, ())) Dd5 fun y10 =>
 .call (acC (y3.1, y9.1, ())) Dd0 fun y11 =>
 .ok ((((y10.1.1, y10.1.2.1, ()), y11.1, ()), ()))
def aOG : LTab := []
def aHd (x : (List Int × Bool × Unit) × List Int × Unit) (y : (List Int × Bool × Unit) × List Int × Unit) : TT (((List Int × Bool × Unit) × List Int × Unit) × Unit) :=
 .call (ah8 (((y.1.1, y.1.2.1, ()), y.2.1, ()), ())) Dd8 fun y1 =>
 .call (aqD (((x.1.1, x.1.2.1, ()), x.2.1, ()), y1.1, ())) Dd8 fun y2 =>
 .ok ((((y2.1.1.1, y2.1.1.2.1, ()), y2.1.2.1, ()), ()))
def aOH : LTab := []
def aBo (x : (List Int × Bool × Unit) × List Int × Unit) (y : (List Int × Bool × Unit) × List Int × Unit) : TT (((List Int × Bool × Unit) × List Int × Unit) × Unit) :=
 .call (agV (x.1.1, y.2.1, ())) Dd0 fun y1 =>
 .call (agV (y.1.1, x.2.1, ())) Dd0 fun y2 =>
 .call (abC (x.1.1, y1.1, ())) Dd4 fun y3 =>
 .call (abC (x.2.1, y2.1, ())) Dd4 fun y4 =>
 .call (abC (y.1.1, y2.1, ())) Dd4 fun y5 =>
 .call (abC (y.2.1, y1.1, ())) Dd4 fun y6 =>
 .call (acC (y3.1, y5.1, ())) Dd0 fun y7 =>
 .call (aa8 (y7.1, !x.1.2.1 == y.1.2.1, ())) Dd5 fun y8 =>
 .call (acC (y4.1, y6.1, ())) Dd0 fun y9 =>
 .ok ((((y8.1.1, y8.1.2.1, ()), y9.1, ()), ()))
def aDB : LTab := []
def as3 (x : (List Int × Bool × Unit) × List Int × Unit) : TT (((List Int × Bool × Unit) × List Int × Unit) × Unit) :=
 .call (aa8 (x.2.1, x.1.2.1, ())) Dd5 fun y =>
 .ok ((((y.1.1, y.1.2.1, ()), x.1.1, ()), ()))
def aIS : LTab := []
def arO (x : (List Int × Bool × Unit) × List Int × Unit) (y : (List Int × Bool × Unit) × List Int × Unit) : TT (Int × Unit) :=
 .call (adN ((x.1.1, x.1.2.1, ()), y.2.1, ())) Dd5 fun y1 =>
 .call (adN ((y.1.1, y.1.2.1, ()), x.2.1, ())) Dd5 fun y2 =>
 .call (afE (y2.1, ())) Dd5 fun y3 =>
 .call (am0 (y1.1, y3.1, ())) Dd5 fun y4 =>
 .call (ajJ (y4.1, ())) Dd6 fun y5 =>
 .ok ((y5.1, ()))
def aLT : LTab := []
def avV (x : (List Int × Bool × Unit) × List Int × Unit) (scale : List Int) : TT ((List Int × Bool × Unit) × Unit) :=
 .call (acC (scale, [2], ())) Dd0 fun y =>
 .call (adN ((x.1.1, x.1.2.1, ()), y.1, ())) Dd5 fun y1 =>
 .call (aa8 (x.2.1, false, ())) Dd5 fun y2 =>
 .call (am0 (y1.1, y2.1, ())) Dd5 fun y3 =>
 .call (acC (x.2.1, [2], ())) Dd0 fun y4 =>
 .call (ajK ((y3.1.1, y3.1.2.1, ()), y4.1, ())) Dd5 fun y5 =>
 .ok (((y5.1.1, y5.1.2.1, ()), ()))
def aJ5 : LTab := []
def auK (s : List Int × Bool × Unit) : TT (List UInt8 × Int × Unit) :=
 .call (akH (s.1, ())) Dd6 fun y =>
 .ite (decide (y.1 > 600))
 (.ok ((#[].toList, 6, ())))
 (.ite (s.2.1)
 (.call (akJ (s.1, ())) Dd2 fun y1 =>
 .need (List.length #[45].toList + List.length y1.1 ≤ lim) <| .ok ((#[45].toList ++ y1.1, 0, ())))
 (.call (akJ (s.1, ())) Dd2 fun y2 =>
 .ok ((y2.1, 0, ()))))
end
theorem aAR {p q : Int × Int} (h : (sg p.1, sg p.2, ()) = (sg q.1, sg q.2, ())) : p = q := by
 obtain ⟨h1, h2⟩ := Prod.mk.inj h
 obtain ⟨h2, -⟩ := Prod.mk.inj h2
 exact Prod.ext (aoQ h1) (aoQ h2)
theorem aES {p q : Int × Nat} (h : (sg p.1, mag p.2, ()) = (sg q.1, mag q.2, ())) : p = q := by
 obtain ⟨h1, h2⟩ := Prod.mk.inj h
 obtain ⟨h2, -⟩ := Prod.mk.inj h2
 exact Prod.ext (aoQ h1) (adI h2)
theorem at4 {p q : Rat × Rat} (h : (rt p.1, rt p.2, ()) = (rt q.1, rt q.2, ())) : p = q := by
 obtain ⟨h1, h2⟩ := Prod.mk.inj h
 obtain ⟨h2, -⟩ := Prod.mk.inj h2
 exact Prod.ext (ay5 h1) (ay5 h2)
theorem aPJ {p q : Rat × Nat} (h : (rt p.1, mag p.2, ()) = (rt q.1, mag q.2, ())) : p = q := by
 obtain ⟨h1, h2⟩ := Prod.mk.inj h
 obtain ⟨h2, -⟩ := Prod.mk.inj h2
 exact Prod.ext (ay5 h1) (adI h2)
theorem aDN (m : List Int) (negative : Bool) (y) (h : aa8 (m, negative, ()) = some y) : (az5 m negative).toO = some y := by
 injection h with h
 subst h
 cases negative
 ·rfl
 ·exact uT rfl (uC (len m == 0, ()) rfl rfl)
theorem abT {n : Nat} {b : Bool} {w : Int} (hn : n = w.natAbs) (hb : w = 0 ∨ b = decide (w < 0)) : aa8 (mag n, b, ()) = some (sg w, ()) := by
 subst hn
 unfold aa8 sg
 rcases hb with rfl | rfl
 ·simp [mag_zero, len]
 ·by_cases h0 : w = 0
  ·subst h0; simp
  ·have : (len (mag w.natAbs) == 0) = false := by
    have h1 : mag w.natAbs ≠ [] := fun h2 => by have := mag_nil_iff.1 h2; omega
    have h3 : (mag w.natAbs).length ≠ 0 := fun h2 => h1 (List.length_eq_zero_iff.1 h2)
    rw [aaC, beq_eq_false_iff_ne]; omega
   simp only [this, Bool.not_false, Bool.and_true]
theorem aNs (m : List Int) (negative : Bool) (y) (h : ah7 (m, negative, ()) = some y) : (aPc m negative).toO = some y := by
 injection h with h
 subst h
 cases negative
 ·rfl
 ·exact uT rfl (uC (len m == 0, ()) rfl rfl)
theorem aAs {n : Nat} {b : Bool} {w : Int} (hn : n = w.natAbs) (hb : w = 0 ∨ b = decide (w < 0)) : ah7 (mag n, b, ()) = some (sg w, ()) := by
 subst hn
 unfold ah7 sg
 rcases hb with rfl | rfl
 ·simp [mag_zero, len]
 ·by_cases h0 : w = 0
  ·subst h0; simp
  ·have : (len (mag w.natAbs) == 0) = false := by
    have h1 : mag w.natAbs ≠ [] := fun h2 => by have := mag_nil_iff.1 h2; omega
    have h3 : (mag w.natAbs).length ≠ 0 := fun h2 => h1 (List.length_eq_zero_iff.1 h2)
    rw [aaC, beq_eq_false_iff_ne]; omega
   simp only [this, Bool.not_false, Bool.and_true]
theorem aqM {a : Int} (h1 : Bd 8 a.natAbs) : afE (sg a, ()) = some (sg (-a), ()) := aaI (enc := fun x : Int => (sg x, ())) a h1 (fun b hb => aoQ (Prod.mk.inj hb).1)
theorem aCa {a b : Int} (h1 : Bd 7 a.natAbs) (h2 : Bd 7 b.natAbs) : am0 (sg a, sg b, ()) = some (sg (a + b), ()) := aaI (enc := fun x : Int × Int => (sg x.1, sg x.2, ())) (a, b) ⟨h1, h2⟩ (fun b hb => aAR hb)
theorem av9 (n : SgT) (y) (h : afE (n, ()) = some y) : (apI n).toO = some y := by
 obtain ⟨a, hp, hx, rfl⟩ := aaD h
 obtain ⟨rfl, -⟩ := Prod.mk.inj hx
 refine uC (sg (-a), ()) (abT (by omega) ?_) rfl
 by_cases h0 : a = 0
 ·left; omega
 ·right
  show (!decide (a < 0)) = decide (-a < 0)
  by_cases h1 : a < 0
  ·rw [decide_eq_true h1, decide_eq_false (by omega)]; rfl
  ·rw [decide_eq_false h1, decide_eq_true (by omega)]; rfl
theorem aI4 (n o : SgT) (y) (h : am0 (n, o, ()) = some y) : (aBt n o).toO = some y := by
 obtain ⟨⟨a, b⟩, hp, hx, rfl⟩ := aaD h
 obtain ⟨rfl, hx2⟩ := Prod.mk.inj hx; obtain ⟨rfl, -⟩ := Prod.mk.inj hx2; dsimp only
 obtain ⟨l1, l2⟩ := hp
 simp only at l1 l2
 unfold aBt
 dsimp only
 by_cases hs : (decide (a < 0) == decide (b < 0)) = true
 ·refine uT hs ?_
  have hs' : (a < 0 ↔ b < 0) := by simpa using hs
  refine uC _ (aEq (aaH l1 (by omega)) (aaH l2 (by omega))) ?_
  refine uC (sg (a + b), ()) (abT (by omega) (Or.inr ?_)) rfl
  exact decide_eq_decide.2 (by omega)
 ·have hs' : ¬ (a < 0 ↔ b < 0) := by simpa using hs
  refine uF (by simpa using hs) ?_
  refine uC _ (atL (aaH l1 (by omega)) (aaH l2 (by omega))) ?_
  by_cases hc : a.natAbs < b.natAbs
  ·refine uT ?_ ?_
   ·unfold atF; rw [if_pos (by omega)]; rfl
   ·refine uC _ (aAx (aaH l2 (by omega)) (by omega)) ?_
    refine uC (sg (a + b), ()) (abT (by omega) (Or.inr ?_)) rfl
    exact decide_eq_decide.2 (by omega)
  ·refine uF ?_ ?_
   ·unfold atF
    rw [if_neg (by omega)]
    split <;> rfl
   ·refine uC _ (aAx (aaH l1 (by omega)) (by omega)) ?_
    refine uC (sg (a + b), ()) (abT (by omega) ?_) rfl
    by_cases h0 : a + b = 0
    ·exact Or.inl h0
    ·exact Or.inr (decide_eq_decide.2 (by omega))
theorem aB6 {a : Int} (h1 : Bd 8 a.natAbs) : ap0 (sg a, ()) = some (sg (-a), ()) := aaI (enc := fun x : Int => (sg x, ())) a h1 (fun b hb => aoQ (Prod.mk.inj hb).1)
theorem aO7 {a b : Int} (h1 : Bd 7 a.natAbs) (h2 : Bd 7 b.natAbs) : aHu (sg a, sg b, ()) = some (sg (a + b), ()) := aaI (enc := fun x : Int × Int => (sg x.1, sg x.2, ())) (a, b) ⟨h1, h2⟩ (fun b hb => aAR hb)
theorem axY {a : Int} (h1 : Bd 8 a.natAbs) : ajJ (sg a, ()) = some (a.sign, ()) := aaI (enc := fun x : Int => (sg x, ())) a h1 (fun b hb => aoQ (Prod.mk.inj hb).1)
theorem aFP (n : SgT) (y) (h : ajJ (n, ()) = some y) : (av8 n).toO = some y := by
 obtain ⟨a, hp, hx, rfl⟩ := aaD h
 obtain ⟨rfl, -⟩ := Prod.mk.inj hx
 unfold av8
 dsimp only
 refine uC _ (aqL _) ?_
 rcases Int.lt_trichotomy a 0 with h0 | h0 | h0
 ·refine uF (by simp; omega) (uT (by simp; omega) ?_)
  rw [Int.sign_eq_neg_one_of_neg h0]; rfl
 ·subst h0; exact uT (by simp) rfl
 ·refine uF (by simp; omega) (uF (by simp; omega) ?_)
  rw [Int.sign_eq_one_of_pos h0]; rfl
theorem axX {a : Int} (h1 : Bd 0 a.natAbs) : ajI (sg a, ()) = some (dec a, ()) := aaI (enc := fun x : Int => (sg x, ())) a h1 (fun b hb => aoQ (Prod.mk.inj hb).1)
theorem aHn {n : Nat} (h : Bd 0 n) : (aa2 n).length ≤ 9000001 := by
 have := aiM (k := 1000000 * 4 ^ 0) h
 omega
theorem aFO (n : SgT) (y) (h : ajI (n, ()) = some y) : (av7 n).toO = some y := by
 obtain ⟨a, hp, hx, rfl⟩ := aaD h
 obtain ⟨rfl, -⟩ := Prod.mk.inj hx
 unfold av7
 dsimp only
 have hl := aHn hp
 by_cases h0 : a < 0
 ·refine uT (by simp; omega) (uC _ (aoH hp) (uN ?_ ?_))
  ·show 1 + (aa2 a.natAbs).length ≤ lim
   unfold lim; omega
  ·rw [ahH h0]; rfl
 ·refine uF (by simp; omega) (uC _ (aoH hp) ?_)
  rw [acB (by omega)]; rfl
theorem ahR {a : Int} {b : Nat} (h1 : Bd 7 a.natAbs) (h2 : Bd 7 b) : adN (sg a, mag b, ()) = some (sg (a * b), ()) := aaI (enc := fun x : Int × Nat => (sg x.1, mag x.2, ())) (a, b) ⟨h1, h2⟩ (fun b hb => aES hb)
theorem aBu (n : SgT) (m : List Int) (y) (h : adN (n, m, ()) = some y) : (an2 n m).toO = some y := by
 obtain ⟨⟨a, b⟩, hp, hx, rfl⟩ := aaD h
 obtain ⟨rfl, hx2⟩ := Prod.mk.inj hx; obtain ⟨rfl, -⟩ := Prod.mk.inj hx2; dsimp only
 obtain ⟨l1, l2⟩ := hp
 simp only at l1 l2
 unfold an2
 dsimp only
 refine uC _ (ag0 (aaH l1 (by omega)) (aaH l2 (by omega))) ?_
 refine uC (sg (a * b), ()) (abT (by rw [Int.natAbs_mul]; rfl) ?_) rfl
 rcases Nat.eq_zero_or_pos b with h0 | h0
 ·left; subst h0; simp
 ·right
  refine decide_eq_decide.2 ⟨fun h => Int.mul_neg_of_neg_of_pos h (by omega), fun h => ?_⟩
  rcases Int.lt_or_le a 0 with h2 | h2
  ·exact h2
  ·have := Int.mul_nonneg h2 (show (0 : Int) ≤ b by omega); omega
theorem arQ {a : Int} {d : Nat} (ha : a < 0) (hd : d ≠ 0) : a / (d : Int) = -((if a.natAbs % d = 0 then a.natAbs / d else a.natAbs / d + 1 : Nat) : Int) := by
 obtain ⟨n, hn⟩ : ∃ n : Nat, a = -(n : Int) := ⟨a.natAbs, by omega⟩
 subst hn
 rw [Int.natAbs_neg, Int.natAbs_natCast]
 have e := Nat.mod_add_div n d
 have hlt := Nat.mod_lt n (show 0 < d by omega)
 generalize hq : n / d = q at e
 generalize hr : n % d = r at e hlt
 by_cases h0 : r = 0
 ·rw [if_pos h0]
  have : -(n : Int) = -(q : Int) * d := by
   rw [← e, h0]; simp; grind
  rw [this, Int.mul_ediv_cancel _ (by omega)]
 ·rw [if_neg h0]
  have h1 : -(n : Int) = ((d : Int) - r) + (-((q + 1 : Nat) : Int)) * d := by
   rw [← e]; simp; grind
  rw [h1, Int.add_mul_ediv_right _ _ (by omega), Int.ediv_eq_zero_of_lt (by omega) (by omega), Int.zero_add]
theorem aAy {a : Int} {b : Nat} (h1 : Bd 7 a.natAbs) (h2 : Bd 7 b) (h3 : b ≠ 0) : ajK (sg a, mag b, ()) = some (sg (a / b), ()) := aaI (enc := fun x : Int × Nat => (sg x.1, mag x.2, ())) (a, b) ⟨h1, h2, h3⟩ (fun b hb => aES hb)
theorem arG : mag 1 = [1] := ao8 (by omega) (by omega)
theorem aP8 : mag 2 = [2] := ao8 (by omega) (by omega)
theorem aDL (n : SgT) (d : List Int) (y) (h : ajK (n, d, ()) = some y) : (arS n d).toO = some y := by
 obtain ⟨⟨a, b⟩, hp, hx, rfl⟩ := aaD h
 obtain ⟨rfl, hx2⟩ := Prod.mk.inj hx; obtain ⟨rfl, -⟩ := Prod.mk.inj hx2; dsimp only
 obtain ⟨l1, l2, l3⟩ := hp
 simp only at l1 l2 l3
 unfold arS
 dsimp only
 refine uC _ (ab3 (aaH l1 (by omega)) (aaH l2 (by omega)) l3) ?_
 by_cases ha : a < 0
 ·refine uT (by simp; omega) ?_
  refine uC _ (aqL _) ?_
  have hf := arQ ha l3
  have hbd := aaS b l1
  generalize a.natAbs / b = q at hf hbd
  generalize hrr : a.natAbs % b = r at hf
  by_cases hr : r = 0
  ·rw [if_pos hr] at hf
   refine uF (by simp; omega) ?_
   refine uC (sg (a / b), ()) (abT (n := q) (by omega) ?_) rfl
   by_cases h0 : a / (b : Int) = 0
   ·exact Or.inl h0
   ·exact Or.inr (decide_eq_decide.2 (by omega))
  ·rw [if_neg hr] at hf
   refine uT (by simp; omega) ?_
   have := aEq (a := q) (b := 1) (aaH hbd (by omega)) (aaH (aaG (by omega)) (by omega))
   rw [arG] at this
   refine uC _ this ?_
   refine uC (sg (a / b), ()) (abT (n := q + 1) (by omega) (Or.inr (decide_eq_decide.2 (by omega)))) rfl
 ·refine uF (by simp; omega) ?_
  obtain ⟨n, rfl⟩ := Int.eq_ofNat_of_zero_le (show 0 ≤ a by omega)
  have hdv : ((n : Int) / (b : Int)) = ((n / b : Nat) : Int) := by simp
  rw [hdv]
  refine uC (sg ((n / b : Nat) : Int), ()) (abT (n := n / b) rfl (Or.inr (decide_eq_decide.2 ?_))) rfl
  generalize n / b = q
  omega
theorem aBM (s p : List UInt8) (hs : s.length ≤ 4611686018427387904) (y) (h : abW (s, p, ()) = some y) : (an7 s p).toO = some y := by
 injection h with h
 subst h
 unfold an7
 dsimp only
 rcases Nat.lt_or_ge s.length p.length with hl | hl
 ·repeat (first | refine uV ?_ | refine uB ?_ | refine uN sd ?_ | refine uT sd ?_ | refine uF sd ?_ | refine uN (by simp) ?_)
  have : p.isPrefixOf s = false := by
   cases hp : p.isPrefixOf s with
   | false => rfl
   | true => have := (List.isPrefixOf_iff_prefix.1 hp).length_le; omega
  simp [this, aaK]
 ·refine uV (uV (uV (uV (uT sd (uN sd ?_)))))
  simp only [aaC, Int.toNat_natCast]
  by_cases hp : p.isPrefixOf s = true
  ·have h2 := List.prefix_iff_eq_take.1 (List.isPrefixOf_iff_prefix.1 hp)
   refine uF (by rw [← h2]; simp) (uN sd ?_)
   rw [if_pos hp, List.take_of_length_le (by simp)]; rfl
  ·refine uT ?_ ?_
   ·simp only [Bool.not_eq_true', beq_eq_false_iff_ne]
    intro h2
    exact hp (List.isPrefixOf_iff_prefix.2 (List.prefix_iff_eq_take.2 h2.symm))
   ·rw [if_neg hp]; rfl
theorem aEr (z : Int) : abW (dec z, #[45].toList, ()) = some (aa2 z.natAbs, decide (z < 0), ()) := by
 unfold abW
 show some (if [45].isPrefixOf (dec z) = true then _ else _) = _
 by_cases h : z < 0
 ·rw [ahH h, decide_eq_true h]
  simp [List.isPrefixOf]
 ·rw [acB (by omega), decide_eq_false h]
  have : [45].isPrefixOf (aa2 z.natAbs) = false := by
   have := adB z.natAbs
   cases hd : aa2 z.natAbs with
   | nil => rfl
   | cons a l =>
    rw [hd] at this
    simp only [List.head?_cons, ne_eq, Option.some.injEq] at this
    simp [List.isPrefixOf, Ne.symm this]
  rw [this]; simp
theorem am4 {z : Int} (h : Bd 7 z.natAbs) : afV (dec z, ()) = some (sg z, ()) := aaI (enc := fun x : Int => (dec x, ())) z h (fun b hb => aj7 (Prod.mk.inj hb).1)
theorem aDO (a : List UInt8) (y) (h : afV (a, ()) = some y) : (az6 a).toO = some y := by
 obtain ⟨z, hp, hx, rfl⟩ := aaD h
 obtain ⟨rfl, -⟩ := Prod.mk.inj hx
 exact uC _ (aEr z) (uC _ (aJS (aaH hp (by omega))) rfl)
end Go.Vs
