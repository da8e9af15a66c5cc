/-
  Trees of what the functions compute, and their laws. Own work; no condition.
-/
import Derived.Test.YtakjojajnblpoaaGreatDoorClL3
import Derived.Test.YtakjojajnblpoaaGreatDoorProg
set_option linter.unusedVariables false
set_option linter.unusedSimpArgs false
set_option maxRecDepth 100000
namespace Go.Vs
open Go Go.Vg Go.Proofs
noncomputable section
def aNV : LTab := [(130, 28, 4097, { tag := 0, ι := (Int) × Unit, vs := .dat (.s 3) (Ty.int IntKind.i64) <| .nil, ks := [2, 0], kh := [], fresh := 0 })]
def aCM (d : List Int) (i : (Int) × Unit) : TT (((Int) × Unit) ⊕ (List Int × Unit)) :=
 .ite (decide (i.1 > 0))
 (.need (inb (w64 (i.1 - 1)) (len d)) <| .ite (gi d (w64 (i.1 - 1)) 0 == 0)
 (.tt <| .lt (w64 (i.1 - 1) : Int) fun z => .triv (Qq z ∧ True ∧ Qq d ∧ True) tv <| .tr <| .ok (.inl ((z, ()))))
 (.need (inc i.1 (len d)) <| .ok (.inr ((List.take (Int.toNat i.1) d, ())))))
 (.need (inc i.1 (len d)) <| .ok (.inr ((List.take (Int.toNat i.1) d, ()))))
def aGR (d : List Int) : TT (List Int × Unit) :=
 .loop 0 (.tt <| .triv (Qq (len d) ∧ True ∧ Qq d ∧ True) tv <| .tr <| .ok ((len d, ()))) (aCM d)
def aKM : LTab := []
def aCL (below : Bool) (d : List Int) : TT ((Bool × List Int × Unit) × Unit) :=
 .call (acM (d, ())) aEw fun y =>
 .ite (below)
 (.ok (((decide (len y.1 > 0), y.1, ()), ())))
 (.ok (((false, y.1, ()), ())))
def aCT : LTab := [(40, 60, 5122, { tag := 0, ι := Bool × (List Int) × (Int) × Unit, vs := .appN (.s 3) 5 3 (Ty.int IntKind.i64) <| .dat (.s 0) (Ty.int IntKind.i64) <| .nil, ks := [4, 2], kh := [0], fresh := 1 })]
def ae1 (n : Int) (i : Bool × (List Int) × (Int) × Unit) : TT ((Bool × (List Int) × (Int) × Unit) ⊕ ((Bool × List Int × Unit) × Unit)) :=
 .ite (i.1)
 (.ite (i.2.2.1 != 0)
 (.triv (asT Int 10000 ≠ 0) (by decide) <| .ite (decide (Int.tmod i.2.2.1 10000 < 0))
 (.need (1 * 8 ≤ 140737488355328) <| .triv (asT Int 10000 ≠ 0) (by decide) <| .tt <| .lt ([w64 (0 - Int.tmod i.2.2.1 10000)] : List Int) fun z => .lt (w64 (Int.tdiv i.2.2.1 10000) : Int) fun z1 => .triv (Qq z1 ∧ (Qq 5 ∧ Qq 0 ∧ Qq 1 ∧ Qq true) ∧ Qq (decide (n < 0)) ∧ (Qq 0 ∧ Qq 0 ∧ Qq true) ∧ True) tv <| .triv ((Qq (3 : TypeId) ∧ Qq z) ∧ Qq true ∧ (Qq (83 : TypeId) ∧ Qq false ∧ True ∧ True) ∧ Qq true ∧ True) tv <| .ok (.inl ((false, z, z1, ()))))
 (.need (1 * 8 ≤ 140737488355328) <| .triv (asT Int 10000 ≠ 0) (by decide) <| .tt <| .lt ([Int.tmod i.2.2.1 10000] : List Int) fun z2 => .lt (w64 (Int.tdiv i.2.2.1 10000) : Int) fun z3 => .triv (Qq z3 ∧ (Qq 5 ∧ Qq 0 ∧ Qq 1 ∧ Qq true) ∧ Qq (decide (n < 0)) ∧ (Qq 0 ∧ Qq 0 ∧ Qq true) ∧ True) tv <| .triv ((Qq (3 : TypeId) ∧ Qq z2) ∧ Qq true ∧ (Qq (83 : TypeId) ∧ Qq false ∧ True ∧ True) ∧ Qq true ∧ True) tv <| .ok (.inl ((false, z2, z3, ())))))
 (.call (abF (decide (n < 0), [], ())) akX fun y =>
 .ok (.inr (((y.1.1, y.1.2.1, ()), ())))))
 (.ite (i.2.2.1 != 0)
 (.triv (asT Int 10000 ≠ 0) (by decide) <| .ite (decide (Int.tmod i.2.2.1 10000 < 0))
 (.need ((List.length i.2.1 + 1) * 8 ≤ 140737488355328) <| .triv (asT Int 10000 ≠ 0) (by decide) <| .tt <| .lt (List.take (List.length i.2.1) i.2.1 ++ [w64 (0 - Int.tmod i.2.2.1 10000)] : List Int) fun z4 => .lt (w64 (Int.tdiv i.2.2.1 10000) : Int) fun z5 => .need (((z5 : Int) = z5) ∧ (((5) = (5)) ∧ (((0) = (0)) ∧ ((List.length i.2.1 + 1 = List.length z4) ∧ ((true) = (true))))) ∧ ((decide (n < 0)) = (decide (n < 0))) ∧ (((0) = (0)) ∧ (((0) = (0)) ∧ ((true) = (true)))) ∧ True) <| .triv ((Qq (3 : TypeId) ∧ Qq z4) ∧ Qq true ∧ (Qq (83 : TypeId) ∧ Qq false ∧ True ∧ True) ∧ Qq true ∧ True) tv <| .ok (.inl ((false, z4, z5, ()))))
 (.need ((List.length i.2.1 + 1) * 8 ≤ 140737488355328) <| .triv (asT Int 10000 ≠ 0) (by decide) <| .tt <| .lt (List.take (List.length i.2.1) i.2.1 ++ [Int.tmod i.2.2.1 10000] : List Int) fun z6 => .lt (w64 (Int.tdiv i.2.2.1 10000) : Int) fun z7 => .need (((z7 : Int) = z7) ∧ (((5) = (5)) ∧ (((0) = (0)) ∧ ((List.length i.2.1 + 1 = List.length z6) ∧ ((true) = (true))))) ∧ ((decide (n < 0)) = (decide (n < 0))) ∧ (((0) = (0)) ∧ (((0) = (0)) ∧ ((true) = (true)))) ∧ True) <| .triv ((Qq (3 : TypeId) ∧ Qq z6) ∧ Qq true ∧ (Qq (83 : TypeId) ∧ Qq false ∧ True ∧ True) ∧ Qq true ∧ True) tv <| .ok (.inl ((false, z6, z7, ())))))
 (.call (abF (decide (n < 0), List.take (List.length i.2.1) i.2.1, ())) akX fun y1 =>
 .ok (.inr (((y1.1.1, y1.1.2.1, ()), ())))))
def asN (n : Int) : TT ((Bool × List Int × Unit) × Unit) :=
 .loop 0 (.tt <| .triv (Qq n ∧ True ∧ Qq (decide (n < 0)) ∧ (Qq 0 ∧ Qq 0 ∧ Qq true) ∧ True) tv <| .triv ((Qq (83 : TypeId) ∧ Qq false ∧ True ∧ True) ∧ Qq true ∧ True) tv <| .ok ((true, [], n, ()))) (ae1 n)
def aKN : LTab := []
def au6 (n : Int) : TT (List UInt8 × Unit) :=
 .triv (asT Int 1000 ≠ 0) (by decide) <| .triv (asT Int 100 ≠ 0) (by decide) <| .triv (asT Int 10 ≠ 0) (by decide) <| .triv (asT Int 10 ≠ 0) (by decide) <| .triv (asT Int 10 ≠ 0) (by decide) <| .triv (asT Int 10 ≠ 0) (by decide) <| .ok ((List.map (fun n => UInt8.ofNat (Int.toNat n)) (List.take 4 [wu8 (w64 (48 + w64 (Int.tdiv n 1000))), wu8 (w64 (48 + Int.tmod (w64 (Int.tdiv n 100)) 10)), wu8 (w64 (48 + Int.tmod (w64 (Int.tdiv n 10)) 10)), wu8 (w64 (48 + Int.tmod n 10))]), ()))
def aKP : LTab := [(125, 58, 8192, { tag := 0, ι := (Int) × (List UInt8) × Unit, vs := .dat (.s 4) (Ty.int IntKind.i64) <| .dat (.s 3) (Ty.str) <| .nil, ks := [2, 1], kh := [0], fresh := 0 }), (125, 124, 11264, { tag := 1, ι := (Int) × Unit, vs := .dat (.s 5) (Ty.int IntKind.i64) <| .nil, ks := [3, 2, 1], kh := [0], fresh := 0 })]
def ajV (i1 : (Int) × Unit) (i : Int × List UInt8 × Unit) (a : Bool × List Int × Unit) : TT (((Int) × Unit) ⊕ (((Int) × (List UInt8) × Unit) ⊕ (List UInt8 × Unit))) :=
 .need (inc i1.1 (len i.2.1)) <| .ite (List.take (List.length i.2.1 - Int.toNat i1.1) (List.drop (Int.toNat i1.1) i.2.1) == #[].toList)
 (.ok (.inr (.inr ((#[48].toList, ())))))
 (.ite (a.1)
 (.need (List.length #[45].toList + List.length (List.take (List.length i.2.1 - Int.toNat i1.1) (List.drop (Int.toNat i1.1) i.2.1)) ≤ lim) <| .ok (.inr (.inr ((#[45].toList ++ List.take (List.length i.2.1 - Int.toNat i1.1) (List.drop (Int.toNat i1.1) i.2.1), ())))))
 (.ok (.inr (.inr ((List.take (List.length i.2.1 - Int.toNat i1.1) (List.drop (Int.toNat i1.1) i.2.1), ()))))))
def azC (a : Bool × List Int × Unit) (i : Int × List UInt8 × Unit) (i1 : (Int) × Unit) : TT (((Int) × Unit) ⊕ (((Int) × (List UInt8) × Unit) ⊕ (List UInt8 × Unit))) :=
 .ite (decide (i1.1 < len i.2.1))
 (.need (inb i1.1 (len i.2.1)) <| .ite ((↑(UInt8.toNat (gi i.2.1 i1.1 0)) : Int) == 48)
  (.tt <| .lt (w64 (i1.1 + 1) : Int) fun z3 => .triv (Qq z3 ∧ Qq i.2.1 ∧ Qq (#[].toList : List UInt8) ∧ (Qq 0 ∧ Qq 0 ∧ Qq true) ∧ True) tv <| .triv ((Qq (83 : TypeId) ∧ Qq a.1 ∧ Qq a.2.1 ∧ True) ∧ Qq true ∧ True) tv <| .ok (.inl ((z3, ()))))
  (ajV i1 i a))
 (ajV i1 i a)
def aq3 (a : Bool × List Int × Unit) (i : (Int) × (List UInt8) × Unit) : TT (((Int) × (List UInt8) × Unit) ⊕ (List UInt8 × Unit)) :=
 .ite (decide (i.1 ≥ 0))
 (.need (inb i.1 (len a.2.1)) <| .call (ap6 (gi a.2.1 i.1 0, ())) Dd2 fun y =>
 .need (List.length i.2.1 + List.length y.1 ≤ lim) <| .tt <| .lt (w64 (i.1 - 1) : Int) fun z1 => .lt (i.2.1 ++ y.1 : List UInt8) fun z2 => .triv (Qq z2 ∧ Qq z1 ∧ Qq (#[].toList : List UInt8) ∧ (Qq 0 ∧ Qq 0 ∧ Qq true) ∧ True) tv <| .triv ((Qq (83 : TypeId) ∧ Qq a.1 ∧ Qq a.2.1 ∧ True) ∧ Qq true ∧ True) tv <| .ok (.inl ((z1, z2, ()))))
 (.loop 1 (.tt <| .triv (Qq (0 : Int) ∧ Qq i.2.1 ∧ Qq (#[].toList : List UInt8) ∧ (Qq 0 ∧ Qq 0 ∧ Qq true) ∧ True) tv <| .triv ((Qq (83 : TypeId) ∧ Qq a.1 ∧ Qq a.2.1 ∧ True) ∧ Qq true ∧ True) tv <| .ok ((0, ()))) (azC a i))
def au8 (a : Bool × List Int × Unit) : TT (List UInt8 × Unit) :=
 .loop 0 (.tt <| .lt (w64 (len a.2.1 - 1) : Int) fun z => .triv (Qq (#[].toList : List UInt8) ∧ Qq z ∧ Qq (#[].toList : List UInt8) ∧ (Qq 0 ∧ Qq 0 ∧ Qq true) ∧ True) tv <| .triv ((Qq (83 : TypeId) ∧ Qq a.1 ∧ Qq a.2.1 ∧ True) ∧ Qq true ∧ True) tv <| .ok ((z, #[].toList, ()))) (aq3 a)
def aNW : LTab := []
def aGS (a : Bool × List Int × Unit) : TT (List UInt8 × Int × Unit) :=
 .call (alW ((a.1, a.2.1, ()), ())) Dd2 fun y =>
 .ite (a.1)
 (.ite (decide (w64 (len y.1 - 1) > 600))
 (.ok ((#[].toList, 6, ())))
 (.ok ((y.1, 0, ()))))
 (.ite (decide (len y.1 > 600))
 (.ok ((#[].toList, 6, ())))
 (.ok ((y.1, 0, ()))))
def aIc : LTab := [(132, 58, 10240, { tag := 0, ι := (Int) × Unit, vs := .dat (.s 5) (Ty.int IntKind.i64) <| .nil, ks := [0, 1], kh := [], fresh := 0 })]
def au4 (a : List Int) (b : List Int) (i : (Int) × Unit) : TT (((Int) × Unit) ⊕ (Int × Unit)) :=
 .ite (decide (i.1 ≥ 0))
 (.need (inb i.1 (len a)) <| .need (inb i.1 (len b)) <| .ite (gi a i.1 0 != gi b i.1 0)
 (.need (inb i.1 (len a)) <| .need (inb i.1 (len b)) <| .ok (.inr ((w64 (gi a i.1 0 - gi b i.1 0), ()))))
 (.tt <| .lt (w64 (i.1 - 1) : Int) fun z1 => .triv (Qq z1 ∧ Qq a ∧ Qq b ∧ True) tv <| .tr <| .ok (.inl ((z1, ())))))
 (.ok (.inr ((0, ()))))
def aq0 (a : List Int) (b : List Int) : TT (Int × Unit) :=
 .ite (len a != len b)
 (.ok ((w64 (len a - len b), ())))
 (.loop 0 (.tt <| .lt (w64 (len a - 1) : Int) fun z => .triv (Qq z ∧ Qq a ∧ Qq b ∧ True) tv <| .tr <| .ok ((z, ()))) (au4 a b))
def aNU : LTab := [(131, 122, 4098, { tag := 0, ι := (Int) × (Int) × Bool × (List Int) × Unit, vs := .dat (.s 7) (Ty.int IntKind.i64) <| .dat (.s 6) (Ty.int IntKind.i64) <| .appN (.s 5) 4 3 (Ty.int IntKind.i64) <| .nil, ks := [4, 0, 1], kh := [], fresh := 1 })]
def adH (i : (Int) × (Int) × Bool × (List Int) × Unit) (a : List Int) (b : List Int) : TT (((Int) × (Int) × Bool × (List Int) × Unit) ⊕ (List Int × Unit)) :=
 .ite (decide (i.1 < len a))
 (.need (inb i.1 (len a)) <| .ite (decide (i.1 < len b))
 (.need (inb i.1 (len b)) <| .triv (asT Int 10000 ≠ 0) (by decide) <| .need ((List.length i.2.2.2.1 + 1) * 8 ≤ 140737488355328) <| .triv (asT Int 10000 ≠ 0) (by decide) <| .tt <| .lt (w64 (i.1 + 1) : Int) fun z36 => .lt (w64 (Int.tdiv (w64 (w64 (i.2.1 + gi a i.1 0) + gi b i.1 0)) 10000) : Int) fun z37 => .lt (List.take (List.length i.2.2.2.1) i.2.2.2.1 ++ [Int.tmod (w64 (w64 (i.2.1 + gi a i.1 0) + gi b i.1 0)) 10000] : List Int) fun z38 => .need ((((4) = (4)) ∧ (((0) = (0)) ∧ ((List.length i.2.2.2.1 + 1 = List.length z38) ∧ ((true) = (true))))) ∧ ((z37 : Int) = z37) ∧ ((z36 : Int) = z36) ∧ True ∧ ((a) = (a)) ∧ ((b) = (b)) ∧ True) <| .triv ((Qq (3 : TypeId) ∧ Qq z38) ∧ Qq true ∧ True) tv <| .ok (.inl ((z36, z37, false, z38, ()))))
 (.triv (asT Int 10000 ≠ 0) (by decide) <| .need ((List.length i.2.2.2.1 + 1) * 8 ≤ 140737488355328) <| .triv (asT Int 10000 ≠ 0) (by decide) <| .tt <| .lt (w64 (i.1 + 1) : Int) fun z39 => .lt (w64 (Int.tdiv (w64 (i.2.1 + gi a i.1 0)) 10000) : Int) fun z40 => .lt (List.take (List.length i.2.2.2.1) i.2.2.2.1 ++ [Int.tmod (w64 (i.2.1 + gi a i.1 0)) 10000] : List Int) fun z41 => .need ((((4) = (4)) ∧ (((0) = (0)) ∧ ((List.length i.2.2.2.1 + 1 = List.length z41) ∧ ((true) = (true))))) ∧ ((z40 : Int) = z40) ∧ ((z39 : Int) = z39) ∧ True ∧ ((a) = (a)) ∧ ((b) = (b)) ∧ True) <| .triv ((Qq (3 : TypeId) ∧ Qq z41) ∧ Qq true ∧ True) tv <| .ok (.inl ((z39, z40, false, z41, ())))))
 (.ite (decide (i.1 < len b))
 (.need (inb i.1 (len b)) <| .triv (asT Int 10000 ≠ 0) (by decide) <| .need ((List.length i.2.2.2.1 + 1) * 8 ≤ 140737488355328) <| .triv (asT Int 10000 ≠ 0) (by decide) <| .tt <| .lt (w64 (i.1 + 1) : Int) fun z42 => .lt (w64 (Int.tdiv (w64 (i.2.1 + gi b i.1 0)) 10000) : Int) fun z43 => .lt (List.take (List.length i.2.2.2.1) i.2.2.2.1 ++ [Int.tmod (w64 (i.2.1 + gi b i.1 0)) 10000] : List Int) fun z44 => .need ((((4) = (4)) ∧ (((0) = (0)) ∧ ((List.length i.2.2.2.1 + 1 = List.length z44) ∧ ((true) = (true))))) ∧ ((z43 : Int) = z43) ∧ ((z42 : Int) = z42) ∧ True ∧ ((a) = (a)) ∧ ((b) = (b)) ∧ True) <| .triv ((Qq (3 : TypeId) ∧ Qq z44) ∧ Qq true ∧ True) tv <| .ok (.inl ((z42, z43, false, z44, ()))))
 (.triv (asT Int 10000 ≠ 0) (by decide) <| .need ((List.length i.2.2.2.1 + 1) * 8 ≤ 140737488355328) <| .triv (asT Int 10000 ≠ 0) (by decide) <| .tt <| .lt (w64 (i.1 + 1) : Int) fun z45 => .lt (w64 (Int.tdiv i.2.1 10000) : Int) fun z46 => .lt (List.take (List.length i.2.2.2.1) i.2.2.2.1 ++ [Int.tmod i.2.1 10000] : List Int) fun z47 => .need ((((4) = (4)) ∧ (((0) = (0)) ∧ ((List.length i.2.2.2.1 + 1 = List.length z47) ∧ ((true) = (true))))) ∧ ((z46 : Int) = z46) ∧ ((z45 : Int) = z45) ∧ True ∧ ((a) = (a)) ∧ ((b) = (b)) ∧ True) <| .triv ((Qq (3 : TypeId) ∧ Qq z47) ∧ Qq true ∧ True) tv <| .ok (.inl ((z45, z46, false, z47, ())))))
def adG (i : (Int) × (Int) × Bool × (List Int) × Unit) (a : List Int) (b : List Int) : TT (((Int) × (Int) × Bool × (List Int) × Unit) ⊕ (List Int × Unit)) :=
 .ite (decide (i.1 < len a))
 (.need (inb i.1 (len a)) <| .ite (decide (i.1 < len b))
 (.need (inb i.1 (len b)) <| .triv (asT Int 10000 ≠ 0) (by decide) <| .need (1 * 8 ≤ 140737488355328) <| .triv (asT Int 10000 ≠ 0) (by decide) <| .tt <| .lt (w64 (i.1 + 1) : Int) fun z => .lt (w64 (Int.tdiv (w64 (w64 (i.2.1 + gi a i.1 0) + gi b i.1 0)) 10000) : Int) fun z1 => .lt ([Int.tmod (w64 (w64 (i.2.1 + gi a i.1 0) + gi b i.1 0)) 10000] : List Int) fun z2 => .triv ((Qq 4 ∧ Qq 0 ∧ Qq 1 ∧ Qq true) ∧ Qq z1 ∧ Qq z ∧ True ∧ Qq a ∧ Qq b ∧ True) tv <| .triv ((Qq (3 : TypeId) ∧ Qq z2) ∧ Qq true ∧ True) tv <| .ok (.inl ((z, z1, false, z2, ()))))
 (.triv (asT Int 10000 ≠ 0) (by decide) <| .need (1 * 8 ≤ 140737488355328) <| .triv (asT Int 10000 ≠ 0) (by decide) <| .tt <| .lt (w64 (i.1 + 1) : Int) fun z3 => .lt (w64 (Int.tdiv (w64 (i.2.1 + gi a i.1 0)) 10000) : Int) fun z4 => .lt ([Int.tmod (w64 (i.2.1 + gi a i.1 0)) 10000] : List Int) fun z5 => .triv ((Qq 4 ∧ Qq 0 ∧ Qq 1 ∧ Qq true) ∧ Qq z4 ∧ Qq z3 ∧ True ∧ Qq a ∧ Qq b ∧ True) tv <| .triv ((Qq (3 : TypeId) ∧ Qq z5) ∧ Qq true ∧ True) tv <| .ok (.inl ((z3, z4, false, z5, ())))))
 (.ite (decide (i.1 < len b))
 (.need (inb i.1 (len b)) <| .triv (asT Int 10000 ≠ 0) (by decide) <| .need (1 * 8 ≤ 140737488355328) <| .triv (asT Int 10000 ≠ 0) (by decide) <| .tt <| .lt (w64 (i.1 + 1) : Int) fun z6 => .lt (w64 (Int.tdiv (w64 (i.2.1 + gi b i.1 0)) 10000) : Int) fun z7 => .lt ([Int.tmod (w64 (i.2.1 + gi b i.1 0)) 10000] : List Int) fun z8 => .triv ((Qq 4 ∧ Qq 0 ∧ Qq 1 ∧ Qq true) ∧ Qq z7 ∧ Qq z6 ∧ True ∧ Qq a ∧ Qq b ∧ True) tv <| .triv ((Qq (3 : TypeId) ∧ Qq z8) ∧ Qq true ∧ True) tv <| .ok (.inl ((z6, z7, false, z8, ()))))
 (.triv (asT Int 10000 ≠ 0) (by decide) <| .need (1 * 8 ≤ 140737488355328) <| .triv (asT Int 10000 ≠ 0) (by decide) <| .tt <| .lt (w64 (i.1 + 1) : Int) fun z9 => .lt (w64 (Int.tdiv i.2.1 10000) : Int) fun z10 => .lt ([Int.tmod i.2.1 10000] : List Int) fun z11 => .triv ((Qq 4 ∧ Qq 0 ∧ Qq 1 ∧ Qq true) ∧ Qq z10 ∧ Qq z9 ∧ True ∧ Qq a ∧ Qq b ∧ True) tv <| .triv ((Qq (3 : TypeId) ∧ Qq z11) ∧ Qq true ∧ True) tv <| .ok (.inl ((z9, z10, false, z11, ())))))
def ak9 (a : List Int) (b : List Int) (i : (Int) × (Int) × Bool × (List Int) × Unit) : TT (((Int) × (Int) × Bool × (List Int) × Unit) ⊕ (List Int × Unit)) :=
 .ite (i.2.2.1)
 (.ite (decide (i.1 < len a))
  (adG i a b)
  (.ite (decide (i.1 < len b))
   (adG i a b)
   (.ite (decide (i.2.1 > 0))
    (adG i a b)
    (.ok (.inr (([], ())))))))
 (.ite (decide (i.1 < len a))
  (adH i a b)
  (.ite (decide (i.1 < len b))
   (adH i a b)
   (.ite (decide (i.2.1 > 0))
    (adH i a b)
    (.ok (.inr ((List.take (List.length i.2.2.2.1) i.2.2.2.1, ())))))))
def aGQ (a : List Int) (b : List Int) : TT (List Int × Unit) :=
 .loop 0 (.tt <| .triv (True ∧ Qq (0 : Int) ∧ Qq (0 : Int) ∧ True ∧ Qq a ∧ Qq b ∧ True) tv <| .tr <| .ok ((0, 0, true, [], ()))) (ak9 a b)
def au7 : LTab := [(133, 122, 4098, { tag := 0, ι := (Int) × (Int) × Bool × (List Int) × Unit, vs := .dat (.s 7) (Ty.int IntKind.i64) <| .dat (.s 6) (Ty.int IntKind.i64) <| .appN (.s 5) 4 3 (Ty.int IntKind.i64) <| .nil, ks := [4, 0, 1], kh := [], fresh := 1 })]
def abU (a : List Int) (b : List Int) (i : (Int) × (Int) × Bool × (List Int) × Unit) : TT (((Int) × (Int) × Bool × (List Int) × Unit) ⊕ (List Int × Unit)) :=
 .ite (i.2.2.1)
 (.ite (decide (i.1 < len a))
 (.need (inb i.1 (len a)) <| .ite (decide (i.1 < len b))
 (.need (inb i.1 (len b)) <| .ite (decide (w64 (w64 (gi a i.1 0 - i.2.1) - gi b i.1 0) < 0))
 (.need (1 * 8 ≤ 140737488355328) <| .tt <| .lt (w64 (i.1 + 1) : Int) fun z => .lt ([w64 (w64 (w64 (gi a i.1 0 - i.2.1) - gi b i.1 0) + 10000)] : List Int) fun z1 => .triv ((Qq 4 ∧ Qq 0 ∧ Qq 1 ∧ Qq true) ∧ Qq (1 : Int) ∧ Qq z ∧ True ∧ Qq a ∧ Qq b ∧ True) tv <| .triv ((Qq (3 : TypeId) ∧ Qq z1) ∧ Qq true ∧ True) tv <| .ok (.inl ((z, 1, false, z1, ()))))
 (.need (1 * 8 ≤ 140737488355328) <| .tt <| .lt (w64 (i.1 + 1) : Int) fun z2 => .lt ([w64 (w64 (gi a i.1 0 - i.2.1) - gi b i.1 0)] : List Int) fun z3 => .triv ((Qq 4 ∧ Qq 0 ∧ Qq 1 ∧ Qq true) ∧ Qq (0 : Int) ∧ Qq z2 ∧ True ∧ Qq a ∧ Qq b ∧ True) tv <| .triv ((Qq (3 : TypeId) ∧ Qq z3) ∧ Qq true ∧ True) tv <| .ok (.inl ((z2, 0, false, z3, ())))))
 (.ite (decide (w64 (gi a i.1 0 - i.2.1) < 0))
 (.need (1 * 8 ≤ 140737488355328) <| .tt <| .lt (w64 (i.1 + 1) : Int) fun z4 => .lt ([w64 (w64 (gi a i.1 0 - i.2.1) + 10000)] : List Int) fun z5 => .triv ((Qq 4 ∧ Qq 0 ∧ Qq 1 ∧ Qq true) ∧ Qq (1 : Int) ∧ Qq z4 ∧ True ∧ Qq a ∧ Qq b ∧ True) tv <| .triv ((Qq (3 : TypeId) ∧ Qq z5) ∧ Qq true ∧ True) tv <| .ok (.inl ((z4, 1, false, z5, ()))))
 (.need (1 * 8 ≤ 140737488355328) <| .tt <| .lt (w64 (i.1 + 1) : Int) fun z6 => .lt ([w64 (gi a i.1 0 - i.2.1)] : List Int) fun z7 => .triv ((Qq 4 ∧ Qq 0 ∧ Qq 1 ∧ Qq true) ∧ Qq (0 : Int) ∧ Qq z6 ∧ True ∧ Qq a ∧ Qq b ∧ True) tv <| .triv ((Qq (3 : TypeId) ∧ Qq z7) ∧ Qq true ∧ True) tv <| .ok (.inl ((z6, 0, false, z7, ()))))))
 (.call (acM ([], ())) aEw fun y =>
 .ok (.inr ((y.1, ())))))
 (.ite (decide (i.1 < len a))
 (.need (inb i.1 (len a)) <| .ite (decide (i.1 < len b))
 (.need (inb i.1 (len b)) <| .ite (decide (w64 (w64 (gi a i.1 0 - i.2.1) - gi b i.1 0) < 0))
 (.need ((List.length i.2.2.2.1 + 1) * 8 ≤ 140737488355328) <| .tt <| .lt (w64 (i.1 + 1) : Int) fun z8 => .lt (List.take (List.length i.2.2.2.1) i.2.2.2.1 ++ [w64 (w64 (w64 (gi a i.1 0 - i.2.1) - gi b i.1 0) + 10000)] : List Int) fun z9 => .need ((((4) = (4)) ∧ (((0) = (0)) ∧ ((List.length i.2.2.2.1 + 1 = List.length z9) ∧ ((true) = (true))))) ∧ ((1 : Int) = 1) ∧ ((z8 : Int) = z8) ∧ True ∧ ((a) = (a)) ∧ ((b) = (b)) ∧ True) <| .triv ((Qq (3 : TypeId) ∧ Qq z9) ∧ Qq true ∧ True) tv <| .ok (.inl ((z8, 1, false, z9, ()))))
 (.need ((List.length i.2.2.2.1 + 1) * 8 ≤ 140737488355328) <| .tt <| .lt (w64 (i.1 + 1) : Int) fun z10 => .lt (List.take (List.length i.2.2.2.1) i.2.2.2.1 ++ [w64 (w64 (gi a i.1 0 - i.2.1) - gi b i.1 0)] : List Int) fun z11 => .need ((((4) = (4)) ∧ (((0) = (0)) ∧ ((List.length i.2.2.2.1 + 1 = List.length z11) ∧ ((true) = (true))))) ∧ ((0 : Int) = 0) ∧ ((z10 : Int) = z10) ∧ True ∧ ((a) = (a)) ∧ ((b) = (b)) ∧ True) <| .triv ((Qq (3 : TypeId) ∧ Qq z11) ∧ Qq true ∧ True) tv <| .ok (.inl ((z10, 0, false, z11, ())))))
 (.ite (decide (w64 (gi a i.1 0 - i.2.1) < 0))
 (.need ((List.length i.2.2.2.1 + 1) * 8 ≤ 140737488355328) <| .tt <| .lt (w64 (i.1 + 1) : Int) fun z12 => .lt (List.take (List.length i.2.2.2.1) i.2.2.2.1 ++ [w64 (w64 (gi a i.1 0 - i.2.1) + 10000)] : List Int) fun z13 => .need ((((4) = (4)) ∧ (((0) = (0)) ∧ ((List.length i.2.2.2.1 + 1 = List.length z13) ∧ ((true) = (true))))) ∧ ((1 : Int) = 1) ∧ ((z12 : Int) = z12) ∧ True ∧ ((a) = (a)) ∧ ((b) = (b)) ∧ True) <| .triv ((Qq (3 : TypeId) ∧ Qq z13) ∧ Qq true ∧ True) tv <| .ok (.inl ((z12, 1, false, z13, ()))))
 (.need ((List.length i.2.2.2.1 + 1) * 8 ≤ 140737488355328) <| .tt <| .lt (w64 (i.1 + 1) : Int) fun z14 => .lt (List.take (List.length i.2.2.2.1) i.2.2.2.1 ++ [w64 (gi a i.1 0 - i.2.1)] : List Int) fun z15 => .need ((((4) = (4)) ∧ (((0) = (0)) ∧ ((List.length i.2.2.2.1 + 1 = List.length z15) ∧ ((true) = (true))))) ∧ ((0 : Int) = 0) ∧ ((z14 : Int) = z14) ∧ True ∧ ((a) = (a)) ∧ ((b) = (b)) ∧ True) <| .triv ((Qq (3 : TypeId) ∧ Qq z15) ∧ Qq true ∧ True) tv <| .ok (.inl ((z14, 0, false, z15, ()))))))
 (.call (acM (List.take (List.length i.2.2.2.1) i.2.2.2.1, ())) aEw fun y1 =>
 .ok (.inr ((y1.1, ())))))
def alA (a : List Int) (b : List Int) : TT (List Int × Unit) :=
 .loop 0 (.tt <| .triv (True ∧ Qq (0 : Int) ∧ Qq (0 : Int) ∧ True ∧ Qq a ∧ Qq b ∧ True) tv <| .tr <| .ok ((0, 0, true, [], ()))) (abU a b)
def aCI : LTab := [(134, 58, 9217, { tag := 0, ι := (Int) × (List Int) × Unit, vs := .dat (.s 6) (Ty.int IntKind.i64) <| .row 6 (Ty.int IntKind.i64) <| .nil, ks := [5, 4, 0, 1], kh := [6], fresh := 0 }), (134, 14922, 15361, { tag := 1, ι := (Int) × (Int) × (List Int) × Unit, vs := .dat (.s 8) (Ty.int IntKind.i64) <| .dat (.s 7) (Ty.int IntKind.i64) <| .row 6 (Ty.int IntKind.i64) <| .nil, ks := [18, 17, 16, 15, 6, 5, 4, 0, 1], kh := [6], fresh := 0 })]
def adU (a : List Int) (b : List Int) (i : Int × List Int × Unit) (i1 : (Int) × (Int) × (List Int) × Unit) : TT (((Int) × (Int) × (List Int) × Unit) ⊕ (((Int) × (List Int) × Unit) ⊕ (List Int × Unit))) :=
 .ite (decide (i1.1 < len b))
 (.need (inb (w64 (i.1 + i1.1)) (↑(Int.toNat (w64 (len a + len b))) : Int)) <| .need (inb i.1 (len a)) <| .need (inb i1.1 (len b)) <| .triv (asT Int 10000 ≠ 0) (by decide) <| .need (inb (w64 (i.1 + i1.1)) (↑(Int.toNat (w64 (len a + len b))) : Int)) <| .triv (asT Int 10000 ≠ 0) (by decide) <| .tt <| .lt (w64 (i1.1 + 1) : Int) fun z2 => .lt (w64 (Int.tdiv (w64 (w64 (i1.2.1 + List.getD i1.2.2.1 (0 + Int.toNat (w64 (i.1 + i1.1))) 0) + w64 (gi a i.1 0 * gi b i1.1 0))) 10000) : Int) fun z3 => .lt (List.set i1.2.2.1 (0 + Int.toNat (w64 (i.1 + i1.1))) (Int.tmod (w64 (w64 (i1.2.1 + List.getD i1.2.2.1 (0 + Int.toNat (w64 (i.1 + i1.1))) 0) + w64 (gi a i.1 0 * gi b i1.1 0))) 10000) : List Int) fun z4 => .triv (Qq z3 ∧ Qq z2 ∧ Qq (decide (i.1 < len a)) ∧ Qq (len a) ∧ Qq a ∧ Qq i.1 ∧ Qq i.1 ∧ (Qq 6 ∧ Qq 0 ∧ Qq (Int.toNat (w64 (len a + len b))) ∧ Qq true) ∧ True ∧ Qq a ∧ Qq b ∧ True) tv <| .triv ((Qq (3 : TypeId) ∧ Qq z4) ∧ Qq true ∧ True) tv <| .ok (.inl ((z2, z3, z4, ()))))
 (.need (inb (w64 (i.1 + len b)) (↑(Int.toNat (w64 (len a + len b))) : Int)) <| .tt <| .lt (w64 (i.1 + 1) : Int) fun z5 => .lt (List.set i1.2.2.1 (0 + Int.toNat (w64 (i.1 + len b))) i1.2.1 : List Int) fun z6 => .triv (Qq z5 ∧ (Qq 6 ∧ Qq 0 ∧ Qq (Int.toNat (w64 (len a + len b))) ∧ Qq true) ∧ True ∧ Qq a ∧ Qq b ∧ True) tv <| .triv ((Qq (3 : TypeId) ∧ Qq z6) ∧ Qq true ∧ True) tv <| .ok (.inr (.inl ((z5, z6, ())))))
def ajU (a : List Int) (b : List Int) (i : (Int) × (List Int) × Unit) : TT (((Int) × (List Int) × Unit) ⊕ (List Int × Unit)) :=
 .ite (decide (i.1 < len a))
 (.loop 1 (.tt <| .lt (i.2.1 : List Int) fun z1 => .triv (Qq (0 : Int) ∧ Qq (0 : Int) ∧ Qq (decide (i.1 < len a)) ∧ Qq (len a) ∧ Qq a ∧ Qq i.1 ∧ Qq i.1 ∧ (Qq 6 ∧ Qq 0 ∧ Qq (Int.toNat (w64 (len a + len b))) ∧ Qq true) ∧ True ∧ Qq a ∧ Qq b ∧ True) tv <| .triv ((Qq (3 : TypeId) ∧ Qq z1) ∧ Qq true ∧ True) tv <| .ok ((0, 0, z1, ()))) (adU a b i))
 (.call (acM (List.take (Int.toNat (w64 (len a + len b))) i.2.1, ())) aEw fun y =>
 .ok (.inr ((y.1, ()))))
def aeQ (a : List Int) (b : List Int) : TT (List Int × Unit) :=
 .need (0 ≤ w64 (len a + len b) ∧ w64 (len a + len b) ≤ w64 (len a + len b) ∧ w64 (len a + len b) * (↑8 : Int) ≤ 140737488355328) <| .loop 0 (.tt <| .lt (List.replicate (Int.toNat (w64 (len a + len b))) 0 : List Int) fun z => .triv (Qq (0 : Int) ∧ (Qq 6 ∧ Qq 0 ∧ Qq (Int.toNat (w64 (len a + len b))) ∧ Qq true) ∧ True ∧ Qq a ∧ Qq b ∧ True) tv <| .triv ((Qq (3 : TypeId) ∧ Qq z) ∧ Qq true ∧ True) tv <| .ok ((0, z, ()))) (ajU a b)
def aKL : LTab := [(171, 122, 11265, { tag := 0, ι := (Int) × (Int) × (List Int) × Unit, vs := .dat (.s 8) (Ty.int IntKind.i64) <| .dat (.s 7) (Ty.int IntKind.i64) <| .row 4 (Ty.int IntKind.i64) <| .nil, ks := [6, 5, 4, 0, 1], kh := [4], fresh := 0 })]
def aq1 (a : List Int) (d : Int) (i : (Int) × (Int) × (List Int) × Unit) : TT (((Int) × (Int) × (List Int) × Unit) ⊕ (List Int × Int × Unit)) :=
 .ite (decide (i.1 ≥ 0))
 (.need (inb i.1 (len a)) <| .need (d ≠ 0) <| .need (inb i.1 (↑(Int.toNat (len a)) : Int)) <| .need (d ≠ 0) <| .tt <| .lt (w64 (i.1 - 1) : Int) fun z2 => .lt (Int.tmod (w64 (w64 (i.2.1 * 10000) + gi a i.1 0)) d : Int) fun z3 => .lt (List.set i.2.2.1 (0 + Int.toNat i.1) (w64 (Int.tdiv (w64 (w64 (i.2.1 * 10000) + gi a i.1 0)) d)) : List Int) fun z4 => .triv (Qq z3 ∧ Qq z2 ∧ (Qq 4 ∧ Qq 0 ∧ Qq (Int.toNat (len a)) ∧ Qq true) ∧ Qq (0 : Int) ∧ True ∧ Qq a ∧ Qq d ∧ True) tv <| .triv ((Qq (3 : TypeId) ∧ Qq z4) ∧ Qq true ∧ True) tv <| .ok (.inl ((z2, z3, z4, ()))))
 (.call (acM (List.take (Int.toNat (len a)) i.2.2.1, ())) aEw fun y =>
 .ok (.inr ((y.1, i.2.1, ()))))
def au5 (a : List Int) (d : Int) : TT (List Int × Int × Unit) :=
 .need (0 ≤ len a ∧ len a ≤ len a ∧ len a * (↑8 : Int) ≤ 140737488355328) <| .loop 0 (.tt <| .lt (w64 (len a - 1) : Int) fun z => .lt (List.replicate (Int.toNat (len a)) 0 : List Int) fun z1 => .triv (Qq (0 : Int) ∧ Qq z ∧ (Qq 4 ∧ Qq 0 ∧ Qq (Int.toNat (len a)) ∧ Qq true) ∧ Qq (0 : Int) ∧ True ∧ Qq a ∧ Qq d ∧ True) tv <| .triv ((Qq (3 : TypeId) ∧ Qq z1) ∧ Qq true ∧ True) tv <| .ok ((z, 0, z1, ()))) (aq1 a d)
end
open Go Go.Vg
theorem af8 {l : List Int} (h : Dg 10000 l) (hl : l.length ≤ 1000000000000) {n : Nat} (hv : V 10000 l = n) : acM (l, ()) = some (dig n, ()) := by
 unfold acM
 rw [if_pos ⟨h, hl⟩]
 simp only [hv, Int.toNat_natCast]
theorem aId (d : List Int) (y) (h : acM (d, ()) = some y) : (aGR d).toO = some y := by
 unfold acM at h
 split at h
 case isFalse => cases h
 case isTrue hp =>
 obtain ⟨hd, hl⟩ := hp
 dsimp only at hd hl h
 injection h with h
 subst h
 refine uO ((d.length : Int), ()) rfl ?_
 refine aaN (fun i : Int × Unit => ∃ k : Nat, k ≤ d.length ∧ i = ((k : Int), ()) ∧ V 10000 (d.take k) = V 10000 d) (fun i => i.1.toNat) (fun _ => (dig (V 10000 d).toNat, ())) ?_ _ ⟨_, Nat.le_refl _, rfl, by rw [List.take_length]⟩
 rintro i ⟨k, h1, rfl, h2⟩
 have hn := aaT (by omega) hd
 have fin : Cn (d.take k) → d.take k = dig (V 10000 d).toNat := fun hc => aBJ (ab5 hd k) hc (by rw [h2]; omega)
 unfold aCM
 rcases Nat.eq_zero_or_pos k with h0 | h0
 ·right
  subst h0
  refine uF sd (uN sd ?_)
  show some (Sum.inr (d.take (Int.toNat (0 : Nat)), ())) = _
  rw [Int.toNat_natCast, fin (by simp [Cn])]
 ·have hw : w64 ((k : Int) - 1) = ((k - 1 : Nat) : Int) := by rw [aaA (x := (k : Int) - 1) (by omega)]; omega
  have hg : d.getD (k - 1) 0 = d[k - 1] := by simp [show k - 1 < d.length by omega]
  have ht := akG 10000 (l := d) (i := k - 1) (by omega)
  rw [show k - 1 + 1 = k by omega] at ht
  simp only [hw, aaM, hg]
  by_cases c : d[k - 1] = 0
  ·left
   refine ⟨(((k - 1 : Nat) : Int), ()), ?_, ⟨k - 1, by omega, rfl, ?_⟩, by dsimp only; omega, (by first | exact True.intro | rfl)⟩
   ·refine uT sd (uN sd (uT (by rw [c]; rfl) ?_))
    repeat (first | refine uV ?_ | refine uB ?_ | refine uN sd ?_ | refine uT sd ?_ | refine uF sd ?_ | refine uN (by simp) ?_)
    rfl
   ·rw [← h2, ht, c]; simp
  ·right
   refine uT sd (uN sd (uF (by simpa using c) (uN sd ?_)))
   show some (Sum.inr (d.take (Int.toNat (k : Int)), ())) = _
   rw [Int.toNat_natCast, fin ?_]
   unfold Cn
   rw [List.getLast?_eq_getElem?, List.length_take, Nat.min_eq_left h1, List.getElem?_take, if_pos (by omega), List.getElem?_eq_getElem (by omega)]
   simpa using c
theorem aE0 (b : Bool) (d : List Int) (y) (h : abF (b, d, ()) = some y) : (aCL b d).toO = some y := by
 unfold abF at h
 split at h
 case isFalse => cases h
 case isTrue hp =>
 obtain ⟨hd, hl⟩ := hp
 dsimp only at hd hl h
 injection h with h
 subst h
 obtain ⟨n, hn⟩ := Int.eq_ofNat_of_zero_le (aaT (by omega) hd)
 rw [hn, Int.toNat_natCast]
 refine uC _ (af8 hd hl hn) ?_
 have e : decide (len (dig n) > 0) = decide ((n : Int) ≠ 0) := by
  refine decide_eq_decide.2 ?_
  have := dig_nil_iff (n := n)
  rw [aaC]
  constructor
  ·intro h h2
   rw [this.2 (by omega)] at h
   simp at h
  ·intro h
   rcases Nat.eq_zero_or_pos (dig n).length with h3 | h3
   ·have := this.1 (List.length_eq_zero_iff.1 h3); omega
   ·omega
 cases b
 ·exact uF rfl rfl
 ·refine uT rfl ?_
  show some ((decide (len (dig n) > 0), dig n, ()), ()) = _
  rw [e]; rfl
theorem axT {l : List Int} {b : Bool} {z : Int} (h : Dg 10000 l) (hl : l.length ≤ 1000000000000) (hv : V 10000 l = z.natAbs) (hb : z = 0 ∨ b = decide (z < 0)) : abF (b, l, ()) = some (pl z, ()) := by
 unfold abF
 rw [if_pos ⟨h, hl⟩]
 simp only [hv, Int.toNat_natCast]
 congr 2
 unfold pl
 congr 1
 by_cases h0 : z = 0
 ·subst h0; simp
 ·rw [decide_eq_true (show ((z.natAbs : Int) ≠ 0) by omega), Bool.and_true]
  rcases hb with h2 | h2
  ·exact absurd h2 h0
  ·exact h2
theorem af3 {n : Nat} {b : Bool} {z : Int} (hl : (dig n).length ≤ 1000000000000) (hv : n = z.natAbs) (hb : z = 0 ∨ b = decide (z < 0)) : abF (b, dig n, ()) = some (pl z, ()) := axT (adA n) hl (by rw [ahK, hv]) hb
theorem aNi {n : Nat} (h : n < 10000) : ap6 ((n : Int), ()) = some (ayL n, ()) := aaI (enc := fun x : Nat => ((x : Int), ())) n h (fun b hb => Int.ofNat.inj (Prod.mk.inj hb).1)
theorem aE1 (n : Int) (y) (h : ap6 (n, ()) = some y) : (au6 n).toO = some y := by
 obtain ⟨k, hk, hx, rfl⟩ := aaD h
 obtain ⟨rfl, -⟩ := Prod.mk.inj hx
 have d1 : ∀ m : Nat, 0 < m → Int.tdiv (k : Int) m = ((k / m : Nat) : Int) := fun m hm => by rw [Int.tdiv_eq_ediv_of_nonneg (by omega)]; simp
 have e1 := d1 1000 (by omega)
 have e2 := d1 100 (by omega)
 have e3 := d1 10 (by omega)
 have m1 : ∀ j : Nat, Int.tmod (j : Int) 10 = ((j % 10 : Nat) : Int) := fun j => by rw [Int.tmod_eq_emod_of_nonneg (by omega)]; omega
 have w1 : ∀ j : Nat, j < 10000 → w64 (j : Int) = j := fun j hj => aaA (by omega)
 have w2 : ∀ j : Nat, j < 10 → wu8 (w64 (48 + (j : Int))) = ((48 + j : Nat) : Int) := fun j hj => by rw [aaA (x := 48 + (j : Int)) (by omega), abN (by omega)]; omega
 unfold au6
 have f1 : Int.tdiv (k : Int) 1000 = ((k / 1000 : Nat) : Int) := e1
 have f2 : Int.tdiv (k : Int) 100 = ((k / 100 : Nat) : Int) := e2
 have f3 : Int.tdiv (k : Int) 10 = ((k / 10 : Nat) : Int) := e3
 refine uV (uV (uV (uV (uV (uV ?_)))))
 rw [aaK, f1, f2, f3, w1 (k / 1000) (by omega), w1 (k / 100) (by omega), w1 (k / 10) (by omega), m1, m1, m1, w2 _ (by omega), w2 _ (by omega), w2 _ (by omega), w2 _ (by omega)]
 rfl
theorem asF (a b : List Int) (h1 : Dg 10000 a) (h2 : Dg 10000 b) (h3 : a.length ≤ 1000000000000) (h4 : b.length ≤ 1000000000000) : afS (a, b, ()) = some (aPm a b, ()) := by unfold afS; rw [if_pos ⟨h1, h2, h3, h4⟩]
theorem aCK (a b : List Int) (y) (h : afS (a, b, ()) = some y) : (aq0 a b).toO = some y := by
 unfold afS at h
 split at h
 case isFalse => cases h
 case isTrue hp =>
 obtain ⟨ha, hb, hl, hl2⟩ := hp
 dsimp only at ha hb hl hl2 h
 injection h with h
 subst h
 unfold aq0 aPm
 by_cases c : a.length = b.length
 case neg =>
  rw [if_pos c]
  refine uT sd ?_
  rw [aaK, aaC, aaC, aaA (by omega)]
 rw [if_neg (fun h => h c)]
 refine uF sd ?_
 refine uO ((a.length : Int) - 1, ()) ?_ ?_
 ·repeat (first | refine uV ?_ | refine uB ?_ | refine uN sd ?_ | refine uT sd ?_ | refine uF sd ?_ | refine uN (by simp) ?_)
  rw [aaK, aaC, aaA (by omega)]
 refine aaN (fun i : Int × Unit => ∃ k : Nat, k ≤ a.length ∧ i = ((k : Int) - 1, ()) ∧ aNB a b a.length = aNB a b k) (fun i => (i.1 + 1).toNat) (fun _ => (aNB a b a.length, ())) ?_ _ ⟨_, Nat.le_refl _, rfl, rfl⟩
 rintro i ⟨k, h1, rfl, h2⟩
 unfold au4
 dsimp only
 cases k with
 | zero =>
  right
  refine uF sd ?_
  rw [h2]; rfl
 | succ j =>
  have e6 : ((j + 1 : Nat) : Int) - 1 = (j : Int) := by omega
  simp only [e6, aaM]
  have da := aa3 (by omega) ha j
  have db := aa3 (by omega) hb j
  by_cases c2 : a.getD j 0 = b.getD j 0
  ·left
   refine ⟨((j : Int) - 1, ()), ?_, ⟨j, by omega, rfl, ?_⟩, by dsimp only; omega, (by first | exact True.intro | rfl)⟩
   ·refine uT sd (uN sd (uN sd (uF (by rw [c2]; simp) ?_)))
    repeat (first | refine uV ?_ | refine uB ?_ | refine uN sd ?_ | refine uT sd ?_ | refine uF sd ?_ | refine uN (by simp) ?_)
    rw [aaK, aaA (by omega)]
   ·rw [h2]; show (if _ then _ else _) = _; rw [if_neg (fun h => h c2)]
  ·right
   refine uT sd (uN sd (uN sd (uT (by simpa using c2) (uN sd (uN sd ?_)))))
   rw [aaK, aaA (by omega), h2]
   show _ = some (Sum.inr (if _ then _ else _, ()))
   rw [if_pos c2]
theorem aCq {a b : List Int} (ha : Dg 10000 a) (hb : Dg 10000 b) : ∀ k, (aNB a b k < 0 ↔ V 10000 (a.take k) < V 10000 (b.take k)) ∧ (aNB a b k = 0 ↔ V 10000 (a.take k) = V 10000 (b.take k))
 | 0 => by simp [aNB]
 | k + 1 => by
  obtain ⟨i1, i2⟩ := aCq ha hb k
  have ea := aa5 10000 a k
  have eb := aa5 10000 b k
  have la := ac3 (by omega) ha k
  have lb := ac3 (by omega) hb k
  have na := aaT (by omega) (ab5 ha k)
  have nb := aaT (by omega) (ab5 hb k)
  unfold aNB
  rw [ea, eb]
  by_cases c : a.getD k 0 = b.getD k 0
  ·rw [if_neg (fun h => h c), c]
   omega
  ·rw [if_pos c]
   rcases Int.lt_or_le (a.getD k 0) (b.getD k 0) with h | h
   ·have h5 : (10000 : Int) ^ k * (a.getD k 0 + 1) ≤ 10000 ^ k * b.getD k 0 := Int.mul_le_mul_of_nonneg_left (by omega) (by omega)
    rw [Int.mul_add] at h5
    omega
   ·have h5 : (10000 : Int) ^ k * (b.getD k 0 + 1) ≤ 10000 ^ k * a.getD k 0 := Int.mul_le_mul_of_nonneg_left (by omega) (by omega)
    rw [Int.mul_add] at h5
    omega
theorem aGX (m n : Nat) : (aPm (dig m) (dig n) < 0 ↔ m < n) ∧ (aPm (dig m) (dig n) = 0 ↔ m = n) := by
 unfold aPm
 by_cases c : (dig m).length = (dig n).length
 ·rw [if_neg (fun h => h c)]
  obtain ⟨h1, h2⟩ := aCq (adA m) (adA n) (dig m).length
  rw [abE _ (Nat.le_refl _), abE _ (by omega), ahK, ahK] at h1 h2
  omega
 ·rw [if_pos c]
  rcases Nat.lt_or_ge (dig m).length (dig n).length with h | h
  ·have := anC h; omega
  ·have := anC (m := n) (n := m) (by omega); omega
theorem aNL {a b s : List Int} {k : Nat} {c x c' : Int} (h5 : s.length = k) (h7 : V 10000 s + 10000 ^ k * c = V 10000 (a.take k) + V 10000 (b.take k)) (hx : x + 10000 * c' = a.getD k 0 + b.getD k 0 + c) : V 10000 (s ++ [x]) + 10000 ^ (k + 1) * c' = V 10000 (a.take (k + 1)) + V 10000 (b.take (k + 1)) := by
 rw [adX, ayU, h5, aa5, aa5, Int.pow_succ]
 have : (10000 : Int) ^ k * (x + 10000 * c') = 10000 ^ k * (a.getD k 0 + b.getD k 0 + c) := by rw [hx]
 grind
theorem aNK {x : Int} (h : 0 ≤ x) : Int.tdiv x 10000 = x / 10000 := Int.tdiv_eq_ediv_of_nonneg h
theorem aNH {x : Int} (h : 0 ≤ x) : Int.tmod x 10000 = x % 10000 := Int.tmod_eq_emod_of_nonneg h
theorem aIa (m o : List Int) (y) (h : auG (m, o, ()) = some y) : (aGQ m o).toO = some y := by
 obtain ⟨⟨a, b⟩, hn, hx, rfl⟩ := aaD h
 obtain ⟨rfl, hx2⟩ := Prod.mk.inj hx; obtain ⟨rfl, -⟩ := Prod.mk.inj hx2; dsimp only
 obtain ⟨la, lb⟩ := hn
 simp only at la lb
 have hda := adA a
 have hdb := adA b
 have hVa := ahK a
 have hVb := ahK b
 clear hx hx2 h
 have hca := aHm a
 have hcb := aHm b
 generalize dig a = A at *
 generalize dig b = B at *
 refine uO (0, 0, true, [], ()) rfl ?_
 refine aaN (fun i : Int × Int × Bool × List Int × Unit => ∃ k : Nat, k ≤ A.length + B.length + 1 ∧ i.1 = (k : Int) ∧ 0 ≤ i.2.1 ∧ i.2.1 ≤ 1 ∧ i.2.2.2.1.length = k ∧ Dg 10000 i.2.2.2.1 ∧ V 10000 i.2.2.2.1 + 10000 ^ k * i.2.1 = V 10000 (A.take k) + V 10000 (B.take k) ∧ (i.2.2.1 = true → i.2.2.2.1 = []) ∧ (A.length ≤ k → B.length ≤ k → i.2.1 = 0 → Cn i.2.2.2.1) ∧ (i.2.1 = 0 ∨ k ≤ A.length ∨ k ≤ B.length)) (fun i => (((A.length + B.length + 2 : Nat) : Int) - i.1).toNat) (fun _ => (dig (a + b), ())) ?_ _ ⟨0, by omega, rfl, by simp, by simp, rfl, atM _, by simp [V], fun _ => rfl, fun _ _ _ => atN, Or.inl rfl⟩
 rintro ⟨i, c, f, s, u⟩ ⟨k, h1, h2, h3, h4, h5, h6, h7, h8, h9, h10⟩
 dsimp only at h2 h3 h4 h5 h6 h7 h8 h9 h10
 subst h2
 have da := aa3 (by omega) hda k
 have db := aa3 (by omega) hdb k
 have hS : 0 ≤ A.getD k 0 + B.getD k 0 + c := by omega
 by_cases hgo : k < A.length ∨ k < B.length ∨ 0 < c
 ·left
  have e1 := Int.emod_add_mul_ediv (A.getD k 0 + B.getD k 0 + c) 10000
  refine ⟨(((k + 1 : Nat) : Int), (A.getD k 0 + B.getD k 0 + c) / 10000, false, s ++ [(A.getD k 0 + B.getD k 0 + c) % 10000], ()), ?_, ⟨k + 1, by omega, rfl, by dsimp only; omega, by dsimp only; omega, by simp; omega, aeG h6 (al5 (by omega) (by omega)), aNL h5 h7 e1, by simp, ?_, ?_⟩, by dsimp only; omega, (by first | exact True.intro | rfl)⟩
  ·have zA : ¬ k < A.length → A.getD k 0 = 0 := fun h => ahD (by omega) 0
   have zB : ¬ k < B.length → B.getD k 0 = 0 := fun h => ahD (by omega) 0
   have eD : ∀ x : Int, x = A.getD k 0 + B.getD k 0 + c → Int.tdiv x 10000 = (A.getD k 0 + B.getD k 0 + c) / 10000 ∧ Int.tmod x 10000 = (A.getD k 0 + B.getD k 0 + c) % 10000 := fun x hx => by rw [hx]; exact ⟨aNK hS, aNH hS⟩
   have w1 : w64 (c + A.getD k 0) = c + A.getD k 0 := aaA (by omega)
   have w2 : w64 (c + A.getD k 0 + B.getD k 0) = c + A.getD k 0 + B.getD k 0 := aaA (by omega)
   have w3 : w64 (c + B.getD k 0) = c + B.getD k 0 := aaA (by omega)
   have w4 : w64 ((A.getD k 0 + B.getD k 0 + c) / 10000) = (A.getD k 0 + B.getD k 0 + c) / 10000 := aaA (by omega)
   have w5 : w64 ((k : Int) + 1) = ((k + 1 : Nat) : Int) := by rw [aaA (x := (k : Int) + 1) (by omega)]; omega
   cases f with
   | true =>
    obtain rfl := h8 rfl
    simp only [ak9, adG, adH, aaM, w1, w2, w3, w5]
    by_cases cA : k < A.length <;> by_cases cB : k < B.length
    ·obtain ⟨q1, q2⟩ := eD (c + A.getD k 0 + B.getD k 0) (by omega)
     simp only [q1, q2, w4]
     repeat (first | refine uV ?_ | refine uB ?_ | refine uN sd ?_ | refine uT sd ?_ | refine uF sd ?_ | refine uN (by simp) ?_)
     rfl
    ·obtain ⟨q1, q2⟩ := eD (c + A.getD k 0) (by have := zB cB; omega)
     simp only [q1, q2, w4]
     repeat (first | refine uV ?_ | refine uB ?_ | refine uN sd ?_ | refine uT sd ?_ | refine uF sd ?_ | refine uN (by simp) ?_)
     rfl
    ·obtain ⟨q1, q2⟩ := eD (c + B.getD k 0) (by have := zA cA; omega)
     simp only [q1, q2, w4]
     repeat (first | refine uV ?_ | refine uB ?_ | refine uN sd ?_ | refine uT sd ?_ | refine uF sd ?_ | refine uN (by simp) ?_)
     rfl
    ·obtain ⟨q1, q2⟩ := eD c (by have := zA cA; have := zB cB; omega)
     have hc0 : 0 < c := by omega
     simp only [q1, q2, w4]
     repeat (first | refine uV ?_ | refine uB ?_ | refine uN sd ?_ | refine uT sd ?_ | refine uF sd ?_ | refine uN (by simp) ?_)
     rfl
   | false =>
    simp only [ak9, adG, adH, aaM, w1, w2, w3, w5, List.take_length]
    by_cases cA : k < A.length <;> by_cases cB : k < B.length
    ·obtain ⟨q1, q2⟩ := eD (c + A.getD k 0 + B.getD k 0) (by omega)
     simp only [q1, q2, w4]
     repeat (first | refine uV ?_ | refine uB ?_ | refine uN sd ?_ | refine uT sd ?_ | refine uF sd ?_ | refine uN (by simp) ?_)
     rfl
    ·obtain ⟨q1, q2⟩ := eD (c + A.getD k 0) (by have := zB cB; omega)
     simp only [q1, q2, w4]
     repeat (first | refine uV ?_ | refine uB ?_ | refine uN sd ?_ | refine uT sd ?_ | refine uF sd ?_ | refine uN (by simp) ?_)
     rfl
    ·obtain ⟨q1, q2⟩ := eD (c + B.getD k 0) (by have := zA cA; omega)
     simp only [q1, q2, w4]
     repeat (first | refine uV ?_ | refine uB ?_ | refine uN sd ?_ | refine uT sd ?_ | refine uF sd ?_ | refine uN (by simp) ?_)
     rfl
    ·obtain ⟨q1, q2⟩ := eD c (by have := zA cA; have := zB cB; omega)
     have hc0 : 0 < c := by omega
     simp only [q1, q2, w4]
     repeat (first | refine uV ?_ | refine uB ?_ | refine uN sd ?_ | refine uT sd ?_ | refine uF sd ?_ | refine uN (by simp) ?_)
     rfl
  ·intro g1 g2 g3
   dsimp only at g3 ⊢
   unfold Cn
   simp only [List.getLast?_concat, ne_eq, Option.some.injEq]
   intro g4
   have hz : A.getD k 0 + B.getD k 0 + c = 0 := by omega
   have ca : ¬ k < A.length := by
    intro hk
    have : k = A.length - 1 := by omega
    unfold Cn at hca
    rw [List.getLast?_eq_getElem?, ← this, List.getElem?_eq_getElem hk] at hca
    rw [aiK hk] at *
    exact hca (by congr 1; omega)
   have cb : ¬ k < B.length := by
    intro hk
    have : k = B.length - 1 := by omega
    unfold Cn at hcb
    rw [List.getLast?_eq_getElem?, ← this, List.getElem?_eq_getElem hk] at hcb
    rw [aiK hk] at *
    exact hcb (by congr 1; omega)
   omega
  ·dsimp only
   by_cases cA : k < A.length
   ·right; left; omega
   ·by_cases cB : k < B.length
    ·right; right; omega
    ·left
     have := ahD (l := A) (k := k) (by omega) 0
     have := ahD (l := B) (k := k) (by omega) 0
     omega
 ·right
  have hc : c = 0 := by omega
  subst hc
  rw [abE _ (by omega), abE _ (by omega), hVa, hVb] at h7
  have hs : s = dig (a + b) := aBJ h6 (h9 (by omega) (by omega) rfl) (by omega)
  cases f with
  | true =>
   obtain rfl := h8 rfl
   unfold ak9 adG adH
   repeat (first | refine uV ?_ | refine uB ?_ | refine uN sd ?_ | refine uT sd ?_ | refine uF sd ?_ | refine uN (by simp) ?_)
   rw [← hs]; rfl
  | false =>
   unfold ak9 adG adH
   repeat (first | refine uV ?_ | refine uB ?_ | refine uN sd ?_ | refine uT sd ?_ | refine uF sd ?_ | refine uN (by simp) ?_)
   rw [← hs, aaK, List.take_length]
theorem al2 {a b : List Int} (h1 : Dg 10000 a) (h2 : Dg 10000 b) (h3 : a.length ≤ 1000000000000) (h4 : b.length ≤ a.length) (h5 : V 10000 b ≤ V 10000 a) {n : Nat} (hn : V 10000 a - V 10000 b = n) : abA (a, b, ()) = some (dig n, ()) := by
 unfold abA
 rw [if_pos ⟨h1, h2, h3, h4, h5⟩]
 simp only [hn, Int.toNat_natCast]
theorem aMt {a b s : List Int} {k : Nat} {c x c' : Int} (h5 : s.length = k) (h7 : V 10000 s = V 10000 (a.take k) - V 10000 (b.take k) + 10000 ^ k * c) (hx : x = a.getD k 0 - b.getD k 0 - c + 10000 * c') : V 10000 (s ++ [x]) = V 10000 (a.take (k + 1)) - V 10000 (b.take (k + 1)) + 10000 ^ (k + 1) * c' := by
 rw [adX, ayU, h5, aa5, aa5, Int.pow_succ, h7, hx]
 grind
theorem aq2 (A B : List Int) (y) (h : abA (A, B, ()) = some y) : (alA A B).toO = some y := by
 unfold abA at h
 split at h
 case isFalse => cases h
 case isTrue hp =>
 obtain ⟨hda, hdb, la, lb, hle⟩ := hp
 dsimp only at hda hdb la lb hle h
 injection h with h
 subst h
 refine uO (0, 0, true, [], ()) rfl ?_
 refine aaN (fun i : Int × Int × Bool × List Int × Unit => ∃ k : Nat, k ≤ A.length ∧ i.1 = (k : Int) ∧ 0 ≤ i.2.1 ∧ i.2.1 ≤ 1 ∧ i.2.2.2.1.length = k ∧ Dg 10000 i.2.2.2.1 ∧ V 10000 i.2.2.2.1 = V 10000 (A.take k) - V 10000 (B.take k) + 10000 ^ k * i.2.1 ∧ (i.2.2.1 = true → i.2.2.2.1 = [])) (fun i => ((A.length : Int) - i.1).toNat) (fun _ => (dig (V 10000 A - V 10000 B).toNat, ())) ?_ _ ⟨0, by omega, rfl, by simp, by simp, rfl, atM _, by simp [V], fun _ => rfl⟩
 rintro ⟨i, c, f, s, u⟩ ⟨k, h1, h2, h3, h4, h5, h6, h7, h8⟩
 dsimp only at h2 h3 h4 h5 h6 h7 h8
 subst h2
 have da := aa3 (by omega) hda k
 have db := aa3 (by omega) hdb k
 have w5 : w64 ((k : Int) + 1) = ((k + 1 : Nat) : Int) := by rw [aaA (x := (k : Int) + 1) (by omega)]; omega
 have w1 : w64 (A.getD k 0 - c) = A.getD k 0 - c := aaA (by omega)
 have w2 : w64 (A.getD k 0 - c - B.getD k 0) = A.getD k 0 - c - B.getD k 0 := aaA (by omega)
 have w3 : w64 (A.getD k 0 - c + 10000) = A.getD k 0 - c + 10000 := aaA (by omega)
 have w4 : w64 (A.getD k 0 - c - B.getD k 0 + 10000) = A.getD k 0 - c - B.getD k 0 + 10000 := aaA (by omega)
 rcases Nat.lt_or_ge k A.length with hk | hk
 ·left
  have fin : ∀ x c' : Int, 0 ≤ x ∧ x < 10000 → 0 ≤ c' ∧ c' ≤ 1 → x = A.getD k 0 - B.getD k 0 - c + 10000 * c' → (∃ k_1 : Nat, k_1 ≤ A.length ∧ ((k + 1 : Nat) : Int) = (k_1 : Int) ∧ 0 ≤ c' ∧ c' ≤ 1 ∧ (s ++ [x]).length = k_1 ∧ Dg 10000 (s ++ [x]) ∧ V 10000 (s ++ [x]) = V 10000 (A.take k_1) - V 10000 (B.take k_1) + 10000 ^ k_1 * c' ∧ (false = true → (s ++ [x]) = [])) ∧ ((A.length : Int) - ((k + 1 : Nat) : Int)).toNat < ((A.length : Int) - (k : Int)).toNat :=
   fun x c' hx hc he => ⟨⟨k + 1, by omega, rfl, hc.1, hc.2, by simp; omega, aeG h6 (al5 hx.1 hx.2), aMt h5 h7 he, by simp⟩, by omega⟩
  have zB : ¬ k < B.length → B.getD k 0 = 0 := fun h => ahD (by omega) 0
  by_cases cn : A.getD k 0 - c - B.getD k 0 < 0
  ·obtain ⟨g1, g2⟩ := fin (A.getD k 0 - c - B.getD k 0 + 10000) 1 (by omega) (by omega) (by omega)
   refine ⟨(((k + 1 : Nat) : Int), 1, false, s ++ [A.getD k 0 - c - B.getD k 0 + 10000], ()), ?_, g1, g2, (by first | exact True.intro | rfl)⟩
   cases f with
   | true =>
    obtain rfl := h8 rfl
    simp only [abU, aaM, w1, w2, w3, w4, w5]
    by_cases cB : k < B.length
    ·repeat (first | refine uV ?_ | refine uB ?_ | refine uN sd ?_ | refine uT sd ?_ | refine uF sd ?_ | refine uN (by simp) ?_)
     rfl
    ·have := zB cB
     rw [this, Int.sub_zero] at *
     repeat (first | refine uV ?_ | refine uB ?_ | refine uN sd ?_ | refine uT sd ?_ | refine uF sd ?_ | refine uN (by simp) ?_)
     rfl
   | false =>
    simp only [abU, aaM, w1, w2, w3, w4, w5, List.take_length]
    by_cases cB : k < B.length
    ·repeat (first | refine uV ?_ | refine uB ?_ | refine uN sd ?_ | refine uT sd ?_ | refine uF sd ?_ | refine uN (by simp) ?_)
     rfl
    ·have := zB cB
     rw [this, Int.sub_zero] at *
     repeat (first | refine uV ?_ | refine uB ?_ | refine uN sd ?_ | refine uT sd ?_ | refine uF sd ?_ | refine uN (by simp) ?_)
     rfl
  ·obtain ⟨g1, g2⟩ := fin (A.getD k 0 - c - B.getD k 0) 0 (by omega) (by omega) (by omega)
   refine ⟨(((k + 1 : Nat) : Int), 0, false, s ++ [A.getD k 0 - c - B.getD k 0], ()), ?_, g1, g2, (by first | exact True.intro | rfl)⟩
   cases f with
   | true =>
    obtain rfl := h8 rfl
    simp only [abU, aaM, w1, w2, w3, w4, w5]
    by_cases cB : k < B.length
    ·repeat (first | refine uV ?_ | refine uB ?_ | refine uN sd ?_ | refine uT sd ?_ | refine uF sd ?_ | refine uN (by simp) ?_)
     rfl
    ·have := zB cB
     rw [this, Int.sub_zero] at *
     repeat (first | refine uV ?_ | refine uB ?_ | refine uN sd ?_ | refine uT sd ?_ | refine uF sd ?_ | refine uN (by simp) ?_)
     rfl
   | false =>
    simp only [abU, aaM, w1, w2, w3, w4, w5, List.take_length]
    by_cases cB : k < B.length
    ·repeat (first | refine uV ?_ | refine uB ?_ | refine uN sd ?_ | refine uT sd ?_ | refine uF sd ?_ | refine uN (by simp) ?_)
     rfl
    ·have := zB cB
     rw [this, Int.sub_zero] at *
     repeat (first | refine uV ?_ | refine uB ?_ | refine uN sd ?_ | refine uT sd ?_ | refine uF sd ?_ | refine uN (by simp) ?_)
     rfl
 ·right
  have hkk : k = A.length := by omega
  subst hkk
  rw [abE _ (Nat.le_refl _), abE _ lb] at h7
  have hlt := aJK (by omega) h6
  rw [h5] at hlt
  have hc : c = 0 := by
   rcases Int.lt_or_le 0 c with hc | hc
   ·have hc1 : c = 1 := by omega
    subst hc1
    omega
   ·omega
  subst hc
  cases f with
  | true =>
   obtain rfl := h8 rfl
   unfold abU
   refine uT rfl (uF sd (uC (dig (V 10000 A - V 10000 B).toNat, ()) (af8 h6 (by simp) (by omega)) rfl))
  | false =>
   unfold abU
   dsimp only
   rw [List.take_length]
   refine uF rfl (uF sd (uC (dig (V 10000 A - V 10000 B).toNat, ()) (af8 h6 (by omega) (by omega)) rfl))
theorem aJG (Vs P c A K x T X Y d e Q B : Int) (h : Vs + P * c = A + K * (x * T)) (h2 : X + B * Y = c + d + x * e) (hP : P = K * Q) : Vs + P * (X - d) + P * B * Y = A + K * (x * (T + Q * e)) := by
 subst hP
 have h3 : K * Q * (X + B * Y) = K * Q * (c + d + x * e) := by rw [h2]
 grind
theorem aIL {a b B : Int} (ha : 0 ≤ a ∧ a < B) (hb : 0 ≤ b ∧ b < B) : 0 ≤ a * b ∧ a * b ≤ (B - 1) * (B - 1) := by
 refine ⟨Int.mul_nonneg ha.1 hb.1, ?_⟩
 have h1 : a * b ≤ a * (B - 1) := Int.mul_le_mul_of_nonneg_left (by omega) ha.1
 have h2 : a * (B - 1) ≤ (B - 1) * (B - 1) := Int.mul_le_mul_of_nonneg_right (by omega) (by omega)
 omega
theorem al1 {a b : List Int} (h1 : Dg 10000 a) (h2 : Dg 10000 b ∨ b = [10000]) (h3 : a.length ≤ 400000000000) (h4 : b.length ≤ 400000000000) {n : Nat} (hn : V 10000 a * V 10000 b = n) : abR (a, b, ()) = some (dig n, ()) := by
 unfold abR
 rw [if_pos ⟨h1, h2, h3, h4⟩]
 simp only [hn, Int.toNat_natCast]
theorem aA0 (A D : List Int) (hda : Dg 10000 A) (hdb : Dg 10000 D) (la : A.length ≤ 400000000000) (lb : D.length ≤ 400000000000) : (aeQ A D).toO = some (dig (V 10000 A * V 10000 D).toNat, ()) := by
 have nb := aaT (by omega) hdb
 have hw : w64 (len A + len D) = ((A.length + D.length : Nat) : Int) := by
  simp only [aaC]; rw [aaA (x := (A.length : Int) + D.length) (by omega)]; omega
 unfold aeQ
 simp only [hw]
 refine uN (by omega) ?_
 refine uO (0, List.replicate (A.length + D.length) 0, ()) ?_ ?_
 ·repeat (first | refine uV ?_ | refine uB ?_ | refine uN sd ?_ | refine uT sd ?_ | refine uF sd ?_ | refine uN (by simp) ?_)
  simp (disch := omega) only [aaK, aaA, aaO, aa0, abN, aaM, Nat.zero_add, Int.toNat_natCast, aaC, List.take_length]
 have hBb : V 10000 D < 10000 ^ D.length := aJK (by omega) hdb
 refine aaN (fun i => ∃ k : Nat, k ≤ A.length ∧ i.1 = (k : Int) ∧ i.2.1.length = A.length + D.length ∧ Dg 10000 i.2.1 ∧ V 10000 i.2.1 = V 10000 (A.take k) * V 10000 D) (fun i => ((A.length : Int) - i.1).toNat) (fun _ => (dig (V 10000 A * V 10000 D).toNat, ())) ?_ _ ⟨0, Nat.zero_le _, rfl, by simp, af9 (by omega) _, by simp [V, ar7]⟩
 rintro ⟨i, s, u⟩ ⟨k, h1, h2, h3, h4, h5⟩
 simp only at h2 h3 h4 h5
 subst h2
 simp only [ajU, aaM, hw]
 have ea := aa5 10000 A k
 have da := aa3 (by omega) hda k
 rcases Nat.lt_or_ge k A.length with hk | hk
 ·left
  have hs : V 10000 s < 10000 ^ (k + D.length) := by
   rw [h5, Int.pow_add]
   have e1 := ac3 (by omega) hda k
   have e2 := aaT (by omega) (ab5 hda k)
   have e3 : V 10000 (A.take k) * V 10000 D ≤ V 10000 (A.take k) * 10000 ^ D.length := Int.mul_le_mul_of_nonneg_left (by omega) e2
   have e4 : V 10000 (A.take k) * 10000 ^ D.length < 10000 ^ k * 10000 ^ D.length := Int.mul_lt_mul_of_pos_right e1 (Int.pow_pos (by omega))
   omega
  have hz := alH (by omega) h4 hs
  obtain ⟨r, hin, s', rfl, q1, q2, q3⟩ : ∃ r : ((Int × List Int × Unit) ⊕ (List Int × Unit)), ac1 (fun i1 => (adU A D ((k : Int), s, ()) i1).toO) (0, 0, s, ()) = some r ∧ ∃ s', r = Sum.inl (((k + 1 : Nat) : Int), s', ()) ∧ s'.length = A.length + D.length ∧ Dg 10000 s' ∧ V 10000 s' = V 10000 (A.take (k + 1)) * V 10000 D := by
   refine adJ (fun j => ∃ q : Nat, q ≤ D.length ∧ j.1 = (q : Int) ∧ 0 ≤ j.2.1 ∧ j.2.1 < 10000 ∧ j.2.2.1.length = A.length + D.length ∧ Dg 10000 j.2.2.1 ∧ (∀ t, k + D.length ≤ t → j.2.2.1.getD t 0 = 0) ∧ V 10000 j.2.2.1 + 10000 ^ (k + q) * j.2.1 = V 10000 (A.take k) * V 10000 D + 10000 ^ k * (A.getD k 0 * V 10000 (D.take q))) (fun j => ((D.length : Int) - j.1).toNat) _ ?_ _ ⟨0, Nat.zero_le _, rfl, by simp, by simp, h3, h4, hz, by simp [V, h5]⟩
   rintro ⟨j, c, s1, u1⟩ ⟨q, g1, g2, g3, g4, g5, g6, g7, g8⟩
   simp only at g2 g3 g4 g5 g6 g7 g8
   subst g2
   have hkq : w64 ((k : Int) + q) = ((k + q : Nat) : Int) := by rw [aaA (x := (k : Int) + q) (by omega)]; omega
   have hkl : w64 ((k : Int) + len D) = ((k + D.length : Nat) : Int) := by rw [aaC, aaA (x := (k : Int) + (D.length : Int)) (by omega)]; omega
   simp only [adU, aaM, hw, hkq, hkl, Int.toNat_natCast, Nat.zero_add]
   have eb := aa5 10000 D q
   have db := aa3 (by omega) hdb q
   have ds := aa3 (by omega) g6 (k + q)
   have hm := aIL da db
   rcases Nat.lt_or_ge q D.length with hq | hq
   ·left
    have hsum : 0 ≤ c + s1.getD (k + q) 0 + A.getD k 0 * D.getD q 0 := by omega
    have e1 := Int.emod_add_mul_ediv (c + s1.getD (k + q) 0 + A.getD k 0 * D.getD q 0) 10000
    have ww : w64 (w64 (c + s1.getD (k + q) 0) + w64 (A.getD k 0 * D.getD q 0)) = c + s1.getD (k + q) 0 + A.getD k 0 * D.getD q 0 := by
     rw [aaA (x := c + s1.getD (k + q) 0) (by omega), aaA (x := A.getD k 0 * D.getD q 0) (by omega), aaA (by omega)]
    simp only [ww]
    have e2 : 0 ≤ (c + s1.getD (k + q) 0 + A.getD k 0 * D.getD q 0) % 10000 ∧ (c + s1.getD (k + q) 0 + A.getD k 0 * D.getD q 0) % 10000 < 10000 := by omega
    have e3 : 0 ≤ (c + s1.getD (k + q) 0 + A.getD k 0 * D.getD q 0) / 10000 ∧ (c + s1.getD (k + q) 0 + A.getD k 0 * D.getD q 0) / 10000 < 10000 := by omega
    refine ⟨(((q + 1 : Nat) : Int), (c + s1.getD (k + q) 0 + A.getD k 0 * D.getD q 0) / 10000, s1.set (k + q) ((c + s1.getD (k + q) 0 + A.getD k 0 * D.getD q 0) % 10000), ()), ?_, ⟨q + 1, by omega, rfl, e3.1, e3.2, by simp; omega, aiE g6 e2 _, ?_, ?_⟩, by simp only; omega⟩
    ·repeat (first | refine uV ?_ | refine uB ?_ | refine uN sd ?_ | refine uT sd ?_ | refine uF sd ?_ | refine uN (by simp) ?_)
     rw [Int.tmod_eq_emod_of_nonneg hsum, Int.tdiv_eq_ediv_of_nonneg hsum, aaA (x := (q : Int) + 1) (by omega), aaA (x := (c + s1.getD (k + q) 0 + A.getD k 0 * D.getD q 0) / 10000) (by omega)]
     rfl
    ·intro t ht
     rw [anW _ (by omega)]; exact g7 t ht
    ·simp only
     rw [axF _ (by omega), eb, show k + (q + 1) = k + q + 1 by omega, Int.pow_succ]
     exact aJG _ _ _ _ _ _ _ _ _ _ _ _ _ g8 e1 (Int.pow_add _ _ _)
   ·right
    have hqq : q = D.length := by omega
    subst hqq
    rw [abE _ (Nat.le_refl _)] at g8
    refine ⟨.inl (((k + 1 : Nat) : Int), s1.set (k + D.length) c, ()), ?_, _, rfl, by simp; omega, aiE g6 ⟨g3, g4⟩ _, ?_⟩
    ·repeat (first | refine uV ?_ | refine uB ?_ | refine uN sd ?_ | refine uT sd ?_ | refine uF sd ?_ | refine uN (by simp) ?_)
     rw [aaA (x := (k : Int) + 1) (by omega)]
     rfl
    ·rw [axF _ (by omega), g7 _ (by omega), ea, Int.add_mul]
     simp only [Int.sub_zero]
     rw [g8]
     grind
  refine ⟨(((k + 1 : Nat) : Int), s', ()), ?_, ⟨k + 1, by omega, rfl, q1, q2, q3⟩, by simp only; omega, (by first | exact True.intro | rfl)⟩
  refine uT sd ?_
  refine uO (0, 0, s, ()) ?_ ?_
  ·repeat (first | refine uV ?_ | refine uB ?_ | refine uN sd ?_ | refine uT sd ?_ | refine uF sd ?_ | refine uN (by simp) ?_)
   rfl
  ·exact hin
 ·right
  have hkk : k = A.length := by omega
  rw [hkk, abE _ (Nat.le_refl _)] at h5
  have hnn := aaT (by omega) h4
  refine uF sd ?_
  refine uC (dig (V 10000 A * V 10000 D).toNat, ()) ?_ ?_
  ·rw [List.take_of_length_le (by simp; omega)]
   exact af8 h4 (by omega) (by omega)
  ·rfl
theorem au2 (A : List Int) (hda : Dg 10000 A) (la : A.length ≤ 400000000000) : (aeQ A [10000]).toO = some (dig (V 10000 A * V 10000 [10000]).toNat, ()) := by
 have na := aaT (by omega) hda
 have hV1 : V 10000 [10000] = 10000 := by simp [V]
 have hw : w64 (len A + len [(10000 : Int)]) = ((A.length + 1 : Nat) : Int) := by
  simp only [aaC, List.length_singleton]; rw [aaA (by omega)]; omega
 unfold aeQ
 simp only [hw]
 refine uN (by omega) ?_
 refine uO (0, List.replicate (A.length + 1) 0, ()) ?_ ?_
 ·repeat (first | refine uV ?_ | refine uB ?_ | refine uN sd ?_ | refine uT sd ?_ | refine uF sd ?_ | refine uN (by simp) ?_)
  simp (disch := omega) only [aaK, aaA, aaO, aa0, abN, aaM, Nat.zero_add, Int.toNat_natCast, aaC, List.take_length]
 refine aaN (fun i => ∃ k : Nat, k ≤ A.length ∧ i.1 = (k : Int) ∧ i.2.1 = ((0 :: A.take k) ++ List.replicate (A.length - k) 0)) (fun i => ((A.length : Int) - i.1).toNat) (fun _ => (dig (V 10000 A * V 10000 [10000]).toNat, ())) ?_ _ ⟨0, Nat.zero_le _, rfl, by simp [List.replicate_succ]⟩
 rintro ⟨i, s, u⟩ ⟨k, h1, h2, h3⟩
 simp only at h2 h3
 subst h2 h3
 simp only [ajU, aaM, hw]
 have da := aa3 (by omega) hda k
 rcases Nat.lt_or_ge k A.length with hk | hk
 ·left
  have hrep : List.replicate (A.length - k) (0 : Int) = 0 :: List.replicate (A.length - (k + 1)) 0 := by
   rw [show A.length - k = (A.length - (k + 1)) + 1 by omega, List.replicate_succ]
  have hset : ((0 :: A.take k) ++ List.replicate (A.length - k) 0).set (k + 1) A[k] = ((0 :: A.take (k + 1)) ++ List.replicate (A.length - (k + 1)) 0) := by
   rw [hrep, List.set_append_right _ _ (by simp; omega)]
   have : k + 1 - (0 :: A.take k).length = 0 := by simp; omega
   rw [this, List.set_cons_zero]
   simp only [List.cons_append, List.take_succ_eq_append_getElem hk, List.append_assoc, List.nil_append]
  have hcur : 0 ≤ ((0 :: A.take k) ++ List.replicate (A.length - k) 0).getD k 0 ∧ ((0 :: A.take k) ++ List.replicate (A.length - k) 0).getD k 0 < 10000 := by
   refine aa3 (by omega) (aeG (aCe (by omega) (ab5 hda k)) (af9 (by omega) _)) k
  have hlen : ((0 :: A.take k) ++ List.replicate (A.length - k) 0).length = A.length + 1 := by simp; omega
  generalize ((0 :: A.take k) ++ List.replicate (A.length - k) 0) = s at *
  generalize hd : s.getD k 0 = d at hcur
  have hg : A.getD k 0 = A[k] := by simp [hk]
  rw [hg] at da
  refine ⟨(((k + 1 : Nat) : Int), ((0 :: A.take (k + 1)) ++ List.replicate (A.length - (k + 1)) 0), ()), ?_, ⟨k + 1, by omega, rfl, rfl⟩, by simp only; omega, (by first | exact True.intro | rfl)⟩
  refine uT sd ?_
  refine uO (0, 0, s, ()) ?_ ?_
  ·repeat (first | refine uV ?_ | refine uB ?_ | refine uN sd ?_ | refine uT sd ?_ | refine uF sd ?_ | refine uN (by simp) ?_)
   rfl
  have hk0 : w64 ((k : Int) + 0) = ((k : Nat) : Int) := by rw [aaA (by omega)]; omega
  have hkl : w64 ((k : Int) + len [(10000 : Int)]) = ((k + 1 : Nat) : Int) := by rw [aaC, List.length_singleton, aaA (by omega)]; omega
  have hsum : w64 (w64 (0 + d) + w64 (A[k] * 10000)) = d + A[k] * 10000 := by
   rw [aaA (x := 0 + d) (by omega), aaA (x := A[k] * 10000) (by omega), aaA (by omega)]; omega
  have s1 : (adU A [10000] ((k : Int), s, ()) (0, 0, s, ())).toO = some (.inl (1, A[k], s, ())) := by
   simp only [adU, aaM, hw, hk0, Int.toNat_natCast, Nat.zero_add, hd, hg]
   have hgi : gi [(10000 : Int)] 0 0 = 10000 := rfl
   simp only [hgi, hsum]
   refine uT (by (try simp only [decide_eq_true_eq, decide_eq_false_iff_not, beq_iff_eq, bne_iff_ne, beq_eq_false_iff_ne, bne_eq_false_iff_eq, Bool.not_eq_true', Bool.not_eq_false']) <;> (try simp only [aaC, inb, inc, ge_iff_le, gt_iff_lt, Int.toNat_natCast, asT, ne_eq]) <;> simp) (uN sd (uN sd (uN (by (try simp only [aaC, inb, inc, ge_iff_le, gt_iff_lt, Int.toNat_natCast, asT, ne_eq]); simp) ?_)))
   repeat (first | refine uV ?_ | refine uB ?_ | refine uN sd ?_ | refine uT sd ?_ | refine uF sd ?_ | refine uN (by simp) ?_)
   rw [Int.tmod_eq_emod_of_nonneg (by omega), Int.tdiv_eq_ediv_of_nonneg (by omega)]
   have m1 : (d + A[k] * 10000) % 10000 = d := by omega
   have m2 : (d + A[k] * 10000) / 10000 = A[k] := by omega
   have m3 : s.set k d = s := by
    rw [← hd, aiK (by omega)]
    exact List.set_getElem_self (by omega)
   rw [m1, m2, m3, aaA (x := A[k]) (by omega)]
   rfl
  rw [acO s1]
  refine acA ?_
  simp only [adU, hw, hkl, Int.toNat_natCast, Nat.zero_add]
  refine uF (by (try simp only [decide_eq_true_eq, decide_eq_false_iff_not, beq_iff_eq, bne_iff_ne, beq_eq_false_iff_ne, bne_eq_false_iff_eq, Bool.not_eq_true', Bool.not_eq_false']) <;> (try simp only [aaC, inb, inc, ge_iff_le, gt_iff_lt, Int.toNat_natCast, asT, ne_eq]) <;> simp) (uN sd ?_)
  repeat (first | refine uV ?_ | refine uB ?_ | refine uN sd ?_ | refine uT sd ?_ | refine uF sd ?_ | refine uN (by simp) ?_)
  rw [hset, aaA (x := (k : Int) + 1) (by omega)]
  rfl
 ·right
  have hkk : k = A.length := by omega
  subst hkk
  rw [Nat.sub_self, List.replicate_zero, List.append_nil, List.take_length]
  refine uF sd ?_
  refine uC (dig (V 10000 A * V 10000 [10000]).toNat, ()) ?_ ?_
  ·rw [List.take_of_length_le (by simp)]
   refine af8 (aCe (by omega) hda) (by simp; omega) ?_
   rw [hV1]
   show 0 + 10000 * V 10000 A = _
   omega
  ·rfl
theorem ayD (A D : List Int) (y) (h : abR (A, D, ()) = some y) : (aeQ A D).toO = some y := by
 unfold abR at h
 split at h
 case isFalse => cases h
 case isTrue hp =>
 obtain ⟨hda, hdb, la, lb⟩ := hp
 dsimp only at hda hdb la lb h
 injection h with h
 subst h
 rcases hdb with hdb | rfl
 ·exact aA0 A D hda hdb la lb
 ·exact au2 A hda la
theorem aNh {a d : Nat} (h1 : (dig a).length ≤ 1000000000000) (h2 : 0 < d) (h3 : d < 10000) : ap5 (dig a, (d : Int), ()) = some (dig (a / d), ((a % d : Nat) : Int), ()) := by
 refine aaI (enc := fun p : Nat × Nat => (dig p.1, (p.2 : Int), ())) (a, d) ⟨h1, h2, h3⟩ (fun b hb => ?_)
 obtain ⟨e1, e2⟩ := Prod.mk.inj hb
 obtain ⟨e2, -⟩ := Prod.mk.inj e2
 exact Prod.ext (awH e1) (Int.ofNat.inj e2)
theorem aJH (Vm Vq P d R m X Y B W : Int) (h : Vm = Vq * d + R) (h2 : Y + d * X = R * B + m) (hW : W = m + B * Vm) (hP : P = X + B * Vq) : W = P * d + Y := by
 subst hW hP h
 grind
theorem aEZ (m : List Int) (d : Int) (y) (h : ap5 (m, d, ()) = some y) : (au5 m d).toO = some y := by
 obtain ⟨⟨a, e⟩, hn, hx, rfl⟩ := aaD h
 obtain ⟨rfl, hx2⟩ := Prod.mk.inj hx; obtain ⟨rfl, -⟩ := Prod.mk.inj hx2; dsimp only
 obtain ⟨la, he, he2⟩ := hn
 simp only at la he he2
 have hda := adA a
 have hVa := ahK a
 unfold au5
 refine uN sn ?_
 refine uO (((dig a).length : Int) - 1, 0, List.replicate (dig a).length 0, ()) ?_ ?_
 ·repeat (first | refine uV ?_ | refine uB ?_ | refine uN sd ?_ | refine uT sd ?_ | refine uF sd ?_ | refine uN (by simp) ?_)
  simp only [aaC]
  rw [aaA (x := ((dig a).length : Int) - 1) (by omega)]
  rfl
 refine aaN (fun i : Int × Int × List Int × Unit => ∃ k : Nat, k ≤ (dig a).length ∧ i.1 = (k : Int) - 1 ∧ 0 ≤ i.2.1 ∧ i.2.1 < e ∧ i.2.2.1.length = (dig a).length ∧ Dg 10000 i.2.2.1 ∧ V 10000 ((dig a).drop k) = V 10000 (i.2.2.1.drop k) * e + i.2.1) (fun i => (i.1 + 1).toNat) (fun _ => (dig (a / e), ((a % e : Nat) : Int), ())) ?_ _ ⟨_, Nat.le_refl _, rfl, by simp, by simp; omega, by simp, af9 (by omega) _, by rw [acT _ (Nat.le_refl _), acT _ (by simp)]; simp⟩
 rintro ⟨i, r, q, u⟩ ⟨k, h1, h2, h3, h4, h5, h6, h7⟩
 simp only at h2 h3 h4 h5 h6 h7
 subst h2
 rcases Nat.eq_zero_or_pos k with h0 | h0
 ·subst h0
  right
  simp only [List.drop_zero, hVa] at h7
  obtain ⟨v, hv⟩ := Int.eq_ofNat_of_zero_le (aaT (by omega) h6)
  obtain ⟨r', rfl⟩ := Int.eq_ofNat_of_zero_le h3
  rw [hv] at h7
  have h8 : a = v * e + r' := by
   have : (a : Int) = ((v * e + r' : Nat) : Int) := by simpa using h7
   exact Int.ofNat.inj this
  have h9 : a / e = v := by rw [h8, Nat.add_comm, Nat.add_mul_div_right _ _ he, Nat.div_eq_of_lt (by omega), Nat.zero_add]
  have h10 : a % e = r' := by rw [h8, Nat.add_comm, Nat.add_mul_mod_self_right, Nat.mod_eq_of_lt (by omega)]
  simp only [aq1]
  refine uF sd ?_
  refine uC (dig v, ()) ?_ ?_
  ·rw [List.take_of_length_le (by simp [len]; omega)]
   exact af8 h6 (by omega) hv
  ·rw [aaK, h9, h10]
 ·left
  obtain ⟨j, rfl⟩ : ∃ j, k = j + 1 := ⟨k - 1, by omega⟩
  have e6 : ((j + 1 : Nat) : Int) - 1 = (j : Int) := by omega
  rw [e6]
  simp only [aq1, aaM]
  have e1 := aaU 10000 (dig a) j
  have e2 := aa3 (by omega) hda j
  have g1 : 0 ≤ r * 10000 + (dig a).getD j 0 := by omega
  have g0 : (0 : Int) < e := by omega
  have g2 := Int.emod_add_mul_ediv (r * 10000 + (dig a).getD j 0) e
  have g3 := Int.emod_nonneg (r * 10000 + (dig a).getD j 0) (show (e : Int) ≠ 0 by omega)
  have g4 := Int.emod_lt_of_pos (r * 10000 + (dig a).getD j 0) g0
  have g5 : 0 ≤ (r * 10000 + (dig a).getD j 0) / e := Int.ediv_nonneg g1 (by omega)
  have g6 : (r * 10000 + (dig a).getD j 0) / e < 10000 := by
   refine Int.ediv_lt_of_lt_mul g0 ?_
   have : (r + 1) * 10000 ≤ e * 10000 := Int.mul_le_mul_of_nonneg_right (by omega) (by omega)
   omega
  have hw1 : w64 (w64 (r * 10000) + (dig a).getD j 0) = r * 10000 + (dig a).getD j 0 := by
   rw [aaA (x := r * 10000) (by omega), aaA (by omega)]
  simp only [hw1]
  refine ⟨((j : Int) - 1, (r * 10000 + (dig a).getD j 0) % e, q.set j ((r * 10000 + (dig a).getD j 0) / e), ()), ?_, ⟨j, by omega, rfl, g3, g4, by simp; omega, aiE h6 ⟨g5, g6⟩ _, ?_⟩, by simp only; omega, (by first | exact True.intro | rfl)⟩
  ·repeat (first | refine uV ?_ | refine uB ?_ | refine uN sd ?_ | refine uT sd ?_ | refine uF sd ?_ | refine uN (by simp) ?_)
   rw [Int.tmod_eq_emod_of_nonneg g1, Int.tdiv_eq_ediv_of_nonneg g1]
   rw [aaA (x := (r * 10000 + (dig a).getD j 0) / e) (by omega)]
   simp (disch := omega) only [aaK, aaA, aaO, aa0, abN, aaM, Nat.zero_add, Int.toNat_natCast, aaC, List.take_length]
  ·simp only
   refine aJH _ _ _ _ _ _ _ _ 10000 _ h7 g2 e1 ?_
   rw [aaU 10000 (q.set j _) j, anX (by omega), ahG _ (by omega)]
set_option maxRecDepth 100000
open Go Go.Vg Go.Proofs
noncomputable section
def aIf : LTab := [(124, 7, 2048, { tag := 0, ι := (Int) × Unit, vs := .dat (.s 3) (Ty.int IntKind.i64) <| .nil, ks := [2, 0], kh := [], fresh := 0 }), (124, 31, 7168, { tag := 1, ι := (Bool) × Unit, vs := .dat (.s 2) (Ty.bool) <| .nil, ks := [3, 0], kh := [], fresh := 0 }), (124, 506, 9216, { tag := 2, ι := (Int) × Unit, vs := .dat (.s 5) (Ty.int IntKind.i64) <| .nil, ks := [3, 0], kh := [], fresh := 0 })]
def au9 (a : List UInt8) (j : Int × Unit) (j1 : Bool × Unit) (i : (Int) × Unit) : TT (((Int) × Unit) ⊕ (Bool × Unit)) :=
 .ite (decide (i.1 < len a))
 (.need (inb i.1 (len a)) <| .ite (decide ((↑(UInt8.toNat (gi a i.1 0)) : Int) < 48))
 (.ok (.inr ((false, ()))))
 (.need (inb i.1 (len a)) <| .ite (decide ((↑(UInt8.toNat (gi a i.1 0)) : Int) > 57))
 (.ok (.inr ((false, ()))))
 (.tt <| .lt (w64 (i.1 + 1) : Int) fun z => .triv (Qq z ∧ Qq j.1 ∧ Qq a ∧ True) tv <| .tr <| .ok (.inl ((z, ()))))))
 (.need (inb j.1 (len a)) <| .ite ((↑(UInt8.toNat (gi a j.1 0)) : Int) != 48)
 (.ok (.inr ((true, ()))))
 (.ok (.inr ((len a == 1, ())))))
def aE4 (a : List UInt8) (j : Int × Unit) (j1 : (Bool) × Unit) : TT (Bool × Unit) :=
 .loop 2 (.tt <| .triv (Qq j.1 ∧ Qq j.1 ∧ Qq a ∧ True) tv <| .tr <| .ok ((j.1, ()))) (au9 a j j1)
def avA (a : List UInt8) (j : (Int) × Unit) : TT (Bool × Unit) :=
 .join 1 (ι := (Bool) × Unit) (.ite (decide (w64 (len a - j.1) < 1))
 (.ok (.inr ((false, ()))))
 (.ite (decide (w64 (len a - j.1) > 600))
 (.ok (.inr ((false, ()))))
 (.tt <| .triv (Qq false ∧ Qq j.1 ∧ Qq a ∧ True) tv <| .tr <| .ok (.inl ((false, ())))))) (aE4 a j)
def aq4 (a : List UInt8) : TT (Bool × Unit) :=
 .join 0 (ι := (Int) × Unit) (.ite (decide (len a > 0))
 (.need (asT Int 0 ≤ 0 ∧ 0 < len a) <| .ite ((↑(UInt8.toNat (gi a 0 0)) : Int) == 45)
 (.tt <| .triv (Qq (1 : Int) ∧ Qq false ∧ Qq a ∧ True) tv <| .tr <| .ok (.inl ((1, ()))))
 (.tt <| .triv (Qq (0 : Int) ∧ Qq false ∧ Qq a ∧ True) tv <| .tr <| .ok (.inl ((0, ())))))
 (.tt <| .triv (Qq (0 : Int) ∧ Qq false ∧ Qq a ∧ True) tv <| .tr <| .ok (.inl ((0, ()))))) (avA a)
def aPO : LTab := [(38, 7, 2049, { tag := 0, ι := (Int) × Unit, vs := .dat (.s 3) (Ty.int IntKind.i64) <| .nil, ks := [2, 0], kh := [0], fresh := 0 }), (38, 250, 6146, { tag := 1, ι := (Int) × Bool × (List Int) × Unit, vs := .dat (.s 5) (Ty.int IntKind.i64) <| .appN (.s 4) 6 3 (Ty.int IntKind.i64) <| .nil, ks := [3, 2, 0], kh := [0], fresh := 1 }), (38, 64074, 16386, { tag := 2, ι := (Int) × (Int) × Unit, vs := .dat (.s 7) (Ty.int IntKind.i64) <| .dat (.s 6) (Ty.int IntKind.i64) <| .nil, ks := [21, 20, 19, 18, 15, 14, 13, 4, 5, 3, 2, 0], kh := [0], fresh := 0 }), (38, 64074, 16385, { tag := 3, ι := (Int) × (Int) × Unit, vs := .dat (.s 7) (Ty.int IntKind.i64) <| .dat (.s 6) (Ty.int IntKind.i64) <| .nil, ks := [21, 20, 19, 18, 15, 14, 13, 4, 5, 3, 2, 0], kh := [6, 0], fresh := 0 })]
def aA2 (a : List UInt8) (j : Int × Unit) (i : Int × Bool × List Int × Unit) (i1 : (Int) × (Int) × Unit) : TT (((Int) × (Int) × Unit) ⊕ (((Int) × Bool × (List Int) × Unit) ⊕ ((Bool × List Int × Unit) × Unit))) :=
 .ite (decide (i1.1 < i.1))
 (.need (inb i1.1 (len a)) <| .tt <| .lt (w64 (i1.1 + 1) : Int) fun z1 => .lt (w64 (w64 (i1.2.1 * 10) + w64 (wu8 ((↑(UInt8.toNat (gi a i1.1 0)) : Int) - 48))) : Int) fun z2 => .triv (Qq z2 ∧ Qq z1 ∧ Qq (if j.1 > w64 (i.1 - 4) then j.1 else w64 (i.1 - 4) : Int) ∧ Qq j.1 ∧ Qq (w64 (i.1 - 4)) ∧ Qq i.1 ∧ Qq (decide (i.1 > j.1)) ∧ Qq j.1 ∧ Qq i.1 ∧ True ∧ Qq i.1 ∧ Qq j.1 ∧ (Qq 0 ∧ Qq 0 ∧ Qq true) ∧ Qq a ∧ True) tv <| .triv ((Qq (83 : TypeId) ∧ Qq false ∧ True ∧ True) ∧ Qq true ∧ True) tv <| .ok (.inl ((z1, z2, ()))))
 (.need (1 * 8 ≤ 140737488355328) <| .tt <| .lt (w64 (i.1 - 4) : Int) fun z3 => .lt ([i1.2.1] : List Int) fun z4 => .triv ((Qq 6 ∧ Qq 0 ∧ Qq 1 ∧ Qq true) ∧ Qq z3 ∧ Qq j.1 ∧ (Qq 0 ∧ Qq 0 ∧ Qq true) ∧ Qq a ∧ True) tv <| .triv ((Qq (3 : TypeId) ∧ Qq z4) ∧ Qq true ∧ (Qq (83 : TypeId) ∧ Qq false ∧ True ∧ True) ∧ Qq true ∧ True) tv <| .ok (.inr (.inl ((z3, false, z4, ())))))
def aA1 (a : List UInt8) (j : Int × Unit) (i : Int × Bool × List Int × Unit) (i2 : (Int) × (Int) × Unit) : TT (((Int) × (Int) × Unit) ⊕ (((Int) × Bool × (List Int) × Unit) ⊕ ((Bool × List Int × Unit) × Unit))) :=
 .ite (decide (i2.1 < i.1))
 (.need (inb i2.1 (len a)) <| .tt <| .lt (w64 (i2.1 + 1) : Int) fun z6 => .lt (w64 (w64 (i2.2.1 * 10) + w64 (wu8 ((↑(UInt8.toNat (gi a i2.1 0)) : Int) - 48))) : Int) fun z7 => .triv (Qq z7 ∧ Qq z6 ∧ Qq (if j.1 > w64 (i.1 - 4) then j.1 else w64 (i.1 - 4) : Int) ∧ Qq j.1 ∧ Qq (w64 (i.1 - 4)) ∧ Qq i.1 ∧ Qq (decide (i.1 > j.1)) ∧ Qq j.1 ∧ Qq i.1 ∧ (Qq 6 ∧ Qq 0 ∧ Qq (List.length i.2.2.1) ∧ Qq true) ∧ Qq i.1 ∧ Qq j.1 ∧ (Qq 0 ∧ Qq 0 ∧ Qq true) ∧ Qq a ∧ True) tv <| .triv ((Qq (3 : TypeId) ∧ Qq i.2.2.1) ∧ Qq true ∧ (Qq (83 : TypeId) ∧ Qq false ∧ True ∧ True) ∧ Qq true ∧ True) tv <| .ok (.inl ((z6, z7, ()))))
 (.need ((List.length i.2.2.1 + 1) * 8 ≤ 140737488355328) <| .tt <| .lt (w64 (i.1 - 4) : Int) fun z8 => .lt (List.take (List.length i.2.2.1) i.2.2.1 ++ [i2.2.1] : List Int) fun z9 => .need ((((6) = (6)) ∧ (((0) = (0)) ∧ ((List.length i.2.2.1 + 1 = List.length z9) ∧ ((true) = (true))))) ∧ ((z8 : Int) = z8) ∧ ((j.1 : Int) = j.1) ∧ (((0) = (0)) ∧ (((0) = (0)) ∧ ((true) = (true)))) ∧ ((a) = (a)) ∧ True) <| .triv ((Qq (3 : TypeId) ∧ Qq z9) ∧ Qq true ∧ (Qq (83 : TypeId) ∧ Qq false ∧ True ∧ True) ∧ Qq true ∧ True) tv <| .ok (.inr (.inl ((z8, false, z9, ())))))
def aoR (a : List UInt8) (j : Int × Unit) (i : (Int) × Bool × (List Int) × Unit) : TT (((Int) × Bool × (List Int) × Unit) ⊕ ((Bool × List Int × Unit) × Unit)) :=
 .ite (i.2.1)
 (.ite (decide (i.1 > j.1))
 (.loop 2 (.tt <| .lt (if j.1 > w64 (i.1 - 4) then j.1 else w64 (i.1 - 4) : Int) fun z => .triv (Qq (0 : Int) ∧ Qq z ∧ Qq z ∧ Qq j.1 ∧ Qq (w64 (i.1 - 4)) ∧ Qq i.1 ∧ Qq (decide (i.1 > j.1)) ∧ Qq j.1 ∧ Qq i.1 ∧ True ∧ Qq i.1 ∧ Qq j.1 ∧ (Qq 0 ∧ Qq 0 ∧ Qq true) ∧ Qq a ∧ True) tv <| .triv ((Qq (83 : TypeId) ∧ Qq false ∧ True ∧ True) ∧ Qq true ∧ True) tv <| .ok ((z, 0, ()))) (aA2 a j i))
 (.call (abF (j.1 == 1, [], ())) akX fun y =>
 .ok (.inr (((y.1.1, y.1.2.1, ()), ())))))
 (.ite (decide (i.1 > j.1))
 (.loop 3 (.tt <| .lt (if j.1 > w64 (i.1 - 4) then j.1 else w64 (i.1 - 4) : Int) fun z5 => .triv (Qq (0 : Int) ∧ Qq z5 ∧ Qq z5 ∧ Qq j.1 ∧ Qq (w64 (i.1 - 4)) ∧ Qq i.1 ∧ Qq (decide (i.1 > j.1)) ∧ Qq j.1 ∧ Qq i.1 ∧ (Qq 6 ∧ Qq 0 ∧ Qq (List.length i.2.2.1) ∧ Qq true) ∧ Qq i.1 ∧ Qq j.1 ∧ (Qq 0 ∧ Qq 0 ∧ Qq true) ∧ Qq a ∧ True) tv <| .triv ((Qq (3 : TypeId) ∧ Qq i.2.2.1) ∧ Qq true ∧ (Qq (83 : TypeId) ∧ Qq false ∧ True ∧ True) ∧ Qq true ∧ True) tv <| .ok ((z5, 0, ()))) (aA1 a j i))
 (.call (abF (j.1 == 1, List.take (List.length i.2.2.1) i.2.2.1, ())) akX fun y1 =>
 .ok (.inr (((y1.1.1, y1.1.2.1, ()), ())))))
def aNX (a : List UInt8) (j : (Int) × Unit) : TT ((Bool × List Int × Unit) × Unit) :=
 .loop 1 (.tt <| .triv (True ∧ Qq (len a) ∧ Qq j.1 ∧ (Qq 0 ∧ Qq 0 ∧ Qq true) ∧ Qq a ∧ True) tv <| .triv ((Qq (83 : TypeId) ∧ Qq false ∧ True ∧ True) ∧ Qq true ∧ True) tv <| .ok ((len a, true, [], ()))) (aoR a j)
def aE6 (a : List UInt8) : TT ((Bool × List Int × Unit) × Unit) :=
 .join 0 (ι := (Int) × Unit) (.need (asT Int 0 ≤ 0 ∧ 0 < len a) <| .ite ((↑(UInt8.toNat (gi a 0 0)) : Int) == 45)
 (.tt <| .triv (Qq (1 : Int) ∧ (Qq 0 ∧ Qq 0 ∧ Qq true) ∧ Qq a ∧ True) tv <| .triv ((Qq (83 : TypeId) ∧ Qq false ∧ True ∧ True) ∧ Qq true ∧ True) tv <| .ok (.inl ((1, ()))))
 (.tt <| .triv (Qq (0 : Int) ∧ (Qq 0 ∧ Qq 0 ∧ Qq true) ∧ Qq a ∧ True) tv <| .triv ((Qq (83 : TypeId) ∧ Qq false ∧ True ∧ True) ∧ Qq true ∧ True) tv <| .ok (.inl ((0, ()))))) (aNX a)
def aIb : LTab := [(135, 2042, 45058, { tag := 0, ι := (Int) × (List Int) × (List Int) × Unit, vs := .dat (.s 12) (Ty.int IntKind.i64) <| .dat (.s 11) (Ty.sl (Ty.int IntKind.i64)) <| .row 29 (Ty.int IntKind.i64) <| .nil, ks := [10, 9, 8, 5, 4, 0, 1], kh := [29], fresh := 0 }), (135, 1045658, 60418, { tag := 1, ι := (Int) × (Int) × Unit, vs := .dat (.s 14) (Ty.int IntKind.i64) <| .dat (.s 13) (Ty.int IntKind.i64) <| .nil, ks := [83, 82, 11, 81, 80, 79, 77, 76, 75, 74, 71, 70, 12, 10, 9, 8, 5, 4, 0, 1], kh := [29], fresh := 0 }), (135, 2091324, 74754, { tag := 2, ι := (Int) × (Int) × Unit, vs := .dat (.s 16) (Ty.int IntKind.i64) <| .dat (.s 15) (Ty.int IntKind.i64) <| .nil, ks := [109, 108, 107, 106, 105, 104, 103, 102, 87, 86, 85, 84, 13, 14, 83, 82, 11, 81, 80, 79, 77, 76, 75, 74, 71, 70, 12, 10, 9, 8, 5, 4, 0, 1], kh := [29], fresh := 0 })]
def au3 (a : List Int) (b : List Int) (i : Int × List Int × List Int × Unit) (y2 : List Int × Unit) (i1 : Int × Int × Unit) (i2 : (Int) × (Int) × Unit) : TT (((Int) × (Int) × Unit) ⊕ (((Int) × (Int) × Unit) ⊕ (((Int) × (List Int) × (List Int) × Unit) ⊕ (List Int × List Int × Unit)))) :=
 .ite (decide (w64 (i2.1 - i2.2.1) > 1))
 (.triv (asT Int 2 ≠ 0) (by decide) <| .call (abR (b, [w64 (Int.tdiv (w64 (i2.2.1 + i2.1)) 2)], ())) aEw fun y3 =>
 .call (acM (y3.1, ())) aEw fun y4 =>
 .call (afS (y4.1, y2.1, ())) Dd6 fun y5 =>
 .ite (decide (y5.1 ≤ 0))
 (.tt <| .lt (w64 (Int.tdiv (w64 (i2.2.1 + i2.1)) 2) : Int) fun z10 => .triv (Qq z10 ∧ Qq i2.1 ∧ Qq (w64 (w64 (Int.tdiv i1.2.1 (w64 (w64 (gi b (w64 (len b - 1)) 0 * 10000) + gi b (w64 (w64 (len b - 1) - 1)) 0))) + 1) : Int) ∧ Qq (w64 (Int.tdiv i1.2.1 (w64 (w64 (gi b (w64 (len b - 1)) 0 * 10000) + gi b (w64 (w64 (len b - 1) - 1)) 0))) : Int) ∧ Qq (w64 (w64 (gi b (w64 (len b - 1)) 0 * 10000) + gi b (w64 (w64 (len b - 1) - 1)) 0) : Int) ∧ Qq i1.2.1 ∧ Qq (w64 (Int.tdiv i1.2.1 (w64 (w64 (w64 (gi b (w64 (len b - 1)) 0 * 10000) + gi b (w64 (w64 (len b - 1) - 1)) 0) + 1))) : Int) ∧ Qq (w64 (w64 (w64 (gi b (w64 (len b - 1)) 0 * 10000) + gi b (w64 (w64 (len b - 1) - 1)) 0) + 1) : Int) ∧ Qq (w64 (w64 (gi b (w64 (len b - 1)) 0 * 10000) + gi b (w64 (w64 (len b - 1) - 1)) 0) : Int) ∧ Qq i1.2.1 ∧ Qq (decide (i1.1 ≥ w64 (w64 (len b - 1) - 1))) ∧ Qq (w64 (w64 (len b - 1) - 1)) ∧ Qq (w64 (len b - 1)) ∧ Qq i1.1 ∧ Qq i1.2.1 ∧ Qq i1.1 ∧ Qq (w64 (w64 (len b - 1) + 1)) ∧ Qq (w64 (len b - 1)) ∧ Qq y2.1 ∧ Qq y2.1 ∧ Qq (List.take (1 + List.length i.2.1) ([gi a i.1 0] ++ i.2.1)) ∧ Qq i.2.1 ∧ Qq (gi a i.1 0) ∧ Qq (gi a i.1 0) ∧ Qq i.1 ∧ Qq a ∧ Qq (decide (i.1 ≥ 0)) ∧ Qq i.1 ∧ Qq i.1 ∧ (Qq 29 ∧ Qq 0 ∧ Qq (Int.toNat (w64 (len a - w64 (len b - 1)))) ∧ Qq true) ∧ Qq (w64 (w64 (gi b (w64 (len b - 1)) 0 * 10000) + gi b (w64 (w64 (len b - 1) - 1)) 0) : Int) ∧ Qq (w64 (len b - 1)) ∧ True ∧ True ∧ Qq a ∧ Qq b ∧ True) tv <| .triv ((Qq (3 : TypeId) ∧ Qq i.2.2.1) ∧ Qq true ∧ True) tv <| .ok (.inl ((i2.1, z10, ()))))
 (.tt <| .lt (w64 (Int.tdiv (w64 (i2.2.1 + i2.1)) 2) : Int) fun z11 => .lt (i2.2.1 : Int) fun z12 => .triv (Qq z12 ∧ Qq z11 ∧ Qq (w64 (w64 (Int.tdiv i1.2.1 (w64 (w64 (gi b (w64 (len b - 1)) 0 * 10000) + gi b (w64 (w64 (len b - 1) - 1)) 0))) + 1) : Int) ∧ Qq (w64 (Int.tdiv i1.2.1 (w64 (w64 (gi b (w64 (len b - 1)) 0 * 10000) + gi b (w64 (w64 (len b - 1) - 1)) 0))) : Int) ∧ Qq (w64 (w64 (gi b (w64 (len b - 1)) 0 * 10000) + gi b (w64 (w64 (len b - 1) - 1)) 0) : Int) ∧ Qq i1.2.1 ∧ Qq (w64 (Int.tdiv i1.2.1 (w64 (w64 (w64 (gi b (w64 (len b - 1)) 0 * 10000) + gi b (w64 (w64 (len b - 1) - 1)) 0) + 1))) : Int) ∧ Qq (w64 (w64 (w64 (gi b (w64 (len b - 1)) 0 * 10000) + gi b (w64 (w64 (len b - 1) - 1)) 0) + 1) : Int) ∧ Qq (w64 (w64 (gi b (w64 (len b - 1)) 0 * 10000) + gi b (w64 (w64 (len b - 1) - 1)) 0) : Int) ∧ Qq i1.2.1 ∧ Qq (decide (i1.1 ≥ w64 (w64 (len b - 1) - 1))) ∧ Qq (w64 (w64 (len b - 1) - 1)) ∧ Qq (w64 (len b - 1)) ∧ Qq i1.1 ∧ Qq i1.2.1 ∧ Qq i1.1 ∧ Qq (w64 (w64 (len b - 1) + 1)) ∧ Qq (w64 (len b - 1)) ∧ Qq y2.1 ∧ Qq y2.1 ∧ Qq (List.take (1 + List.length i.2.1) ([gi a i.1 0] ++ i.2.1)) ∧ Qq i.2.1 ∧ Qq (gi a i.1 0) ∧ Qq (gi a i.1 0) ∧ Qq i.1 ∧ Qq a ∧ Qq (decide (i.1 ≥ 0)) ∧ Qq i.1 ∧ Qq i.1 ∧ (Qq 29 ∧ Qq 0 ∧ Qq (Int.toNat (w64 (len a - w64 (len b - 1)))) ∧ Qq true) ∧ Qq (w64 (w64 (gi b (w64 (len b - 1)) 0 * 10000) + gi b (w64 (w64 (len b - 1) - 1)) 0) : Int) ∧ Qq (w64 (len b - 1)) ∧ True ∧ True ∧ Qq a ∧ Qq b ∧ True) tv <| .triv ((Qq (3 : TypeId) ∧ Qq i.2.2.1) ∧ Qq true ∧ True) tv <| .ok (.inl ((z11, z12, ())))))
 (.need (inb i.1 (↑(Int.toNat (w64 (len a - w64 (len b - 1)))) : Int)) <| .call (abR (b, [i2.2.1], ())) aEw fun y6 =>
 .call (abA (y2.1, y6.1, ())) aEw fun y7 =>
 .tt <| .lt (w64 (i.1 - 1) : Int) fun z13 => .lt (List.set i.2.2.1 (0 + Int.toNat i.1) i2.2.1 : List Int) fun z14 => .triv (Qq y7.1 ∧ Qq z13 ∧ (Qq 29 ∧ Qq 0 ∧ Qq (Int.toNat (w64 (len a - w64 (len b - 1)))) ∧ Qq true) ∧ Qq (w64 (w64 (gi b (w64 (len b - 1)) 0 * 10000) + gi b (w64 (w64 (len b - 1) - 1)) 0) : Int) ∧ Qq (w64 (len b - 1)) ∧ True ∧ True ∧ Qq a ∧ Qq b ∧ True) tv <| .triv ((Qq (3 : TypeId) ∧ Qq z14) ∧ Qq true ∧ True) tv <| .ok (.inr (.inr (.inl ((z13, y7.1, z14, ()))))))
def aeJ (a : List Int) (b : List Int) (i : Int × List Int × List Int × Unit) (y2 : List Int × Unit) (i1 : (Int) × (Int) × Unit) : TT (((Int) × (Int) × Unit) ⊕ (((Int) × (List Int) × (List Int) × Unit) ⊕ (List Int × List Int × Unit))) :=
 .ite (decide (i1.1 ≥ w64 (w64 (len b - 1) - 1)))
 (.ite (decide (i1.1 < len y2.1))
 (.need (inb i1.1 (len y2.1)) <| .tt <| .lt (w64 (i1.1 - 1) : Int) fun z4 => .lt (w64 (w64 (i1.2.1 * 10000) + gi y2.1 i1.1 0) : Int) fun z5 => .triv (Qq z5 ∧ Qq z4 ∧ Qq (w64 (w64 (len b - 1) + 1)) ∧ Qq (w64 (len b - 1)) ∧ Qq y2.1 ∧ Qq y2.1 ∧ Qq (List.take (1 + List.length i.2.1) ([gi a i.1 0] ++ i.2.1)) ∧ Qq i.2.1 ∧ Qq (gi a i.1 0) ∧ Qq (gi a i.1 0) ∧ Qq i.1 ∧ Qq a ∧ Qq (decide (i.1 ≥ 0)) ∧ Qq i.1 ∧ Qq i.1 ∧ (Qq 29 ∧ Qq 0 ∧ Qq (Int.toNat (w64 (len a - w64 (len b - 1)))) ∧ Qq true) ∧ Qq (w64 (w64 (gi b (w64 (len b - 1)) 0 * 10000) + gi b (w64 (w64 (len b - 1) - 1)) 0) : Int) ∧ Qq (w64 (len b - 1)) ∧ True ∧ True ∧ Qq a ∧ Qq b ∧ True) tv <| .triv ((Qq (3 : TypeId) ∧ Qq i.2.2.1) ∧ Qq true ∧ True) tv <| .ok (.inl ((z4, z5, ()))))
 (.tt <| .lt (w64 (i1.1 - 1) : Int) fun z6 => .lt (w64 (i1.2.1 * 10000) : Int) fun z7 => .triv (Qq z7 ∧ Qq z6 ∧ Qq (w64 (w64 (len b - 1) + 1)) ∧ Qq (w64 (len b - 1)) ∧ Qq y2.1 ∧ Qq y2.1 ∧ Qq (List.take (1 + List.length i.2.1) ([gi a i.1 0] ++ i.2.1)) ∧ Qq i.2.1 ∧ Qq (gi a i.1 0) ∧ Qq (gi a i.1 0) ∧ Qq i.1 ∧ Qq a ∧ Qq (decide (i.1 ≥ 0)) ∧ Qq i.1 ∧ Qq i.1 ∧ (Qq 29 ∧ Qq 0 ∧ Qq (Int.toNat (w64 (len a - w64 (len b - 1)))) ∧ Qq true) ∧ Qq (w64 (w64 (gi b (w64 (len b - 1)) 0 * 10000) + gi b (w64 (w64 (len b - 1) - 1)) 0) : Int) ∧ Qq (w64 (len b - 1)) ∧ True ∧ True ∧ Qq a ∧ Qq b ∧ True) tv <| .triv ((Qq (3 : TypeId) ∧ Qq i.2.2.1) ∧ Qq true ∧ True) tv <| .ok (.inl ((z6, z7, ())))))
 (.need (w64 (w64 (w64 (gi b (w64 (len b - 1)) 0 * 10000) + gi b (w64 (w64 (len b - 1) - 1)) 0) + 1) ≠ 0) <| .need (w64 (w64 (gi b (w64 (len b - 1)) 0 * 10000) + gi b (w64 (w64 (len b - 1) - 1)) 0) ≠ 0) <| .loop 2 (.tt <| .lt (w64 (w64 (Int.tdiv i1.2.1 (w64 (w64 (gi b (w64 (len b - 1)) 0 * 10000) + gi b (w64 (w64 (len b - 1) - 1)) 0))) + 1) : Int) fun z8 => .lt (w64 (Int.tdiv i1.2.1 (w64 (w64 (w64 (gi b (w64 (len b - 1)) 0 * 10000) + gi b (w64 (w64 (len b - 1) - 1)) 0) + 1))) : Int) fun z9 => .triv (Qq z9 ∧ Qq z8 ∧ Qq z8 ∧ Qq (w64 (Int.tdiv i1.2.1 (w64 (w64 (gi b (w64 (len b - 1)) 0 * 10000) + gi b (w64 (w64 (len b - 1) - 1)) 0))) : Int) ∧ Qq (w64 (w64 (gi b (w64 (len b - 1)) 0 * 10000) + gi b (w64 (w64 (len b - 1) - 1)) 0) : Int) ∧ Qq i1.2.1 ∧ Qq z9 ∧ Qq (w64 (w64 (w64 (gi b (w64 (len b - 1)) 0 * 10000) + gi b (w64 (w64 (len b - 1) - 1)) 0) + 1) : Int) ∧ Qq (w64 (w64 (gi b (w64 (len b - 1)) 0 * 10000) + gi b (w64 (w64 (len b - 1) - 1)) 0) : Int) ∧ Qq i1.2.1 ∧ Qq (decide (i1.1 ≥ w64 (w64 (len b - 1) - 1))) ∧ Qq (w64 (w64 (len b - 1) - 1)) ∧ Qq (w64 (len b - 1)) ∧ Qq i1.1 ∧ Qq i1.2.1 ∧ Qq i1.1 ∧ Qq (w64 (w64 (len b - 1) + 1)) ∧ Qq (w64 (len b - 1)) ∧ Qq y2.1 ∧ Qq y2.1 ∧ Qq (List.take (1 + List.length i.2.1) ([gi a i.1 0] ++ i.2.1)) ∧ Qq i.2.1 ∧ Qq (gi a i.1 0) ∧ Qq (gi a i.1 0) ∧ Qq i.1 ∧ Qq a ∧ Qq (decide (i.1 ≥ 0)) ∧ Qq i.1 ∧ Qq i.1 ∧ (Qq 29 ∧ Qq 0 ∧ Qq (Int.toNat (w64 (len a - w64 (len b - 1)))) ∧ Qq true) ∧ Qq (w64 (w64 (gi b (w64 (len b - 1)) 0 * 10000) + gi b (w64 (w64 (len b - 1) - 1)) 0) : Int) ∧ Qq (w64 (len b - 1)) ∧ True ∧ True ∧ Qq a ∧ Qq b ∧ True) tv <| .triv ((Qq (3 : TypeId) ∧ Qq i.2.2.1) ∧ Qq true ∧ True) tv <| .ok ((z8, z9, ()))) (au3 a b i y2 i1))
def anO (a : List Int) (b : List Int) (i : (Int) × (List Int) × (List Int) × Unit) : TT (((Int) × (List Int) × (List Int) × Unit) ⊕ (List Int × List Int × Unit)) :=
 .ite (decide (i.1 ≥ 0))
 (.need (inb i.1 (len a)) <| .need ((1 + List.length i.2.1) * 8 ≤ 140737488355328) <| .call (acM (List.take (1 + List.length i.2.1) ([gi a i.1 0] ++ i.2.1), ())) aEw fun y2 =>
 .loop 1 (.tt <| .lt (w64 (w64 (len b - 1) + 1) : Int) fun z3 => .triv (Qq (0 : Int) ∧ Qq z3 ∧ Qq z3 ∧ Qq (w64 (len b - 1)) ∧ Qq y2.1 ∧ Qq y2.1 ∧ Qq (List.take (1 + List.length i.2.1) ([gi a i.1 0] ++ i.2.1)) ∧ Qq i.2.1 ∧ Qq (gi a i.1 0) ∧ Qq (gi a i.1 0) ∧ Qq i.1 ∧ Qq a ∧ Qq (decide (i.1 ≥ 0)) ∧ Qq i.1 ∧ Qq i.1 ∧ (Qq 29 ∧ Qq 0 ∧ Qq (Int.toNat (w64 (len a - w64 (len b - 1)))) ∧ Qq true) ∧ Qq (w64 (w64 (gi b (w64 (len b - 1)) 0 * 10000) + gi b (w64 (w64 (len b - 1) - 1)) 0) : Int) ∧ Qq (w64 (len b - 1)) ∧ True ∧ True ∧ Qq a ∧ Qq b ∧ True) tv <| .triv ((Qq (3 : TypeId) ∧ Qq i.2.2.1) ∧ Qq true ∧ True) tv <| .ok ((z3, 0, ()))) (aeJ a b i y2))
 (.call (acM (List.take (Int.toNat (w64 (len a - w64 (len b - 1)))) i.2.2.1, ())) aEw fun y8 =>
 .ok (.inr ((y8.1, i.2.1, ()))))
def aqZ (a : List Int) (b : List Int) : TT (List Int × List Int × Unit) :=
 .ite (len b == 1)
 (.need (asT Int 0 ≤ 0 ∧ 0 < len b) <| .call (ap5 (a, gi b 0 0, ())) aRY fun y =>
 .call (acM ([y.2.1], ())) aEw fun y1 =>
 .ok ((y.1, y1.1, ())))
 (.ite (decide (len a ≤ w64 (len b - 1)))
 (.need ((0 + List.length a) * 8 ≤ 140737488355328) <| .ok (([], List.take (0 + List.length a) (List.take 0 [] ++ a), ())))
 (.need (inb (w64 (len b - 1)) (len b)) <| .need (inb (w64 (w64 (len b - 1) - 1)) (len b)) <| .need (0 ≤ w64 (len a - w64 (len b - 1)) ∧ w64 (len a - w64 (len b - 1)) ≤ w64 (len a - w64 (len b - 1)) ∧ w64 (len a - w64 (len b - 1)) * (↑8 : Int) ≤ 140737488355328) <| .need (inc (w64 (len a - w64 (len b - 1))) (len a)) <| .need ((0 + List.length (List.take (List.length a - Int.toNat (w64 (len a - w64 (len b - 1)))) (List.drop (Int.toNat (w64 (len a - w64 (len b - 1)))) a))) * 8 ≤ 140737488355328) <| .loop 0 (.tt <| .lt (w64 ((↑(Int.toNat (w64 (len a - w64 (len b - 1)))) : Int) - 1) : Int) fun z => .lt (List.take (0 + List.length (List.take (List.length a - Int.toNat (w64 (len a - w64 (len b - 1)))) (List.drop (Int.toNat (w64 (len a - w64 (len b - 1)))) a))) (List.take 0 [] ++ List.take (List.length a - Int.toNat (w64 (len a - w64 (len b - 1)))) (List.drop (Int.toNat (w64 (len a - w64 (len b - 1)))) a)) : List Int) fun z1 => .lt (List.replicate (Int.toNat (w64 (len a - w64 (len b - 1)))) 0 : List Int) fun z2 => .triv (Qq z1 ∧ Qq z ∧ (Qq 29 ∧ Qq 0 ∧ Qq (Int.toNat (w64 (len a - w64 (len b - 1)))) ∧ Qq true) ∧ Qq (w64 (w64 (gi b (w64 (len b - 1)) 0 * 10000) + gi b (w64 (w64 (len b - 1) - 1)) 0) : Int) ∧ Qq (w64 (len b - 1)) ∧ True ∧ True ∧ Qq a ∧ Qq b ∧ True) tv <| .triv ((Qq (3 : TypeId) ∧ Qq z2) ∧ Qq true ∧ True) tv <| .ok ((z, z1, z2, ()))) (anO a b)))
def aKO : LTab := []
def aCN (a : Bool × List Int × Unit) : TT ((Bool × List Int × Unit) × Unit) :=
 .call (abF (!a.1, a.2.1, ())) akX fun y =>
 .ok (((y.1.1, y.1.2.1, ()), ()))
def aKQ : LTab := []
def avB (a : Bool × List Int × Unit) (b : Bool × List Int × Unit) : TT ((Bool × List Int × Unit) × Unit) :=
 .ite (a.1 == b.1)
 (.call (auG (a.2.1, b.2.1, ())) aEw fun y =>
 .call (abF (a.1, y.1, ())) akX fun y1 =>
 .ok (((y1.1.1, y1.1.2.1, ()), ())))
 (.call (afS (a.2.1, b.2.1, ())) Dd6 fun y2 =>
 .ite (decide (y2.1 ≥ 0))
 (.call (abA (a.2.1, b.2.1, ())) aEw fun y3 =>
 .call (abF (a.1, y3.1, ())) akX fun y4 =>
 .ok (((y4.1.1, y4.1.2.1, ()), ())))
 (.call (abA (b.2.1, a.2.1, ())) aEw fun y5 =>
 .call (abF (b.1, y5.1, ())) akX fun y6 =>
 .ok (((y6.1.1, y6.1.2.1, ()), ()))))
def aIj : LTab := []
def azE (a : Bool × List Int × Unit) (b : Bool × List Int × Unit) : TT ((Bool × List Int × Unit) × Unit) :=
 .call (ajD ((b.1, b.2.1, ()), ())) akX fun y =>
 .call (agK ((a.1, a.2.1, ()), y.1, ())) akX fun y1 =>
 .ok (((y1.1.1, y1.1.2.1, ()), ()))
def aIe : LTab := []
def azB (a : Bool × List Int × Unit) (b : Bool × List Int × Unit) : TT ((Bool × List Int × Unit) × Unit) :=
 .call (abR (a.2.1, b.2.1, ())) aEw fun y =>
 .call (abF (!a.1 == b.1, y.1, ())) akX fun y1 =>
 .ok (((y1.1.1, y1.1.2.1, ()), ()))
def aIg : LTab := []
def aq5 (a : Bool × List Int × Unit) (b : Bool × List Int × Unit) : TT ((Bool × List Int × Unit) × (Bool × List Int × Unit) × Unit) :=
 .call (ajC (a.2.1, b.2.1, ())) aRR fun y =>
 .call (abF (!a.1 == b.1, y.1, ())) akX fun y1 =>
 .call (abF (a.1, y.2.1, ())) akX fun y2 =>
 .ite (y2.1.1)
 (.call (agK ((y2.1.1, y2.1.2.1, ()), (false, b.2.1, ()), ())) akX fun y3 =>
 .ite (b.1)
 (.call (acE (1, ())) akX fun y4 =>
 .call (agK ((y1.1.1, y1.1.2.1, ()), y4.1, ())) akX fun y5 =>
 .ok (((y5.1.1, y5.1.2.1, ()), (y3.1.1, y3.1.2.1, ()), ())))
 (.call (acE (1, ())) akX fun y6 =>
 .call (ajE ((y1.1.1, y1.1.2.1, ()), y6.1, ())) akX fun y7 =>
 .ok (((y7.1.1, y7.1.2.1, ()), (y3.1.1, y3.1.2.1, ()), ()))))
 (.ok (((y1.1.1, y1.1.2.1, ()), (y2.1.1, y2.1.2.1, ()), ())))
def aIi : LTab := []
def azD (a : Bool × List Int × Unit) (b : Bool × List Int × Unit) : TT (Int × Unit) :=
 .call (ajE ((a.1, a.2.1, ()), (b.1, b.2.1, ()), ())) akX fun y =>
 .ite (y.1.1)
 (.ok ((-1, ())))
 (.ite (decide (len y.1.2.1 > 0))
 (.ok ((1, ())))
 (.ok ((0, ()))))
def aCU : LTab := [(86, 28, 9217, { tag := 0, ι := (List Int) × (List Int) × Unit, vs := .dat (.s 6) (Ty.sl (Ty.int IntKind.i64)) <| .dat (.s 5) (Ty.sl (Ty.int IntKind.i64)) <| .nil, ks := [4], kh := [2, 1, 0], fresh := 0 })]
def aoS (a : Bool × List Int × Unit) (b : Bool × List Int × Unit) (i : (List Int) × (List Int) × Unit) : TT (((List Int) × (List Int) × Unit) ⊕ ((Bool × List Int × Unit) × Unit)) :=
 .ite (decide (len i.1 > 0))
 (.call (ajC (i.2.1, i.1, ())) aRR fun y =>
 .tt <| .lt (y.2.1 : List Int) fun z2 => .triv (Qq i.1 ∧ Qq z2 ∧ (Qq 2 ∧ Qq 0 ∧ Qq true) ∧ True) tv <| .triv ((Qq (83 : TypeId) ∧ Qq false ∧ True ∧ True) ∧ Qq true ∧ (Qq (83 : TypeId) ∧ Qq b.1 ∧ Qq b.2.1 ∧ True) ∧ Qq true ∧ (Qq (83 : TypeId) ∧ Qq a.1 ∧ Qq a.2.1 ∧ True) ∧ Qq true ∧ True) tv <| .ok (.inl ((z2, i.1, ()))))
 (.ok (.inr (((false, i.2.1, ()), ()))))
def asO (a : Bool × List Int × Unit) (b : Bool × List Int × Unit) : TT ((Bool × List Int × Unit) × Unit) :=
 .loop 0 (.tt <| .lt (b.2.1 : List Int) fun z => .lt (a.2.1 : List Int) fun z1 => .triv (Qq z1 ∧ Qq z ∧ (Qq 2 ∧ Qq 0 ∧ Qq true) ∧ True) tv <| .triv ((Qq (83 : TypeId) ∧ Qq false ∧ True ∧ True) ∧ Qq true ∧ (Qq (83 : TypeId) ∧ Qq b.1 ∧ Qq z ∧ True) ∧ Qq true ∧ (Qq (83 : TypeId) ∧ Qq a.1 ∧ Qq z1 ∧ True) ∧ Qq true ∧ True) tv <| .ok ((z, z1, ()))) (aoS a b)
end
theorem ajW {p q : Int × Int} (h : (pl p.1, pl p.2, ()) = (pl q.1, pl q.2, ())) : p = q := by
 obtain ⟨h1, h2⟩ := Prod.mk.inj h
 obtain ⟨h2, -⟩ := Prod.mk.inj h2
 exact Prod.ext (avD h1) (avD h2)
theorem aAd {p q : Nat × Nat} (h : (dig p.1, dig p.2, ()) = (dig q.1, dig q.2, ())) : p = q := by
 obtain ⟨h1, h2⟩ := Prod.mk.inj h
 obtain ⟨h2, -⟩ := Prod.mk.inj h2
 exact Prod.ext (awH h1) (awH h2)
theorem aLV {n : Nat} (h : n < 10000) : isD (ayL n) := by
 intro c hc
 simp only [ayL, List.mem_cons, List.not_mem_nil, or_false] at hc
 rcases hc with rfl | rfl | rfl | rfl <;> rw [auD (by omega)] <;> omega
theorem aLU {n : Nat} (h : n < 10000) : num (ayL n) = n := by
 have e : ∀ a b c d : Nat, a < 10 → b < 10 → c < 10 → d < 10 → num [UInt8.ofNat (48 + a), UInt8.ofNat (48 + b), UInt8.ofNat (48 + c), UInt8.ofNat (48 + d)] = ((a * 10 + b) * 10 + c) * 10 + d := by
  intro a b c d ha hb hc hd
  unfold num
  rw [agE, agE, agE, agE, aAb ha, aAb hb, aAb hc, aAb hd]
  simp [ax5]
 unfold ayL
 rw [e _ _ _ _ (by omega) (by omega) (by omega) (by omega)]
 omega
theorem aOn {s : List UInt8} {k : Nat} (h : ∀ c ∈ s.take k, c = 48) : num s = num (s.drop k) := by
 have h1 : ∀ l : List UInt8, (∀ c ∈ l, c = 48) → num l = 0 := by
  intro l
  induction l using aEN with
  | nil => intro _; rfl
  | snoc l c ih =>
   intro h
   rw [amD, ih (fun d hd => h d (List.mem_append_left _ hd)), h c (by simp)]
   rfl
 conv => lhs; rw [← List.take_append_drop k s]
 rw [amF, h1 _ h]
 omega
theorem aQy {n : Nat} (h : Bd 6 n) : (dig n).length ≤ 13000000000 := by
 have h2 := aAe (k := 1000000 * 4 ^ 6) h
 omega
theorem aEn {z : Int} (h : Bd 6 z.natAbs) : alW (pl z, ()) = some (dec z, ()) := aaI (enc := fun x : Int => (pl x, ())) z h (fun b hb => avD (Prod.mk.inj hb).1)
theorem aE3 (x : PlT) (y) (h : alW (x, ()) = some y) : (au8 x).toO = some y := by
 obtain ⟨z, hp, hx, rfl⟩ := aaD h
 obtain ⟨rfl, -⟩ := Prod.mk.inj hx
 have hl := aQy hp
 have hd := adA z.natAbs
 have hV := ahK z.natAbs
 clear h hx
 unfold au8
 dsimp only
 refine uO (((dig z.natAbs).length : Int) - 1, [], ()) ?_ ?_
 ·repeat (first | refine uV ?_ | refine uB ?_ | refine uN sd ?_ | refine uT sd ?_ | refine uF sd ?_ | refine uN (by simp) ?_)
  rw [aaK, aaC, aaA (by omega)]
 refine aaN (fun i : Int × List UInt8 × Unit => ∃ k : Nat, k ≤ (dig z.natAbs).length ∧ i.1 = (k : Int) - 1 ∧ isD i.2.1 ∧ i.2.1.length = 4 * ((dig z.natAbs).length - k) ∧ (num i.2.1 : Int) = V 10000 ((dig z.natAbs).drop k)) (fun i => (i.1 + 1).toNat) (fun _ => (dec z, ())) ?_ _ ⟨_, Nat.le_refl _, rfl, (show isD [] from fun c hc => by cases hc), by simp, by rw [acT _ (Nat.le_refl _)]; rfl⟩
 rintro ⟨i, s, u⟩ ⟨k, h1, h2, h3, h4, h5⟩
 dsimp only at h2 h3 h4 h5
 subst h2
 cases k with
 | succ j =>
  left
  have e6 : ((j + 1 : Nat) : Int) - 1 = (j : Int) := by omega
  have dj := aa3 (by omega) hd j
  obtain ⟨m, hm⟩ := Int.eq_ofNat_of_zero_le dj.1
  have hm2 : m < 10000 := by omega
  rw [e6]
  refine ⟨((j : Int) - 1, s ++ ayL m, ()), ?_, ⟨j, by omega, rfl, ?_, ?_, ?_⟩, by dsimp only; omega, (by first | exact True.intro | rfl)⟩
  ·simp only [aq3, aaM, hm]
   refine uT sd (uN sd (uC _ (aNi hm2) (uN ?_ ?_)))
   ·have : (ayL m).length = 4 := rfl
    dsimp only
    rw [this, h4]
    unfold lim; omega
   ·repeat (first | refine uV ?_ | refine uB ?_ | refine uN sd ?_ | refine uT sd ?_ | refine uF sd ?_ | refine uN (by simp) ?_)
    rw [aaK, aaA (x := (j : Int) - 1) (by omega)]
  ·exact isD_append.2 ⟨h3, aLV hm2⟩
  ·have : (ayL m).length = 4 := rfl
   simp only [List.length_append, this, h4]; omega
  ·dsimp only
   rw [amF, aLU hm2, aaU, hm, ← h5]
   have : (ayL m).length = 4 := rfl
   rw [this]
   simp; omega
 | zero =>
  right
  rw [List.drop_zero, hV] at h5
  have h5' : num s = z.natAbs := Int.ofNat.inj h5
  simp only [aq3]
  refine uF sd (uO (0, ()) rfl ?_)
  refine aaN (fun i : Int × Unit => ∃ q : Nat, q ≤ s.length ∧ i = ((q : Int), ()) ∧ ∀ c ∈ s.take q, c = 48) (fun i => ((s.length : Int) - i.1).toNat) (fun _ => (.inr (dec z, ()) : (Int × List UInt8 × Unit) ⊕ (List UInt8 × Unit))) ?_ _ ⟨0, by omega, rfl, by simp⟩
  rintro i ⟨q, g1, rfl, g2⟩
  have hlead := aOn g2
  have hsl : s.length ≤ 60000000000 := by omega
  have hdd : isD (s.drop q) := ao9 h3 q
  have htk : List.take (s.length - q) (s.drop q) = s.drop q := List.take_of_length_le (by simp)
  have fin : ∀ (w : TT ((Int × Unit) ⊕ ((Int × List UInt8 × Unit) ⊕ (List UInt8 × Unit)))), (q = s.length ∨ (s.drop q).head? ≠ some 48) → (TT.ite (s.drop q == #[].toList) (TT.ok (.inr (.inr (#[48].toList, ())))) (TT.ite (decide (z < 0)) (TT.need (List.length #[(45 : UInt8)].toList + List.length (s.drop q) ≤ lim) (TT.ok (.inr (.inr (#[45].toList ++ s.drop q, ()))))) (TT.ok (.inr (.inr (s.drop q, ())))) : TT ((Int × Unit) ⊕ ((Int × List UInt8 × Unit) ⊕ (List UInt8 × Unit))))).toO = some (.inr (.inr (dec z, ()))) := by
   intro _ hq
   by_cases c0 : s.drop q = []
   ·refine uT (by rw [c0]; rfl) ?_
    rw [c0] at hlead
    have : z.natAbs = 0 := by rw [← h5', hlead]; rfl
    have hz : z = 0 := by omega
    subst hz
    rw [acB (by omega), Int.natAbs_zero, abG (by omega)]; rfl
   ·refine uF (by rw [beq_eq_false_iff_ne]; exact c0) ?_
    have hu : s.drop q = aa2 z.natAbs := by
     have := aDW hdd c0 (by
      rcases hq with hq | hq
      ·exact absurd (by rw [hq]; simp) c0
      ·exact Or.inl hq)
     rw [this, ← hlead, h5']
    by_cases cz : z < 0
    ·refine uT (decide_eq_true cz) (uN ?_ ?_)
     ·show 1 + (s.drop q).length ≤ lim
      rw [List.length_drop]; unfold lim; omega
     ·rw [hu, ahH cz]; rfl
    ·refine uF (decide_eq_false cz) ?_
     rw [hu, acB (by omega)]; rfl
  unfold azC ajV
  simp only [aaM, Int.toNat_natCast, htk]
  rcases Nat.lt_or_ge q s.length with hq | hq
  ·have e1 : s.getD q 0 = s[q] := by simp [hq]
   rw [e1]
   by_cases c : s[q] = 48
   ·left
    refine ⟨(((q + 1 : Nat) : Int), ()), ?_, ⟨q + 1, by omega, rfl, ?_⟩, by dsimp only; omega, (by first | exact True.intro | rfl)⟩
    ·refine uT sd (uN sd (uT (by rw [c]; rfl) ?_))
     repeat (first | refine uV ?_ | refine uB ?_ | refine uN sd ?_ | refine uT sd ?_ | refine uF sd ?_ | refine uN (by simp) ?_)
     rw [aaK, aaA (x := (q : Int) + 1) (by omega)]; rfl
    ·intro c' hc'
     rw [List.take_succ_eq_append_getElem hq] at hc'
     rcases List.mem_append.1 hc' with hc' | hc'
     ·exact g2 c' hc'
     ·rw [List.mem_singleton.1 hc', c]
   ·right
    refine uT sd (uN sd (uF ?_ (uN sd ?_)))
    ·rw [beq_eq_false_iff_ne]
     intro h
     exact c (UInt8.toNat_inj.1 (Int.ofNat.inj h))
    ·refine fin TT.bad (Or.inr ?_)
     rw [List.drop_eq_getElem_cons hq, List.head?_cons]
     exact fun h => c (Option.some.inj h)
  ·right
   refine uF sd (uN sd ?_)
   exact fin TT.bad (Or.inl (by omega))
theorem aHz {z : Int} (h : Bd 6 z.natAbs) : ap7 (pl z, ()) = some (wrW z) := aaI (enc := fun x : Int => (pl x, ())) z h (fun b hb => avD (Prod.mk.inj hb).1)
theorem aIh (x : PlT) (y) (h : ap7 (x, ()) = some y) : (aGS x).toO = some y := by
 obtain ⟨z, hp, hx, rfl⟩ := aaD h
 obtain ⟨rfl, -⟩ := Prod.mk.inj hx
 refine uC _ (aEn hp) ?_
 dsimp only
 have hl : (aa2 z.natAbs).length ≤ 90000000000 := by
  have := aiM (k := 1000000 * 4 ^ 6) hp
  omega
 by_cases c : z < 0
 ·refine uT (decide_eq_true c) ?_
  have e : w64 (len (dec z) - 1) = ((aa2 z.natAbs).length : Int) := by
   rw [ahH c, aaC, List.length_cons, aaA (by omega)]; omega
  rw [e]
  by_cases f : Fit z
  ·rw [aiF f]
   have f' : (aa2 z.natAbs).length ≤ 600 := f
   exact uF sd rfl
  ·rw [aqP f]
   have f' : ¬ (aa2 z.natAbs).length ≤ 600 := f
   exact uT sd rfl
 ·refine uF (decide_eq_false c) ?_
  have e : len (dec z) = ((aa2 z.natAbs).length : Int) := by rw [acB (by omega)]; rfl
  rw [e]
  by_cases f : Fit z
  ·rw [aiF f]
   have f' : (aa2 z.natAbs).length ≤ 600 := f
   exact uF sd rfl
  ·rw [aqP f]
   have f' : ¬ (aa2 z.natAbs).length ≤ 600 := f
   exact uT sd rfl
theorem aiD {n : Int} (h : aa9 n) : acE (n, ()) = some (pl n, ()) := by unfold acE; rw [if_pos h]
theorem aOC {l : List Int} {x w v N : Int} (h : V 10000 l + 10000 ^ l.length * w = N) (hx : x + 10000 * v = w) : V 10000 (l ++ [x]) + 10000 ^ (l.length + 1) * v = N := by
 rw [adX, ayU, Int.pow_succ, ← h]
 have : (10000 : Int) ^ l.length * (x + 10000 * v) = 10000 ^ l.length * w := by rw [hx]
 grind
theorem ayE (n : Int) (y) (h : acE (n, ()) = some y) : (asN n).toO = some y := by
 unfold acE at h
 split at h
 case isFalse => cases h
 case isTrue hn =>
 injection h with h
 subst h
 obtain ⟨n0, n1⟩ := hn
 dsimp only at n0 n1
 refine uO (true, [], n, ()) rfl ?_
 refine aaN (fun i : Bool × List Int × Int × Unit => Dg 10000 i.2.1 ∧ i.2.2.1.natAbs ≤ n.natAbs ∧ V 10000 i.2.1 + 10000 ^ i.2.1.length * i.2.2.1.natAbs = n.natAbs ∧ (i.1 = true → i.2.1 = []) ∧ (i.2.2.1 = 0 → Cn i.2.1) ∧ i.2.1.length ≤ 6 ∧ i.2.2.1.natAbs < 10000 ^ (6 - i.2.1.length)) (fun i => i.2.2.1.natAbs) (fun _ => (pl n, ())) ?_ _ ⟨atM _, Nat.le_refl _, by simp [V], fun _ => rfl, fun _ => atN, by simp, by simp; omega⟩
 rintro ⟨f, l, v, u⟩ ⟨g1, g2, g3, g4, g5, g6, g7⟩
 dsimp only at g1 g2 g3 g4 g5 g6 g7
 by_cases hv : v = 0
 ·right
  subst hv
  have hm : abF (decide (n < 0), l, ()) = some (pl n, ()) := axT g1 (by omega) (by simp at g3; omega) (Or.inr rfl)
  cases f with
  | true =>
   obtain rfl := g4 rfl
   unfold ae1
   exact uT rfl (uF rfl (uC _ hm rfl))
  | false =>
   unfold ae1
   dsimp only
   rw [List.take_length]
   exact uF rfl (uF rfl (uC _ hm rfl))
 ·left
  have hl6 : l.length ≤ 5 := by
   rcases Nat.lt_or_ge 5 l.length with h | h
   ·have : l.length = 6 := by omega
    rw [this] at g7; simp at g7; omega
   ·exact h
  have td : (Int.tdiv v 10000).natAbs = v.natAbs / 10000 := by rw [Int.natAbs_tdiv]; rfl
  have tm : (Int.tmod v 10000).natAbs = v.natAbs % 10000 := by rw [Int.natAbs_tmod]; rfl
  have hx : ((v.natAbs % 10000 : Nat) : Int) + 10000 * ((v.natAbs / 10000 : Nat) : Int) = v.natAbs := by omega
  have wd : w64 (Int.tdiv v 10000) = Int.tdiv v 10000 := aaA (by omega)
  have wm : w64 (0 - Int.tmod v 10000) = 0 - Int.tmod v 10000 := aaA (by omega)
  have inv : Dg 10000 (l ++ [((v.natAbs % 10000 : Nat) : Int)]) ∧ (Int.tdiv v 10000).natAbs ≤ n.natAbs ∧ V 10000 (l ++ [((v.natAbs % 10000 : Nat) : Int)]) + 10000 ^ (l ++ [((v.natAbs % 10000 : Nat) : Int)]).length * ((Int.tdiv v 10000).natAbs : Int) = n.natAbs ∧ (false = true → (l ++ [((v.natAbs % 10000 : Nat) : Int)]) = []) ∧ (Int.tdiv v 10000 = 0 → Cn (l ++ [((v.natAbs % 10000 : Nat) : Int)])) ∧ (l ++ [((v.natAbs % 10000 : Nat) : Int)]).length ≤ 6 ∧ (Int.tdiv v 10000).natAbs < 10000 ^ (6 - (l ++ [((v.natAbs % 10000 : Nat) : Int)]).length) := by
   refine ⟨aeG g1 (al5 (by omega) (by omega)), by omega, ?_, by simp, ?_, by simp; omega, ?_⟩
   ·rw [List.length_append, List.length_singleton, td]
    exact aOC g3 hx
   ·intro hz
    unfold Cn
    simp only [List.getLast?_concat, ne_eq, Option.some.injEq]
    omega
   ·rw [List.length_append, List.length_singleton, td, Nat.div_lt_iff_lt_mul (by omega)]
    have h9 : 10000 ^ (6 - l.length) = 10000 ^ (6 - (l.length + 1)) * 10000 := by
     rw [← Nat.pow_succ]; congr 1; omega
    omega
  refine ⟨(false, l ++ [((v.natAbs % 10000 : Nat) : Int)], Int.tdiv v 10000, ()), ?_, inv, by dsimp only; omega, (by first | exact True.intro | rfl)⟩
  cases f with
  | true =>
   obtain rfl := g4 rfl
   simp only [ae1, wd, wm]
   by_cases c : Int.tmod v 10000 < 0
   ·refine uT rfl (uT (by simpa using hv) (uV (uT (decide_eq_true c) ?_)))
    repeat (first | refine uV ?_ | refine uB ?_ | refine uN sd ?_ | refine uT sd ?_ | refine uF sd ?_ | refine uN (by simp) ?_)
    rw [aaK, show 0 - Int.tmod v 10000 = ((v.natAbs % 10000 : Nat) : Int) by omega]; rfl
   ·refine uT rfl (uT (by simpa using hv) (uV (uF (decide_eq_false c) ?_)))
    repeat (first | refine uV ?_ | refine uB ?_ | refine uN sd ?_ | refine uT sd ?_ | refine uF sd ?_ | refine uN (by simp) ?_)
    rw [aaK, show Int.tmod v 10000 = ((v.natAbs % 10000 : Nat) : Int) by omega]; rfl
  | false =>
   simp only [ae1, wd, wm, List.take_length]
   by_cases c : Int.tmod v 10000 < 0
   ·refine uF rfl (uT (by simpa using hv) (uV (uT (decide_eq_true c) ?_)))
    repeat (first | refine uV ?_ | refine uB ?_ | refine uN sd ?_ | refine uT sd ?_ | refine uF sd ?_ | refine uN (by simp) ?_)
    rw [aaK, show 0 - Int.tmod v 10000 = ((v.natAbs % 10000 : Nat) : Int) by omega]
   ·refine uF rfl (uT (by simpa using hv) (uV (uF (decide_eq_false c) ?_)))
    repeat (first | refine uV ?_ | refine uB ?_ | refine uN sd ?_ | refine uT sd ?_ | refine uF sd ?_ | refine uN (by simp) ?_)
    rw [aaK, show Int.tmod v 10000 = ((v.natAbs % 10000 : Nat) : Int) by omega]
end Go.Vs
