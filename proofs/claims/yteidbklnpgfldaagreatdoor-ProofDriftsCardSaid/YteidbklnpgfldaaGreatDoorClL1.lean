/-
  Trees of what the functions compute, and their laws. Own work; no condition.
-/
import Derived.Test.YteidbklnpgfldaaGreatDoorClX1
import Derived.Test.YteidbklnpgfldaaGreatDoorProg
set_option linter.unusedVariables false
set_option linter.unusedSimpArgs false
set_option maxRecDepth 100000
namespace Go.Vs
open Go Go.Vg Go.Proofs
noncomputable section
def aJ1 : LTab := [(115, 7, 9217, ⟨0, (Bool) × Unit, .dat (.s 3) uU <| .nil, [5, 4, 2], [0], 0⟩), (115, 122, 12289, ⟨1, (Int) × Unit, .dat (.s 23) vC <| .nil, [22, 5, 4, 2], [0], 0⟩)]
def ayZ (a : List UInt8) (y : List UInt8 × Bool × Unit) (j : Bool × Unit) (i : (Int) × Unit) : TT (ug ⊕ (ua × Bool × Unit)) :=
 .ite (decide (i.1 < len y.1))
 (.need (inb i.1 (len y.1)) <| .ite (decide ((↑(UInt8.toNat (gi y.1 i.1 0)) : Int) < 48))
 (.ok (.inr ((([], false, ()), false, ()))))
 (.need (inb i.1 (len y.1)) <| .ite (decide ((↑(UInt8.toNat (gi y.1 i.1 0)) : Int) > 57))
 (.ok (.inr ((([], false, ()), false, ()))))
 (.tt <| .lt (w64 (i.1 + 1) : Int) fun z => .wV (wW z (len y.1) y.2.1 y.1 <| vM ∧ True) <| .wV uv <| .ok (.inl ((z, ()))))))
 (.need (asT Int 0 ≤ 0 ∧ 0 < len y.1) <| .ite ((↑(UInt8.toNat (gi y.1 0 0)) : Int) == 48)
 (.ite (y.2.1)
 (.ok (.inr ((([], false, ()), false, ()))))
 (.ite (decide (len y.1 > 1))
 (.ok (.inr ((([], false, ()), false, ()))))
 (.call (ahO (y.1, ())) Dd0 fun y1 =>
 .ok (.inr (((y1.1, y.2.1, ()), true, ()))))))
 (.call (ahO (y.1, ())) Dd0 fun y2 =>
 .ok (.inr (((y2.1, y.2.1, ()), true, ())))))
def aGa (a : List UInt8) (y : List UInt8 × Bool × Unit) (j : (Bool) × Unit) : TT (ua × Bool × Unit) :=
 .loop 1 (.tt <| .wV (wW (0 : Int) (len y.1) y.2.1 y.1 <| vM ∧ True) <| .wV uv <| .ok ((0, ()))) (ayZ a y j)
def awK (a : List UInt8) : TT (ua × Bool × Unit) :=
 .call (acR (a, #[45].toList, ())) Dd7 fun y =>
 .join 0 (ι := (Bool) × Unit) (.ite (len y.1 == 0)
 (.ok (.inr ((([], false, ()), false, ()))))
 (.ite (decide (len y.1 > 600))
 (.ok (.inr ((([], false, ()), false, ()))))
 (.tt <| .wV (ve false y.2.1 y.1 <| vM ∧ True) <| .wV uv <| .ok (.inl ((false, ())))))) (aGa a y)
def aGb : LTab := []
def aqM (a : List UInt8) : TT ui :=
 .call (aiU (a, ())) Dd9 fun y =>
 .ite (!y.2.1)
 (.ok ((10, ())))
 (.ok ((0, ())))
def aO6 : LTab := []
def aMd (n : Int) : TT ue :=
 .call (av7 (n, ())) Dd2 fun y =>
 .ok ((y.1, ()))
def aLN : LTab := []
def axT (n : List UInt8) (d : List UInt8) : TT ur :=
 .call (ahP (n, ())) Dd6 fun y =>
 .ite (y.1 != 0)
 (.ok (((#[].toList, #[].toList, ()), 10, ())))
 (.call (ahP (d, ())) Dd6 fun y1 =>
 .ite (y1.1 != 0)
 (.ok (((#[].toList, #[].toList, ()), 10, ())))
 (.call (ahX (n, ())) Dd5 fun y2 =>
 .call (ahX (d, ())) Dd5 fun y3 =>
 .call (adO (y3.1.1, ())) Dd1 fun y4 =>
 .ite (y4.1)
 (.ok (((#[].toList, #[].toList, ()), 7, ())))
 (.call (adC (y2.1.1, !y2.1.2.1 == y3.1.2.1, ())) Dd5 fun y5 =>
 .call (aiY (y5.1, y3.1.1, ())) Dd8 fun y6 =>
 .call (ahU (y6.1, ())) aQ0 fun y7 =>
 .ok (((y7.1.1, y7.1.2.1, ()), y7.2.1, ())))))
def aQj : LTab := []
def aNu (n : Int) (d : Int) : TT ur :=
 .call (atO (n, ())) Dd2 fun y =>
 .call (atO (d, ())) Dd2 fun y1 =>
 .call (am9 (y.1, y1.1, ())) aQ0 fun y2 =>
 .ok (((y2.1.1, y2.1.2.1, ()), y2.2.1, ()))
def aIM (a : List UInt8 × List UInt8 × Unit) (b : List UInt8 × List UInt8 × Unit) : TT ur :=
 .call (akO ((a.1, a.2.1, ()), ())) aR8 fun y =>
 .call (akO ((b.1, b.2.1, ()), ())) aR8 fun y1 =>
 .ite (!y.2.1)
 (.ok (((#[].toList, #[].toList, ()), 20, ())))
 (.ite (!y1.2.1)
 (.ok (((#[].toList, #[].toList, ()), 20, ())))
 (.call (adO (y1.1.1.1, ())) Dd1 fun y2 =>
 .ite (y2.1)
 (.ok (((#[].toList, #[].toList, ()), 7, ())))
 (.call (apO (((y1.1.1.1, y1.1.1.2.1, ()), y1.1.2.1, ()), ())) Dd8 fun y3 =>
 .call (aEk (((y.1.1.1, y.1.1.2.1, ()), y.1.2.1, ()), y3.1, ())) Dd8 fun y4 =>
 .call (ahU (y4.1, ())) aQ0 fun y5 =>
 .ok (((y5.1.1, y5.1.2.1, ()), y5.2.1, ())))))
end
set_option maxRecDepth 100000
open Go Go.Vg Go.Proofs
noncomputable section
def aFu : LTab := []
def avP (m : List Int) (negative : Bool) : TT (ua × Unit) :=
 .ite (negative)
 (.call (adO (m, ())) Dd1 fun y =>
 .ok (((m, !y.1, ()), ())))
 (.ok (((m, false, ()), ())))
def aIL : LTab := []
def asK (n : List Int × Bool × Unit) : TT ue :=
 .ite (n.2.1)
 (.call (agA (n.1, ())) Dd2 fun y =>
 .need (List.length #[45].toList + List.length y.1 ≤ lim) <| .ok ((#[45].toList ++ y.1, ())))
 (.call (agA (n.1, ())) Dd2 fun y1 =>
 .ok ((y1.1, ())))
def aD3 (n : List Int × Bool × Unit) (o : List Int × Bool × Unit) : TT (ua × Unit) :=
 .ite (n.2.1 == o.2.1)
 (.call (aBl (n.1, o.1, ())) Dd0 fun y =>
 .call (adC (y.1, n.2.1, ())) Dd5 fun y1 =>
 .ok (((y1.1.1, y1.1.2.1, ()), ())))
 (.call (ad0 (n.1, o.1, ())) Dd6 fun y2 =>
 .ite (decide (y2.1 < 0))
 (.call (aoN (o.1, n.1, ())) Dd0 fun y3 =>
 .call (adC (y3.1, o.2.1, ())) Dd5 fun y4 =>
 .ok (((y4.1.1, y4.1.2.1, ()), ())))
 (.call (aoN (n.1, o.1, ())) Dd0 fun y5 =>
 .call (adC (y5.1, n.2.1, ())) Dd5 fun y6 =>
 .ok (((y6.1.1, y6.1.2.1, ()), ()))))
def aFv : LTab := []
def avQ (a : List UInt8) : TT (ua × Unit) :=
 .call (acR (a, #[45].toList, ())) Dd7 fun y =>
 .call (afM (y.1, ())) Dd0 fun y1 =>
 .ok (((y1.1, y.2.1, ()), ()))
def aCV : LTab := []
def alY (s : List UInt8) (prefix0 : List UInt8) : TT (List UInt8 × Bool × Unit) :=
 .tt <| .tt <| .tt <| .tt <| .ite (decide (len s ≥ len prefix0))
 (.need (inc (len prefix0) (len s)) <| .ite (!List.take (Int.toNat (len prefix0)) s == prefix0)
 (.ok ((s, false, ())))
 (.need (inc (len prefix0) (len s)) <| .ok ((List.take (List.length s - Int.toNat (len prefix0)) (List.drop (Int.toNat (len prefix0)) s), true, ()))))
 (.ok ((s, false, ())))
def aFp : LTab := []
def an4 (x : ua × List Int × Unit) : TT ur :=
 .call (af9 (x.1.1, ())) Dd6 fun y =>
 .ite (decide (y.1 > 600))
 (.ok (((#[].toList, #[].toList, ()), 6, ())))
 (.call (af9 (x.2.1, ())) Dd6 fun y1 =>
 .ite (decide (y1.1 > 600))
 (.ok (((#[].toList, #[].toList, ()), 6, ())))
 (.call (am8 ((x.1.1, x.1.2.1, ()), ())) Dd2 fun y2 =>
 .call (agA (x.2.1, ())) Dd2 fun y3 =>
 .ok (((y2.1, y3.1, ()), 0, ()))))
def aCL : LTab := []
def alT (n : List Int × Bool × Unit) (d : List Int) : TT ((ua × List Int × Unit) × Unit) :=
 .call (aqJ (n.1, d, ())) Dd0 fun y =>
 .call (aeM (n.1, y.1, ())) Dd4 fun y1 =>
 .call (aeM (d, y.1, ())) Dd4 fun y2 =>
 .call (adC (y1.1, n.2.1, ())) Dd5 fun y3 =>
 .ok ((((y3.1.1, y3.1.2.1, ()), y2.1, ()), ()))
end
set_option maxRecDepth 100000
open Go Go.Vg Go.Proofs
noncomputable section
def aIE : LTab := []
def asB (m : List Int) : TT vW :=
 .ok ((len m == 0, ()))
def aIF : LTab := [(167, 12, 1025, ⟨0, (List Int) × Unit, .dat (.s 0) uk <| .nil, [2], [], 0⟩)]
def avL (m : List Int) (i : (List Int) × Unit) : TT (((List Int) × Unit) ⊕ vL) :=
 .ite (decide (len i.1 > 0))
 (.need (inb (w64 (len i.1 - 1)) (len i.1)) <| .ite (gi i.1 (w64 (len i.1 - 1)) 0 == 0)
 (.need (inc (w64 (len i.1 - 1)) (len i.1)) <| .tt <| .lt (List.take (Int.toNat (w64 (len i.1 - 1))) i.1 : List Int) fun z => .wV (wY z <| True ∧ True) <| .tr <| .ok (.inl ((z, ()))))
 (.ok (.inr ((i.1, ())))))
 (.ok (.inr ((i.1, ()))))
def asC (m : List Int) : TT vL :=
 .loop 0 (.tt <| .wV (wY m <| True ∧ True) <| .tr <| .ok ((m, ()))) (avL m)
def aFr : LTab := [(168, 58, 6144, ⟨0, (Int) × (Int) × Unit, .dat (.s 4) vC <| .dat (.s 3) vU <| .nil, [2, 0], [], 0⟩)]
def asF (m : List Int) (i : (Int) × (Int) × Unit) : TT (vJ ⊕ ui) :=
 .ite (decide (i.1 ≥ 0))
 (.need (inb i.1 (len m)) <| .tt <| .lt (w64 (i.1 - 1) : Int) fun z1 => .lt (abG (abG (i.2.1 * 1000000000) + abG (gi m i.1 0)) : Int) fun z2 => .wV (vh z2 z1 (0 : Int) m) <| .tr <| .ok (.inl ((z1, z2, ()))))
 (.ok (.inr ((i.2.1, ()))))
def avM (m : List Int) : TT ui :=
 .loop 0 (.tt <| .lt (w64 (len m - 1) : Int) fun z => .wV (vh (0 : Int) z (0 : Int) m) <| .tr <| .ok ((z, 0, ()))) (asF m)
def aAE : LTab := [(124, 58, 10240, ⟨0, (Int) × Unit, .dat (.s 5) vC <| .nil, [0, 1], [], 0⟩)]
def amS (m : List Int) (o : List Int) (i : (Int) × Unit) : TT (ug ⊕ ui) :=
 .ite (decide (i.1 ≥ 0))
 (.need (inb i.1 (len m)) <| .need (inb i.1 (len o)) <| .ite (gi m i.1 0 != gi o i.1 0)
 (.need (inb i.1 (len m)) <| .need (inb i.1 (len o)) <| .tt <| .tt <| .tt <| .tt <| .tt <| .tt <| .ite (gi m i.1 0 != gi m i.1 0)
 (.ite (gi o i.1 0 != gi o i.1 0)
 (.ok (.inr ((0, ()))))
 (.ok (.inr ((-1, ())))))
 (.ite (gi o i.1 0 != gi o i.1 0)
 (.ok (.inr ((1, ()))))
 (.ite (decide (gi m i.1 0 < gi o i.1 0))
 (.ok (.inr ((-1, ()))))
 (.ite (decide (gi m i.1 0 > gi o i.1 0))
 (.ok (.inr ((1, ()))))
 (.ok (.inr ((0, ()))))))))
 (.tt <| .lt (w64 (i.1 - 1) : Int) fun z1 => .wV (vj z1 m o) <| .tr <| .ok (.inl ((z1, ())))))
 (.ok (.inr ((0, ()))))
def ajS (m : List Int) (o : List Int) : TT ui :=
 .ite (len m != len o)
 (.tt <| .tt <| .tt <| .tt <| .tt <| .tt <| .ite (len m != len m)
 (.ite (len o != len o)
 (.ok ((0, ())))
 (.ok ((-1, ()))))
 (.ite (len o != len o)
 (.ok ((1, ())))
 (.ite (decide (len m < len o))
 (.ok ((-1, ())))
 (.ite (decide (len m > len o))
 (.ok ((1, ())))
 (.ok ((0, ())))))))
 (.loop 0 (.tt <| .lt (w64 (len m - 1) : Int) fun z => .wV (vj z m o) <| .tr <| .ok ((z, ()))) (amS m o))
def aFq : LTab := [(171, 58, 11265, ⟨0, (Int) × (List Int) × Unit, .dat (.s 19) vC <| .row 6 vH <| .nil, [18, 17, 5, 4, 1], [6], 0⟩), (171, 59802, 21505, ⟨1, (Int) × (Int) × (List Int) × Unit, .dat (.s 26) vC <| .dat (.s 8) vU <| .row 6 vH <| .nil, [25, 24, 7, 6, 23, 22, 21, 20, 19, 18, 17, 5, 4, 1], [6], 0⟩)]
def alP (m : List Int) (o : List Int) (i : Int × List Int × Unit) (i1 : (Int) × (Int) × (List Int) × Unit) : TT (uf ⊕ uj) :=
 .ite (decide (i1.1 < len o))
 (.need (inb i1.1 (len o)) <| .need (inb (w64 (i.1 + i1.1)) (↑(Int.toNat (w64 (len m + len o))) : Int)) <| .triv (asT Int 1000000000 ≠ 0) zc <| .need (inb (w64 (i.1 + i1.1)) (↑(Int.toNat (w64 (len m + len o))) : Int)) <| .triv (asT Int 1000000000 ≠ 0) zc <| .tt <| .lt (w64 (i1.1 + 1) : Int) fun z2 => .lt (abG (Int.tdiv (abG (i1.2.1 + abG (abG (List.getD i1.2.2.1 (0 + Int.toNat (w64 (i.1 + i1.1))) 0) + abG (abG (gi m i.1 0) * abG (gi o i1.1 0))))) 1000000000) : Int) fun z3 => .lt (List.set i1.2.2.1 (0 + Int.toNat (w64 (i.1 + i1.1))) (agC (Int.tmod (abG (i1.2.1 + abG (abG (List.getD i1.2.2.1 (0 + Int.toNat (w64 (i.1 + i1.1))) 0) + abG (abG (gi m i.1 0) * abG (gi o i1.1 0))))) 1000000000)) : List Int) fun z4 => .wV (vk z3 z2 (len o) o (gi m i.1 0) i.1 (gi m i.1 0) (gi m i.1 0) <| vl i.1 (decide (i.1 < len m)) i.1 (len m) m <| (vo 6 0 (Int.toNat (w64 (len m + len o))) true) ∧ True ∧ wZ o) <| .wV (wU (vq 211 z4) True) <| .ok (.inl ((z2, z3, z4, ()))))
 (.need (inb (w64 (i.1 + len o)) (↑(Int.toNat (w64 (len m + len o))) : Int)) <| .tt <| .lt (w64 (i.1 + 1) : Int) fun z5 => .lt (List.set i1.2.2.1 (0 + Int.toNat (w64 (i.1 + len o))) (agC i1.2.1) : List Int) fun z6 => .wV (ve z5 (len m) m <| (vo 6 0 (Int.toNat (w64 (len m + len o))) true) ∧ True ∧ wZ o) <| .wV (wU (vq 211 z6) True) <| .ok (.inr (.inl ((z5, z6, ())))))
def asE (m : List Int) (o : List Int) (i : (Int) × (List Int) × Unit) : TT uj :=
 .ite (decide (i.1 < len m))
 (.need (inb i.1 (len m)) <| .loop 1 (.tt <| .lt (i.2.1 : List Int) fun z1 => .wV (vk (0 : Int) (0 : Int) (len o) o (gi m i.1 0) i.1 (gi m i.1 0) (gi m i.1 0) <| vl i.1 (decide (i.1 < len m)) i.1 (len m) m <| (vo 6 0 (Int.toNat (w64 (len m + len o))) true) ∧ True ∧ wZ o) <| .wV (wU (vq 211 z1) True) <| .ok ((0, 0, z1, ()))) (alP m o i))
 (.call (acK (List.take (Int.toNat (w64 (len m + len o))) i.2.1, ())) Dd0 fun y =>
 .ok (.inr ((y.1, ()))))
def an6 (m : List Int) (o : List Int) : TT vL :=
 .need (0 ≤ w64 (len m + len o) ∧ w64 (len m + len o) ≤ w64 (len m + len o) ∧ w64 (len m + len o) * (↑4 : Int) ≤ 140737488355328) <| .loop 0 (.tt <| .lt (List.replicate (Int.toNat (w64 (len m + len o))) 0 : List Int) fun z => .wV (ve (0 : Int) (len m) m <| (vo 6 0 (Int.toNat (w64 (len m + len o))) true) ∧ True ∧ wZ o) <| .wV (wU (vq 211 z) True) <| .ok ((0, z, ()))) (asE m o)
def aFs : LTab := [(170, 122, 11265, ⟨0, (Int) × (Int) × (List Int) × Unit, .dat (.s 8) vC <| .dat (.s 7) vU <| .row 4 vH <| .nil, [6, 5, 4, 0, 1], [4], 0⟩)]
def alQ (m : List Int) (d : Int) (i : (Int) × (Int) × (List Int) × Unit) : TT (uf ⊕ uy) :=
 .ite (decide (i.1 ≥ 0))
 (.need (inb i.1 (len m)) <| .need (abG d ≠ 0) <| .need (inb i.1 (↑(Int.toNat (len m)) : Int)) <| .need (abG d ≠ 0) <| .tt <| .lt (w64 (i.1 - 1) : Int) fun z2 => .lt (Int.tmod (abG (abG (i.2.1 * 1000000000) + abG (gi m i.1 0))) (abG d) : Int) fun z3 => .lt (List.set i.2.2.1 (0 + Int.toNat i.1) (agC (abG (Int.tdiv (abG (abG (i.2.1 * 1000000000) + abG (gi m i.1 0))) (abG d)))) : List Int) fun z4 => .wV (vt z3 z2 <| (vo 4 0 (Int.toNat (len m)) true) ∧ (wY (0 : Int) <| True ∧ vu m d)) <| .wV (wU (vq 211 z4) True) <| .ok (.inl ((z2, z3, z4, ()))))
 (.call (acK (List.take (Int.toNat (len m)) i.2.2.1, ())) Dd0 fun y =>
 .ok (.inr ((y.1, agC i.2.1, ()))))
def an7 (m : List Int) (d : Int) : TT uy :=
 .need (0 ≤ len m ∧ len m ≤ len m ∧ len m * (↑4 : Int) ≤ 140737488355328) <| .loop 0 (.tt <| .lt (w64 (len m - 1) : Int) fun z => .lt (List.replicate (Int.toNat (len m)) 0 : List Int) fun z1 => .wV (vt (0 : Int) z <| (vo 4 0 (Int.toNat (len m)) true) ∧ (wY (0 : Int) <| True ∧ vu m d)) <| .wV (wU (vq 211 z1) True) <| .ok ((z, 0, z1, ()))) (alQ m d)
def axS : LTab := [(169, 28, 2050, ⟨0, Bool × (List Int) × (Int) × Unit, .appN (.s 3) 2 211 vH <| .dat (.s 0) vU <| .nil, [2], [], 1⟩)]
def adN (v : Int) (i : Bool × (List Int) × (Int) × Unit) : TT ((Bool × (List Int) × (Int) × Unit) ⊕ vL) :=
 .ite (i.1)
 (.ite (decide (i.2.2.1 > 0))
 (.triv (asT Int 1000000000 ≠ 0) zc <| .need (1 * 4 ≤ 140737488355328) <| .triv (asT Int 1000000000 ≠ 0) zc <| .tt <| .lt ([agC (Int.tmod i.2.2.1 1000000000)] : List Int) fun z => .lt (abG (Int.tdiv i.2.2.1 1000000000) : Int) fun z1 => .wV (wY z1 <| (vo 2 0 1 true) ∧ True ∧ True) <| .wV (wU (vq 211 z) True) <| .ok (.inl ((false, z, z1, ()))))
 (.ok (.inr (([], ())))))
 (.ite (decide (i.2.2.1 > 0))
 (.triv (asT Int 1000000000 ≠ 0) zc <| .need ((List.length i.2.1 + 1) * 4 ≤ 140737488355328) <| .triv (asT Int 1000000000 ≠ 0) zc <| .tt <| .lt (List.take (List.length i.2.1) i.2.1 ++ [agC (Int.tmod i.2.2.1 1000000000)] : List Int) fun z2 => .lt (abG (Int.tdiv i.2.2.1 1000000000) : Int) fun z3 => .need (((z3 : Int) = z3) ∧ (((2) = (2)) ∧ (((0) = (0)) ∧ ((List.length i.2.1 + 1 = List.length z2) ∧ ((true) = (true))))) ∧ True ∧ True) <| .wV (wU (vq 211 z2) True) <| .ok (.inl ((false, z2, z3, ()))))
 (.ok (.inr ((List.take (List.length i.2.1) i.2.1, ())))))
def amU (v : Int) : TT vL :=
 .loop 0 (.tt <| .wV (wY v <| True ∧ True ∧ True) <| .tr <| .ok ((true, [], v, ()))) (adN v)
def aFw : LTab := [(117, 218, 5122, ⟨0, (Int) × Bool × (List Int) × Unit, .dat (.s 4) vC <| .appN (.s 3) 5 211 vH <| .nil, [2, 0], [], 1⟩), (117, 55834, 13314, ⟨1, (Int) × (Int) × Unit, .dat (.s 7) vC <| .dat (.s 6) vH <| .nil, [15, 5, 14, 13, 12, 3, 4, 2, 0], [], 0⟩), (117, 55834, 13313, ⟨2, (Int) × (Int) × Unit, .dat (.s 7) vC <| .dat (.s 6) vH <| .nil, [15, 5, 14, 13, 12, 3, 4, 2, 0], [5], 0⟩)]
def aiN (digits : List UInt8) (i : Int × Bool × List Int × Unit) (i1 : (Int) × (Int) × Unit) : TT (vJ ⊕ (vP ⊕ vL)) :=
 .ite (decide (i1.1 < i.1))
 (.need (inb i1.1 (len digits)) <| .tt <| .lt (w64 (i1.1 + 1) : Int) fun z1 => .lt (agC (agC (i1.2.1 * 10) + agC (wu8 ((↑(UInt8.toNat (gi digits i1.1 0)) : Int) - 48))) : Int) fun z2 => .wV (vw z2 z1 (if 0 > w64 (i.1 - 9) then 0 else w64 (i.1 - 9) : Int) (if 0 > w64 (i.1 - 9) then 0 else w64 (i.1 - 9) : Int) (if 0 > w64 (i.1 - 9) then 0 else w64 (i.1 - 9) : Int) (w64 (i.1 - 9)) i.1 <| True ∧ (wY i.1 <| True ∧ wZ digits)) <| .tr <| .ok (.inl ((z1, z2, ()))))
 (.need (1 * 4 ≤ 140737488355328) <| .ite ((if 0 > w64 (i.1 - 9) then 0 else w64 (i.1 - 9)) == 0)
 (.call (acK ([i1.2.1], ())) Dd0 fun y =>
 .ok (.inr (.inr ((y.1, ())))))
 (.tt <| .lt (w64 (i.1 - 9) : Int) fun z3 => .lt ([i1.2.1] : List Int) fun z4 => .wV ((vo 5 0 1 true) ∧ (wY z3 <| True ∧ wZ digits)) <| .wV (wU (vq 211 z4) True) <| .ok (.inr (.inl ((z3, false, z4, ()))))))
def aiM (digits : List UInt8) (i : Int × Bool × List Int × Unit) (i2 : (Int) × (Int) × Unit) : TT (vJ ⊕ (vP ⊕ vL)) :=
 .ite (decide (i2.1 < i.1))
 (.need (inb i2.1 (len digits)) <| .tt <| .lt (w64 (i2.1 + 1) : Int) fun z6 => .lt (agC (agC (i2.2.1 * 10) + agC (wu8 ((↑(UInt8.toNat (gi digits i2.1 0)) : Int) - 48))) : Int) fun z7 => .wV (vw z7 z6 (if 0 > w64 (i.1 - 9) then 0 else w64 (i.1 - 9) : Int) (if 0 > w64 (i.1 - 9) then 0 else w64 (i.1 - 9) : Int) (if 0 > w64 (i.1 - 9) then 0 else w64 (i.1 - 9) : Int) (w64 (i.1 - 9)) i.1 <| (vo 5 0 (List.length i.2.2.1) true) ∧ (wY i.1 <| True ∧ wZ digits)) <| .wV (wU (vq 211 i.2.2.1) True) <| .ok (.inl ((z6, z7, ()))))
 (.need ((List.length i.2.2.1 + 1) * 4 ≤ 140737488355328) <| .ite ((if 0 > w64 (i.1 - 9) then 0 else w64 (i.1 - 9)) == 0)
 (.call (acK (List.take (List.length i.2.2.1 + 1) (List.take (List.length i.2.2.1) i.2.2.1 ++ [i2.2.1]), ())) Dd0 fun y1 =>
 .ok (.inr (.inr ((y1.1, ())))))
 (.tt <| .lt (w64 (i.1 - 9) : Int) fun z8 => .lt (List.take (List.length i.2.2.1) i.2.2.1 ++ [i2.2.1] : List Int) fun z9 => .need ((((5) = (5)) ∧ (((0) = (0)) ∧ ((List.length i.2.2.1 + 1 = List.length z9) ∧ ((true) = (true))))) ∧ ((z8 : Int) = z8) ∧ True ∧ ((digits) = (digits)) ∧ True) <| .wV (wU (vq 211 z9) True) <| .ok (.inr (.inl ((z8, false, z9, ()))))))
def alU (digits : List UInt8) (i : (Int) × Bool × (List Int) × Unit) : TT (vP ⊕ vL) :=
 .ite (i.2.1)
 (.loop 1 (.tt <| .lt (if 0 > w64 (i.1 - 9) then 0 else w64 (i.1 - 9) : Int) fun z => .wV (vw (0 : Int) z z z z (w64 (i.1 - 9)) i.1 <| True ∧ (wY i.1 <| True ∧ wZ digits)) <| .tr <| .ok ((z, 0, ()))) (aiN digits i))
 (.loop 2 (.tt <| .lt (if 0 > w64 (i.1 - 9) then 0 else w64 (i.1 - 9) : Int) fun z5 => .wV (vw (0 : Int) z5 z5 z5 z5 (w64 (i.1 - 9)) i.1 <| (vo 5 0 (List.length i.2.2.1) true) ∧ (wY i.1 <| True ∧ wZ digits)) <| .wV (wU (vq 211 i.2.2.1) True) <| .ok ((z5, 0, ()))) (aiM digits i))
def an9 (digits : List UInt8) : TT vL :=
 .loop 0 (.tt <| .wV (True ∧ (wY (len digits) <| True ∧ wZ digits)) <| .tr <| .ok ((len digits, true, [], ()))) (alU digits)
def aCH : LTab := []
def alR (m : List Int) : TT ui :=
 .call (adO (m, ())) Dd1 fun y =>
 .ite (y.1)
 (.ok ((1, ())))
 (.need (inb (w64 (len m - 1)) (len m)) <| .call (av7 (w64 (gi m (w64 (len m - 1)) 0), ())) Dd2 fun y1 =>
 .ok ((w64 (w64 (w64 (len m - 1) * 9) + len y1.1), ())))
def aLK : LTab := [(118, 12, 1025, ⟨0, (List Int) × (List Int) × Unit, .dat (.s 0) uk <| .dat (.s 1) uk <| .nil, [], [], 0⟩), (118, 196, 4096, ⟨1, (Bool) × Unit, .dat (.s 19) uU <| .nil, [1, 0], [], 0⟩), (118, 6292, 10240, ⟨2, (Int) × (Int) × Unit, .dat (.s 6) vU <| .dat (.s 5) vU <| .nil, [23, 22, 21, 20, 19, 1, 0], [], 0⟩)]
def aAC (m : List Int) (o : List Int) (i : List Int × List Int × Unit) (y : Bool × Unit) (j : Bool × Unit) (y1 : Int × Unit) (y2 : Int × Unit) (i1 : (Int) × (Int) × Unit) : TT (vJ ⊕ (um ⊕ vL)) :=
 .ite (decide (i1.1 > 0))
 (.need (i1.1 ≠ 0) <| .tt <| .lt (Int.tmod i1.2.1 i1.1 : Int) fun z1 => .wV (vk i1.1 z1 y2.1 i.2.1 y1.1 i.1 j.1 i.2.1 <| wZ i.1) <| .tr <| .ok (.inl ((z1, i1.1, ()))))
 (.call (acQ (i1.2.1, ())) Dd0 fun y3 =>
 .ok (.inr (.inr ((y3.1, ())))))
def asG (m : List Int) (o : List Int) (i : List Int × List Int × Unit) (y : Bool × Unit) (j : (Bool) × Unit) : TT (um ⊕ vL) :=
 .ite (j.1)
 (.call (akN (i.1, ())) Dd3 fun y1 =>
 .call (akN (i.2.1, ())) Dd3 fun y2 =>
 .loop 2 (.tt <| .wV (vk y1.1 y2.1 y2.1 i.2.1 y1.1 i.1 j.1 i.2.1 <| wZ i.1) <| .tr <| .ok ((y2.1, y1.1, ()))) (aAC m o i y j y1 y2))
 (.call (aeM (i.1, i.2.1, ())) Dd4 fun y4 =>
 .tt <| .lt (i.2.1 : List Int) fun z2 => .lt (y4.2.1 : List Int) fun z3 => .wV (vu z3 z2) <| .tr <| .ok (.inl ((z2, z3, ()))))
def aAD (m : List Int) (o : List Int) (i : (List Int) × (List Int) × Unit) : TT (um ⊕ vL) :=
 .call (adO (i.2.1, ())) Dd1 fun y =>
 .ite (!y.1)
 (.join 1 (ι := (Bool) × Unit) (.ite (decide (len i.1 ≤ 2))
 (.tt <| .lt (decide (len i.2.1 ≤ 2) : Bool) fun z => .wV (vj z i.2.1 i.1) <| .tr <| .ok (.inl ((z, ()))))
 (.tt <| .wV (vj false i.2.1 i.1) <| .tr <| .ok (.inl ((false, ()))))) (asG m o i y))
 (.ok (.inr ((i.1, ()))))
def axO (m : List Int) (o : List Int) : TT vL :=
 .loop 0 (.tt <| .wV (vu o m) <| .tr <| .ok ((m, o, ()))) (aAD m o)
end
open Go Go.Vg
theorem awO {l : List Int} (h : Dg 1000000000 l) (hl : l.length ≤ 2000000000000) {n : Nat} (hv : V 1000000000 l = n) : acK (l, ()) = some (mag n, ()) := by
 unfold acK
 rw [if_pos ⟨h, hl⟩]
 simp only [hv, zn]
theorem aNR {p q : Int × Nat} (h : (sg p.1, mag p.2, ()) = (sg q.1, mag q.2, ())) : p = q := by
 obtain ⟨h1, h2⟩ := Prod.mk.inj h
 obtain ⟨h2, -⟩ := Prod.mk.inj h2
 exact Prod.ext (aGm h1) (afU h2)
theorem aKr {p q : Rat × Rat} (h : (rt p.1, rt p.2, ()) = (rt q.1, rt q.2, ())) : p = q := by
 obtain ⟨h1, h2⟩ := Prod.mk.inj h
 obtain ⟨h2, -⟩ := Prod.mk.inj h2
 exact Prod.ext (aDt h1) (aDt h2)
theorem aAJ (m : List Int) (negative : Bool) (y) (h : adC (m, negative, ()) = some y) : (avP m negative).toO = some y := by
 injection h with h
 subst h
 cases negative
 ·rfl
 ·exact uT rfl (uC (len m == 0, ()) rfl rfl)
theorem ahZ {n : Nat} {b : Bool} {w : Int} (hn : n = w.natAbs) (hb : w = 0 ∨ b = decide (w < 0)) : adC (mag n, b, ()) = some (sg w, ()) := by
 subst hn
 unfold adC sg
 rcases hb with rfl | rfl
 ·simp [mag_zero, len]
 ·by_cases h0 : w = 0
  ·subst h0; simp
  ·have : (len (mag w.natAbs) == 0) = false := by
    have h1 : mag w.natAbs ≠ [] := fun h2 => by have := mag_nil_iff.1 h2; omega
    have h3 : (mag w.natAbs).length ≠ 0 := fun h2 => h1 (yk.1 h2)
    rw [aaB, beq_eq_false_iff_ne]; omega
   simp only [this, Bool.not_false, Bool.and_true]
theorem aO2 (n o : SgT) (y) (h : aL5 (n, o, ()) = some y) : (aD3 n o).toO = some y := by
 obtain ⟨⟨a, b⟩, hp, hx, rfl⟩ := aaP h
 obtain ⟨rfl, hx2⟩ := Prod.mk.inj hx; obtain ⟨rfl, -⟩ := Prod.mk.inj hx2; dsimp only
 obtain ⟨l1, l2⟩ := hp
 simp only at l1 l2
 unfold aD3
 dsimp only
 by_cases hs : (decide (a < 0) == decide (b < 0)) = true
 ·refine uT hs ?_
  have hs' : (a < 0 ↔ b < 0) := by simpa using hs
  refine uC _ (aJM (acE l1 zb) (acE l2 zb)) ?_
  refine uC (sg (a + b), ()) (ahZ zb (Or.inr ?_)) rfl
  exact decide_eq_decide.2 zb
 ·have hs' : ¬ (a < 0 ↔ b < 0) := by simpa using hs
  refine uF (by simpa using hs) ?_
  refine uC _ (aBq (acE l1 zb) (acE l2 zb)) ?_
  by_cases hc : a.natAbs < b.natAbs
  ·refine uT ?_ ?_
   ·unfold aBx; rw [if_pos zb]; rfl
   ·refine uC _ (awB (acE l2 zb) zb) ?_
    refine uC (sg (a + b), ()) (ahZ zb (Or.inr ?_)) rfl
    exact decide_eq_decide.2 zb
  ·refine uF ?_ ?_
   ·unfold aBx
    rw [if_neg zb]
    split <;> rfl
   ·refine uC _ (awB (acE l1 zb) zb) ?_
    refine uC (sg (a + b), ()) (ahZ zb ?_) rfl
    by_cases h0 : a + b = 0
    ·exact Or.inl h0
    ·exact Or.inr (decide_eq_decide.2 zb)
theorem aJN {a : Int} (h1 : Bd 0 a.natAbs) : am8 (sg a, ()) = some (dec a, ()) := aa0 (enc := fun x : Int => (sg x, ())) a h1 (fun b hb => aGm (Prod.mk.inj hb).1)
theorem aLX {n : Nat} (h : Bd 0 n) : (ab1 n).length ≤ 9000001 := by
 have := ag3 (k := 1000000 * 4 ^ 0) h
 omega
theorem aCK (n : SgT) (y) (h : am8 (n, ()) = some y) : (asK n).toO = some y := by
 obtain ⟨a, hp, hx, rfl⟩ := aaP h
 obtain ⟨rfl, -⟩ := Prod.mk.inj hx
 unfold asK
 dsimp only
 have hl := aLX hp
 by_cases h0 : a < 0
 ·refine uT zg (uC _ (al4 hp) (uN ?_ ?_))
  ·show 1 + (ab1 a.natAbs).length ≤ lim
   unfold lim; omega
  ·rw [aiP h0]; rfl
 ·refine uF zg (uC _ (al4 hp) ?_)
  rw [ac9 zb]; rfl
theorem ax5 (s p : List UInt8) (hs : s.length ≤ 4611686018427387904) (y) (h : acR (s, p, ()) = some y) : (alY s p).toO = some y := by
 injection h with h
 subst h
 unfold alY
 dsimp only
 rcases zD s.length p.length with hl | hl
 ·repeat refine za ?_
  have : p.isPrefixOf s = false := by
   cases hp : p.isPrefixOf s with
   | false => rfl
   | true => have := (wk.1 hp).length_le; omega
  simp [this, aaM]
 ·refine uV (uV (uV (uV (uT sd (uN sd ?_)))))
  simp only [aaB, zn]
  by_cases hp : p.isPrefixOf s = true
  ·have h2 := List.prefix_iff_eq_take.1 (wk.1 hp)
   refine uF (by rw [← h2]; simp) (uN sd ?_)
   rw [if_pos hp, zr zf]; rfl
  ·refine uT ?_ ?_
   ·simp only [zK, beq_eq_false_iff_ne]
    intro h2
    exact hp (wk.2 (List.prefix_iff_eq_take.2 h2.symm))
   ·rw [if_neg hp]; rfl
theorem aBr (z : Int) : acR (dec z, #[45].toList, ()) = some (ab1 z.natAbs, decide (z < 0), ()) := by
 unfold acR
 show some (if [45].isPrefixOf (dec z) = true then _ else _) = _
 by_cases h : z < 0
 ·rw [aiP h, zm h]
  simp [List.isPrefixOf]
 ·rw [ac9 zb, zk h]
  have : [45].isPrefixOf (ab1 z.natAbs) = false := by
   have := aeB z.natAbs
   cases hd : ab1 z.natAbs with
   | nil => rfl
   | cons a l =>
    rw [hd] at this
    simp only [wQ, ne_eq, Option.some.injEq] at this
    simp [List.isPrefixOf, Ne.symm this]
  rw [this]; simp
theorem awC {z : Int} (h : Bd 7 z.natAbs) : ahX (dec z, ()) = some (sg z, ()) := aa0 (enc := fun x : Int => (dec x, ())) z h (fun b hb => aCU (Prod.mk.inj hb).1)
theorem aAK (a : List UInt8) (y) (h : ahX (a, ()) = some y) : (avQ a).toO = some y := by
 obtain ⟨z, hp, hx, rfl⟩ := aaP h
 obtain ⟨rfl, -⟩ := Prod.mk.inj hx
 exact uC _ (aBr z) (uC _ (aF0 (acE hp zb)) rfl)
theorem aBz {q : Rat} (h : aNI q) : wrF q = (fx q, 0, ()) := if_pos h
theorem awJ {q : Rat} (h : ¬ aNI q) : wrF q = (([], [], ()), 6, ()) := if_neg h
theorem awH {z : Int} (h : Fit z) : wrW z = (dec z, 0, ()) := if_pos h
theorem awI {z : Int} (h : ¬ Fit z) : wrW z = ([], 6, ()) := if_neg h
theorem awA {q : Rat} (h : BdQ 8 q) : ahU (rt q, ()) = some (wrF q) := aa0 (enc := fun x : Rat => (rt x, ())) q h (fun b hb => aDt (Prod.mk.inj hb).1)
theorem aAx (x : RtT) (y) (h : ahU (x, ()) = some y) : (an4 x).toO = some y := by
 obtain ⟨q, hp, hx, rfl⟩ := aaP h
 obtain ⟨rfl, -⟩ := Prod.mk.inj hx
 obtain ⟨h1, h2⟩ := hp
 unfold an4
 dsimp only
 refine uC _ (atU h1) ?_
 by_cases hf : Fit q.num
 ·have hf' : (ab1 q.num.natAbs).length ≤ 600 := hf
  refine uF zg ?_
  refine uC _ (atU h2) ?_
  by_cases hg : Fit q.den
  ·have hg' : (ab1 q.den).length ≤ 600 := hg
   rw [aBz ⟨hf, hg⟩]
   refine uF zg ?_
   exact uC _ (aJN (aBc hf)) (uC _ (al4 (aBc hg)) rfl)
  ·have hg' : ¬ (ab1 q.den).length ≤ 600 := hg
   rw [awJ (fun h => hg h.2)]
   exact uT zg rfl
 ·have hf' : ¬ (ab1 q.num.natAbs).length ≤ 600 := hf
  rw [awJ (fun h => hf h.1)]
  exact uT zg rfl
theorem aBL {g : Nat} {t n : Int} (h : n = g * t) (g0 : g ≠ 0) : (n < 0 ↔ t < 0) ∧ (n = 0 ↔ t = 0) := by
 subst h
 rcases Int.lt_trichotomy t 0 with h | h | h
 ·have := Int.mul_neg_of_pos_of_neg (show (0 : Int) < g by omega) h
  omega
 ·subst h; simp
 ·have := Int.mul_pos (show (0 : Int) < g by omega) h
  omega
theorem afK {g : Nat} {t n : Int} (h : n = g * t) (g0 : g ≠ 0) : n.natAbs / g = t.natAbs := by
 rw [h, xL, xf, xq _ zb]
theorem aDc {n : Int} {d : Nat} (h1 : Bd 7 n.natAbs) (h2 : Bd 7 d) (h3 : d ≠ 0) : aiY (sg n, mag d, ()) = some (rt (mkRat n d), ()) := aa0 (enc := fun x : Int × Nat => (sg x.1, mag x.2, ())) (n, d) ⟨h1, h2, h3⟩ (fun b hb => aNR hb)
theorem axR (n : SgT) (d : List Int) (y) (h : aiY (n, d, ()) = some y) : (alT n d).toO = some y := by
 obtain ⟨⟨a, b⟩, hp, hx, rfl⟩ := aaP h
 obtain ⟨rfl, hx2⟩ := Prod.mk.inj hx; obtain ⟨rfl, -⟩ := Prod.mk.inj hx2; dsimp only
 obtain ⟨l1, l2, l3⟩ := hp
 simp only at l1 l2 l3
 obtain ⟨g, t, hg, g0, hn, e1, e2⟩ := afS a l3
 have hs := aBL hn g0
 have ha := afK hn g0
 unfold alT
 dsimp only
 have bg : Bd 7 g := by rw [hg]; repeat (first | assumption | exact acE zi zb | exact aeP zb | refine apM ?_ ?_ | refine ae8 _ ?_ | refine apL _ ?_ | refine af4 ?_ ?_ | refine aeY ?_ ?_ | refine ai3 ?_ | refine amZ ?_ ?_ | refine am0 ?_ ?_ | refine atF ?_)
 refine uC (mag g, ()) (by rw [aMb zd zd, hg]) ?_
 refine uC _ (atV zd zd g0) ?_
 refine uC _ (atV zd zd g0) ?_
 refine uC (sg t, ()) (ahZ ha (Or.inr (decide_eq_decide.2 hs.1))) ?_
 show some (((sg t), mag (b / g), ()), ()) = some (rt (mkRat a b), ())
 unfold rt
 rw [e1, e2]
theorem aBo {q : Rat} (h : BdQ 7 q) (h0 : q ≠ 0) : apO (rt q, ()) = some (rt q⁻¹, ()) := aa0 (enc := fun x : Rat => (rt x, ())) q ⟨h, h0⟩ (fun b hb => aDt (Prod.mk.inj hb).1)
theorem aNk {q : Rat} (h : q ≠ 0) : q.num ≠ 0 := fun h2 => h (Rat.num_eq_zero.1 h2)
theorem aIn {q : Rat} (h : q ≠ 0) : (q⁻¹).num.natAbs = q.den ∧ ((q⁻¹).num < 0 ↔ q.num < 0) ∧ (q⁻¹).den = q.num.natAbs := by
 have h1 := aNk h
 have h2 := q.den_pos
 rw [Rat.num_inv, Rat.den_inv, if_neg h1]
 rcases yi q.num 0 with h3 | h3
 ·rw [Int.sign_eq_neg_one_of_neg h3]; omega
 ·rw [Int.sign_eq_one_of_pos zb]; omega
theorem aMa {p q : Rat} (h : BdQ 3 p) (h2 : BdQ 3 q) : aEk (rt p, rt q, ()) = some (rt (p * q), ()) := aa0 (enc := fun x : Rat × Rat => (rt x.1, rt x.2, ())) (p, q) ⟨h, h2⟩ (fun b hb => aKr hb)
theorem aN4 {s t : List UInt8} {b : Bool} (hc : acR (s, #[45].toList, ()) = some (t, b, ())) (h : ¬ (isD t ∧ t ≠ [] ∧ t.length ≤ 600 ∧ (t.head? = some 48 → b = false ∧ t.length = 1))) : rdW s = none := by
 refine aKu fun z hz he => h ?_
 rw [← he, aBr] at hc
 injection hc with hc
 obtain ⟨rfl, h2⟩ := Prod.mk.inj hc
 obtain ⟨rfl, -⟩ := Prod.mk.inj h2
 refine ⟨aqA _, aiQ _, hz, fun h0 => ?_⟩
 by_cases hn : z.natAbs = 0
 ·rw [hn, ab5 zb]
  exact ⟨zk zb, rfl⟩
 ·exact absurd h0 (aJc hn)
theorem aN3 {s t : List UInt8} {b : Bool} (hc : acR (s, #[45].toList, ()) = some (t, b, ())) (h1 : isD t) (h2 : t ≠ []) (h3 : t.length ≤ 600) (h4 : t.head? = some 48 → b = false ∧ t.length = 1) : ∃ z : Int, rdW s = some z ∧ z.natAbs = num t ∧ decide (z < 0) = b := by
 have hu : t = ab1 (num t) := aAZ h1 h2 (by
  by_cases h0 : t.head? = some 48
  ·exact Or.inr (h4 h0).2
  ·exact Or.inl h0)
 have hs : s = if b then 45 :: t else t := by
  injection hc with hc
  simp only at hc
  split at hc
  ·rename_i hp
   obtain ⟨e1, e2⟩ := Prod.mk.inj hc
   obtain ⟨rfl, -⟩ := Prod.mk.inj e2
   cases s with
   | nil => cases hp
   | cons c s =>
    have : c = 45 := by
     have h5 : ([45] : List UInt8).isPrefixOf (c :: s) = true := hp
     simp [List.isPrefixOf] at h5
     exact h5.symm
    rw [this, ← e1]; rfl
  ·obtain ⟨e1, e2⟩ := Prod.mk.inj hc
   obtain ⟨rfl, -⟩ := Prod.mk.inj e2
   rw [← e1]; rfl
 cases b
 ·refine ⟨(num t : Int), ?_, by simp, by simp⟩
  have : s = dec (num t : Int) := by rw [aCT, ← hu, hs]; rfl
  rw [this, aw1 (show (ab1 (num t : Int).natAbs).length ≤ 600 by simp; rw [← hu]; exact h3)]
 ·have hn : num t ≠ 0 := by
   intro h0
   rw [h0, ab5 zb] at hu
   have := h4 (by rw [hu]; rfl)
   cases this.1
  refine ⟨-(num t : Int), ?_, by simp, by simp; omega⟩
  have : s = dec (-(num t : Int)) := by rw [aiP zb, Int.natAbs_neg, xf, ← hu, hs]; rfl
  rw [this, aw1 (show (ab1 (-(num t : Int)).natAbs).length ≤ 600 by simp; rw [← hu]; exact h3)]
noncomputable def aOZ (s : List UInt8) : SgT × Bool × Unit := match rdW s with | some z => (sg z, true, ()) | none => (([], false, ()), false, ())
theorem aEp (a : List UInt8) (y) (h : aiU (a, ()) = some y) : (awK a).toO = some y := by
 have hy : y = aOZ a := by injection h with h; exact h.symm
 clear h
 subst hy
 obtain ⟨t, b, hc⟩ : ∃ t b, acR (a, #[45].toList, ()) = some (t, b, ()) := ⟨_, _, rfl⟩
 have hnot : ¬ (isD t ∧ t ≠ [] ∧ t.length ≤ 600 ∧ (t.head? = some 48 → b = false ∧ t.length = 1)) → aOZ a = (([], false, ()), false, ()) := fun h => by unfold aOZ; rw [aN4 hc h]
 have hyes : isD t → t ≠ [] → t.length ≤ 600 → (t.head? = some 48 → b = false ∧ t.length = 1) → ahO (t, ()) = some (mag (num t), ()) ∧ aOZ a = ((mag (num t), b, ()), true, ()) := fun h1 h2 h3 h4 => by
  obtain ⟨z, e1, e2, e3⟩ := aN3 hc h1 h2 h3 h4
  refine ⟨?_, ?_⟩
  ·unfold ahO
   rw [if_pos ⟨h1, h2, by simp only; omega⟩]
  ·unfold aOZ
   rw [e1]
   show ((mag z.natAbs, decide (z < 0), ()), true, ()) = _
   rw [e2, e3]
 unfold awK
 refine uC (t, b, ()) hc ?_
 by_cases h1 : t = []
 ·rw [hnot (fun h => h.2.1 h1)]
  refine uR _ (uT (by simp [h1, len]) rfl)
 have hlen : 1 ≤ t.length := zN.2 h1
 by_cases h2 : t.length ≤ 600
 case neg =>
  rw [hnot (fun h => h2 h.2.2.1)]
  refine uR _ (uF sd (uT sd rfl))
 refine uL (false, ()) (uF sd (uF sd rfl)) ?_
 refine uO (0, ()) rfl ?_
 refine aa2 (fun i : Int × Unit => ∃ k : Nat, i.1 = (k : Int) ∧ k ≤ t.length ∧ isD (t.take k)) (fun i => ((t.length : Int) - i.1).toNat) (fun _ => aOZ a) ?_ _ ⟨0, rfl, by omega, by simp [isD]⟩
 rintro ⟨i, u⟩ ⟨k, h3, h4, h5⟩
 simp only at h3
 subst h3
 simp only [ayZ, aaQ]
 rcases zD k t.length with hk | hk
 ·have e1 : t.getD k 0 = t[k] := by simp [hk]
  simp only [e1]
  by_cases c1 : t[k].toNat < 48
  ·right
   rw [hnot (fun h => by have := h.1 t[k] (yC hk); omega)]
   repeat refine za ?_
   rfl
  by_cases c2 : t[k].toNat > 57
  ·right
   rw [hnot (fun h => by have := h.1 t[k] (yC hk); omega)]
   repeat refine za ?_
   rfl
  ·left
   refine ⟨(((k + 1 : Nat) : Int), ()), ?_, ⟨k + 1, rfl, by omega, ?_⟩, by simp only; omega, ze⟩
   ·repeat refine za ?_
    simp (disch := omega) only [aaM, aaC, aaL, aa5, ad3, aaQ, zp, zn, aaB, zv]
    rfl
   ·rw [yV hk, isD_append]
    refine ⟨h5, fun c hc => ?_⟩
    have := ye.1 hc
    subst this
    omega
 ·right
  have hd : isD t := by rwa [zr hk] at h5
  refine uF sd (uN ⟨by simp [asT], by exact sn⟩ ?_)
  cases ht : t with
  | nil => exact absurd ht h1
  | cons c r =>
   rw [← ht]
   have hg : gi t 0 0 = c := by rw [ht]; rfl
   simp only [hg]
   have hh : t.head? = some c := by rw [ht]; rfl
   by_cases c0 : c = 48
   ·subst c0
    refine uT (by rfl) ?_
    cases b
    ·refine uF rfl ?_
     by_cases hl : t.length = 1
     ·obtain ⟨g1, g2⟩ := hyes hd h1 h2 (fun _ => ⟨rfl, hl⟩)
      rw [g2]
      exact uF sd (uC _ g1 rfl)
     ·rw [hnot (fun h => hl (h.2.2.2 hh).2)]
      exact uT sd rfl
    ·rw [hnot (fun h => by have := (h.2.2.2 hh).1; cases this)]
     exact uT rfl rfl
   ·obtain ⟨g1, g2⟩ := hyes hd h1 h2 (fun h => by rw [hh] at h; injection h with h; exact absurd h c0)
    rw [g2]
    refine uF ?_ (uC _ g1 rfl)
    rw [beq_eq_false_iff_ne]
    intro h
    exact c0 (UInt8.toNat_inj.1 (Int.ofNat.inj h))
theorem ayO {s : List UInt8} {z : Int} (h : rdW s = some z) : aiU (s, ()) = some (sg z, true, ()) := by unfold aiU; rw [h]
theorem ayP {s : List UInt8} (h : rdW s = none) : aiU (s, ()) = some (([], false, ()), false, ()) := by unfold aiU; rw [h]
theorem aBB (a : List UInt8) (y) (h : ahP (a, ()) = some y) : (aqM a).toO = some y := by
 unfold ahP at h
 unfold aqM
 cases hr : rdW a with
 | none =>
  simp only [hr] at h
  exact uC _ (ayP hr) (uT rfl h)
 | some z =>
  simp only [hr] at h
  exact uC _ (ayO hr) (uF rfl h)
theorem aJ2 (n : Int) (y) (h : atO (n, ()) = some y) : (aMd n).toO = some y := by
 unfold atO at h
 split at h
 ·rename_i hp
  exact uC (dec n, ()) (by unfold av7; exact if_pos hp) h
 ·cases h
theorem aNH {n : Int} (h : ae4 n) : atO (n, ()) = some (dec n, ()) := by unfold atO; rw [if_pos h]
theorem aMm {s : List UInt8} {z : Int} (h : rdW s = some z) : Bd 0 z.natAbs := aBc (aw0 h).1
theorem aj1 (s : List UInt8) : ahP (s, ()) = some (if (rdW s).isSome then 0 else 10, ()) := rfl
theorem afF {s : FxT} {q : Rat} (h : rdF s = some q) : akO (s, ()) = some (rt q, true, ()) := by unfold akO; dsimp only; rw [h]
theorem afG {s : FxT} (h : rdF s = none) : akO (s, ()) = some ((([], false, ()), [], ()), false, ()) := by unfold akO; dsimp only; rw [h]
theorem aEh {k j : Nat} {q : Rat} (h : BdQ k q) (hk : k ≤ j) : BdQ j q := ⟨acE h.1 hk, acE h.2 hk⟩
theorem aMn {s : FxT} {q : Rat} (h : rdF s = some q) : BdQ 0 q := by
 obtain ⟨h1, h2⟩ := (aKv h).1
 exact ⟨aBc h1, aBc h2⟩
theorem aOT {k : Nat} {p q : Rat} (h1 : BdQ k p) (h2 : BdQ k q) : BdQ (k + 2) (p * q) := by
 obtain ⟨g, h', s, t, hg, hh, g0, h0, hs, ht, e1, e2⟩ := aH5 p q
 refine ⟨?_, ?_⟩
 ·rw [e1]
  refine acE (aeY (k := k) ?_ ?_) zb
  ·rw [← afK hs g0]; exact ae8 _ h1.1
  ·rw [← afK ht h0]; exact ae8 _ h2.1
 ·rw [e2]
  exact acE (amZ (ae8 _ h1.2) (ae8 _ h2.2)) zb
theorem aJu {k : Nat} {p : Rat} (h : BdQ k p) (h0 : p ≠ 0) : BdQ k p⁻¹ := by
 obtain ⟨e1, e2, e3⟩ := aIn h0
 exact ⟨by rw [e1]; exact h.2, by rw [e3]; exact h.1⟩
theorem aQk (a b : FxT) (y) (h : aJI (a, b, ()) = some y) : (aIM a b).toO = some y := by
 unfold aJI at h
 dsimp only at h
 unfold aIM
 cases ha : rdF a with
 | none =>
  simp only [ha] at h
  cases hb : rdF b with
  | none => exact uC _ (afG ha) (uC _ (afG hb) (uT rfl h))
  | some q => exact uC _ (afG ha) (uC _ (afF hb) (uT rfl h))
 | some p =>
  cases hb : rdF b with
  | none =>
   simp only [ha, hb] at h
   exact uC _ (afF ha) (uC _ (afG hb) (uF rfl (uT rfl h)))
  | some q =>
   simp only [ha, hb] at h
   have b1 := aMn ha
   have b2 := aMn hb
   refine uC _ (afF ha) (uC _ (afF hb) (uF rfl (uF rfl ?_)))
   refine uC _ (aBp _) ?_
   by_cases h0 : q = 0
   ·rw [if_pos h0] at h
    exact uT (zm (by rw [h0]; rfl)) h
   ·rw [if_neg h0] at h
    have := aNk h0
    refine uF sd ?_
    refine uC _ (aBo (aEh b2 zb) h0) ?_
    refine uC _ (aMa (aEh b1 zb) (aEh (aJu b2 h0) zb)) ?_
    exact uC _ (awA (aEh (aOT b1 (aJu b2 h0)) zb)) h
theorem aFx (n d : List UInt8) (y) (h : am9 (n, d, ()) = some y) : (axT n d).toO = some y := by
 unfold am9 at h
 dsimp only at h
 unfold axT
 cases hn : rdW n with
 | none =>
  simp only [hn] at h
  exact uC _ (aj1 n) (uT (by rw [hn]; rfl) h)
 | some a =>
  cases hd : rdW d with
  | none =>
   simp only [hn, hd] at h
   exact uC _ (aj1 n) (uF (by rw [hn]; rfl) (uC _ (aj1 d) (uT (by rw [hd]; rfl) h)))
  | some b =>
   simp only [hn, hd] at h
   have b1 := aMm hn
   have b2 := aMm hd
   refine uC _ (aj1 n) (uF (by rw [hn]; rfl) (uC _ (aj1 d) (uF (by rw [hd]; rfl) ?_)))
   refine uC (sg a, ()) (by rw [(aw0 hn).2]; exact awC (acE b1 zb)) ?_
   refine uC (sg b, ()) (by rw [(aw0 hd).2]; exact awC (acE b2 zb)) ?_
   refine uC _ (aBp _) ?_
   unfold ofQ at h
   by_cases h0 : b = 0
   ·rw [if_pos h0] at h
    exact uT sd h
   ·rw [if_neg h0] at h
    refine uF sd ?_
    obtain ⟨s, hs, hv⟩ : ∃ s : Int, s.natAbs = a.natAbs ∧ (s = 0 ∨ (!(decide (a < 0) == decide (b < 0))) = decide (s < 0)) ∧ Rat.divInt a b = mkRat s b.natAbs := by
     rcases yi b 0 with c | c
     ·refine ⟨-a, by omega, ?_, ?_⟩
      ·by_cases ha : a = 0
       ·left; omega
       ·right
        rw [zm c]
        rcases yi a 0 with c2 | c2
        ·rw [zm c2, zk zb]; rfl
        ·rw [zk zb, zm zb]; rfl
      ·rw [← Rat.neg_divInt_neg, ← wj]
       congr 1; omega
     ·refine ⟨a, rfl, ?_, ?_⟩
      ·right
       rw [zk (show ¬ b < 0 by omega)]
       cases decide (a < 0) <;> rfl
      ·rw [← wj]
       congr 1; omega
    obtain ⟨hv1, hv2⟩ := hv
    rw [hv2] at h
    refine uC (sg s, ()) (ahZ hs.symm hv1) ?_
    refine uC _ (aDc (by rw [hs]; exact acE b1 zb) (acE b2 zb) zb) ?_
    refine uC _ (awA ?_) h
    obtain ⟨g, t, hg, g0, e0, e1, e2⟩ := afS s (d := b.natAbs) zb
    refine ⟨?_, ?_⟩
    ·rw [e1, ← afK e0 g0, hs]; exact acE (ae8 _ b1) zb
    ·rw [e2]; exact acE (ae8 _ b2) zb
theorem amT {z : Int} (h : ae4 z) : Fit z := by
 unfold ae4 at h
 have : (ab1 z.natAbs).length ≤ 20 := (aeA zb).2 zb
 unfold Fit; omega
theorem aLM (n d : Int) (y) (h : ahY (n, d, ()) = some y) : (aNu n d).toO = some y := by
 unfold ahY at h
 split at h
 ·rename_i hp
  refine uC _ (aNH hp.1) (uC _ (aNH hp.2) ?_)
  refine uC (ofQ n d) ?_ h
  unfold am9
  simp only [aw1 (amT hp.1), aw1 (amT hp.2)]
 ·cases h
theorem aAF {a b : Int} (h : Fit b) (hab : a.natAbs ≤ b.natAbs) : Fit a := by
 unfold Fit at *
 rw [aeA zb] at *
 omega
theorem aOt {n : Int} {d : Nat} (hd : d ≠ 0) (h1 : Fit n) (h2 : Fit d) : aNI (mkRat n d) := by
 obtain ⟨g, t, hg, g0, e0, e1, e2⟩ := afS n hd
 refine ⟨aAF h1 ?_, aAF h2 ?_⟩
 ·rw [e1, ← afK e0 g0]; exact Nat.div_le_self _ _
 ·rw [e2]; simp only [xf]; exact Nat.div_le_self _ _
theorem aOc {n : Int} {d : Nat} (hd : d ≠ 0) (h1 : Fit n) (h2 : Fit d) : ofQ n d = (fx (mkRat n d), 0, ()) := by
 unfold ofQ
 rw [if_neg zb, wj, aBz (aOt hd h1 h2)]
theorem awD {n : Int} {d : Nat} (hn : ae4 n) (hd : d ≠ 0) (h2 : d ≤ 9223372036854775807) : ahY (n, (d : Int), ()) = some (fx (mkRat n d), 0, ()) := by
 have hd2 : ae4 (d : Int) := ⟨by omega, by omega⟩
 unfold ahY
 rw [if_pos ⟨hn, hd2⟩]
 simp only [aOc hd (amT hn) (amT hd2)]
abbrev zs : aJG := (0, 0, 0, 0, 0, 0, ())
set_option maxRecDepth 100000
open Go Go.Vg Go.Proofs
noncomputable section
def aBZ : LTab := []
def alA (n : Bool × List Int × Unit) (d : Bool × List Int × Unit) : TT ((vI × vI × Unit) × Unit) :=
 .ite (d.1)
 (.call (ahS ((n.1, n.2.1, ()), ())) auL fun y =>
 .call (ahS ((d.1, d.2.1, ()), ())) auL fun y1 =>
 .call (ae0 ((y.1.1, y.1.2.1, ()), (y1.1.1, y1.1.2.1, ()), ())) auL fun y2 =>
 .call (aeK ((y.1.1, y.1.2.1, ()), (y2.1.1, y2.1.2.1, ()), ())) aQZ fun y3 =>
 .call (aeK ((y1.1.1, y1.1.2.1, ()), (y2.1.1, y2.1.2.1, ()), ())) aQZ fun y4 =>
 .ok ((((y3.1.1, y3.1.2.1, ()), (y4.1.1, y4.1.2.1, ()), ()), ())))
 (.call (ae0 ((n.1, n.2.1, ()), (d.1, d.2.1, ()), ())) auL fun y5 =>
 .call (aeK ((n.1, n.2.1, ()), (y5.1.1, y5.1.2.1, ()), ())) aQZ fun y6 =>
 .call (aeK ((d.1, d.2.1, ()), (y5.1.1, y5.1.2.1, ()), ())) aQZ fun y7 =>
 .ok ((((y6.1.1, y6.1.2.1, ()), (y7.1.1, y7.1.2.1, ()), ()), ())))
def aEE : LTab := []
def auW (n : Int) (d : Int) : TT ((vI × vI × Unit) × Unit) :=
 .call (abP (n, ())) auL fun y =>
 .call (abP (d, ())) auL fun y1 =>
 .call (aiW (y.1, y1.1, ())) aR6 fun y2 =>
 .ok ((((y2.1.1.1, y2.1.1.2.1, ()), (y2.1.2.1.1, y2.1.2.1.2.1, ()), ()), ()))
def aKy : LTab := []
def aDy (r : vI × vI × Unit) : TT ur :=
 .call (akK ((r.1.1, r.1.2.1, ()), ())) aSa fun y =>
 .call (akK ((r.2.1.1, r.2.1.2.1, ()), ())) aSa fun y1 =>
 .ite (y.2.1 != 0)
 (.ok (((#[].toList, #[].toList, ()), 6, ())))
 (.ite (y1.2.1 != 0)
 (.ok (((#[].toList, #[].toList, ()), 6, ())))
 (.ok (((y.1, y1.1, ()), 0, ()))))
def aN5 : LTab := []
def aBY (n : Int) (d : Int) : TT ur :=
 .ite (d == 0)
 (.ok (((#[].toList, #[].toList, ()), 7, ())))
 (.call (akJ (n, d, ())) aR6 fun y =>
 .call (aqH (y.1, ())) aQ0 fun y1 =>
 .ok (((y1.1.1, y1.1.2.1, ()), y1.2.1, ())))
end
set_option maxRecDepth 100000
open Go Go.Vg Go.Proofs
noncomputable section
def aEH : LTab := [(213, 2042, 44034, ⟨0, (Int) × Unit, .dat (.s 12) vC <| .nil, [10, 9, 8, 5, 4, 0, 1], [31, 29], 0⟩), (213, 1045658, 58370, ⟨1, (Int) × (Int) × Unit, .dat (.s 14) vC <| .dat (.s 13) vC <| .nil, [83, 82, 11, 81, 80, 79, 78, 77, 76, 75, 74, 71, 70, 12, 10, 9, 8, 5, 4, 0, 1], [31, 29], 0⟩), (213, 2091324, 72706, ⟨2, (Int) × (Int) × Unit, .dat (.s 16) vC <| .dat (.s 15) vC <| .nil, [109, 108, 107, 106, 105, 104, 103, 102, 87, 86, 85, 84, 13, 14, 83, 82, 11, 81, 80, 79, 78, 77, 76, 75, 74, 71, 70, 12, 10, 9, 8, 5, 4, 0, 1], [31, 29], 0⟩), (213, 2042, 45058, ⟨3, (Int) × (List Int) × (List Int) × Unit, .dat (.s 12) vC <| .dat (.s 11) uI <| .row 29 vC <| .nil, [10, 9, 8, 5, 4, 0, 1], [31, 29], 0⟩), (213, 1045658, 59394, ⟨4, (Int) × (Int) × Unit, .dat (.s 14) vC <| .dat (.s 13) vC <| .nil, [83, 82, 11, 81, 80, 79, 78, 77, 76, 75, 74, 71, 70, 12, 10, 9, 8, 5, 4, 0, 1], [31, 29], 0⟩), (213, 2091324, 73730, ⟨5, (Int) × (Int) × Unit, .dat (.s 16) vC <| .dat (.s 15) vC <| .nil, [109, 108, 107, 106, 105, 104, 103, 102, 87, 86, 85, 84, 13, 14, 83, 82, 11, 81, 80, 79, 78, 77, 76, 75, 74, 71, 70, 12, 10, 9, 8, 5, 4, 0, 1], [31, 29], 0⟩), (213, 1045658, 60418, ⟨6, (Int) × (Int) × Unit, .dat (.s 14) vC <| .dat (.s 13) vC <| .nil, [83, 82, 11, 81, 80, 79, 78, 77, 76, 75, 74, 71, 70, 12, 10, 9, 8, 5, 4, 0, 1], [50, 31, 29], 0⟩), (213, 2091324, 74754, ⟨7, (Int) × (Int) × Unit, .dat (.s 16) vC <| .dat (.s 15) vC <| .nil, [109, 108, 107, 106, 105, 104, 103, 102, 87, 86, 85, 84, 13, 14, 83, 82, 11, 81, 80, 79, 78, 77, 76, 75, 74, 71, 70, 12, 10, 9, 8, 5, 4, 0, 1], [50, 31, 29], 0⟩)]
def aB1 (a : List Int) (b : List Int) (i : (Int) × Unit) : TT (ug ⊕ uJ) :=
 .ite (decide (i.1 ≥ 0))
 (.need (inb i.1 (len a)) <| .bad)
 (.call (abM (List.take (Int.toNat (w64 (len a - w64 (len b - 1)))) (List.replicate (Int.toNat (w64 (len a - w64 (len b - 1)))) 0), ())) auM fun y2 =>
 .bad)
def arD (a : List Int) (b : List Int) (i1 : Int × List Int × List Int × Unit) (y3 : List Int × Unit) (i2 : Int × Int × Unit) (i3 : (Int) × (Int) × Unit) : TT (vJ ⊕ (vJ ⊕ vF)) :=
 .ite (decide (w64 (i3.1 - i3.2.1) > 1))
 (.triv (asT Int 2 ≠ 0) zc <| .call (abF (b, [w64 (Int.tdiv (w64 (i3.2.1 + i3.1)) 2)], ())) auM fun y4 =>
 .call (abM (y4.1, ())) auM fun y5 =>
 .call (adZ (y5.1, y3.1, ())) Dd6 fun y6 =>
 .ite (decide (y6.1 ≤ 0))
 (.tt <| .lt (w64 (Int.tdiv (w64 (i3.2.1 + i3.1)) 2) : Int) fun z11 => .wV (vk z11 i3.1 (w64 (w64 (Int.tdiv i2.2.1 (w64 (w64 (gi b (w64 (len b - 1)) 0 * 10000) + gi b (w64 (w64 (len b - 1) - 1)) 0))) + 1) : Int) (w64 (Int.tdiv i2.2.1 (w64 (w64 (gi b (w64 (len b - 1)) 0 * 10000) + gi b (w64 (w64 (len b - 1) - 1)) 0))) : Int) (w64 (w64 (gi b (w64 (len b - 1)) 0 * 10000) + gi b (w64 (w64 (len b - 1) - 1)) 0) : Int) i2.2.1 (w64 (Int.tdiv i2.2.1 (w64 (w64 (w64 (gi b (w64 (len b - 1)) 0 * 10000) + gi b (w64 (w64 (len b - 1) - 1)) 0) + 1))) : Int) (w64 (w64 (w64 (gi b (w64 (len b - 1)) 0 * 10000) + gi b (w64 (w64 (len b - 1) - 1)) 0) + 1) : Int) <| vk (w64 (w64 (gi b (w64 (len b - 1)) 0 * 10000) + gi b (w64 (w64 (len b - 1) - 1)) 0) : Int) i2.2.1 (decide (i2.1 ≥ w64 (w64 (len b - 1) - 1))) (w64 (w64 (len b - 1) - 1)) (w64 (len b - 1)) i2.1 i2.2.1 i2.1 <| vk (w64 (w64 (len b - 1) + 1)) (w64 (len b - 1)) y3.1 y3.1 ([gi a i1.1 0] : List Int) i1.2.1 ([gi a i1.1 0] : List Int) (gi a i1.1 0) <| vz (gi a i1.1 0) i1.1 a (decide (i1.1 ≥ 0)) i1.1 i1.1 <| (vo 29 0 (Int.toNat (w64 (len a - w64 (len b - 1)))) true) ∧ (vt (w64 (w64 (gi b (w64 (len b - 1)) 0 * 10000) + gi b (w64 (w64 (len b - 1) - 1)) 0) : Int) (w64 (len b - 1)) <| True ∧ True ∧ vu a b)) <| .wV (wU (vq 3 ([] : List Int)) <| wU (vq 3 i1.2.2.1) True) <| .ok (.inl ((i3.1, z11, ()))))
 (.tt <| .lt (w64 (Int.tdiv (w64 (i3.2.1 + i3.1)) 2) : Int) fun z12 => .lt (i3.2.1 : Int) fun z13 => .wV (vk z13 z12 (w64 (w64 (Int.tdiv i2.2.1 (w64 (w64 (gi b (w64 (len b - 1)) 0 * 10000) + gi b (w64 (w64 (len b - 1) - 1)) 0))) + 1) : Int) (w64 (Int.tdiv i2.2.1 (w64 (w64 (gi b (w64 (len b - 1)) 0 * 10000) + gi b (w64 (w64 (len b - 1) - 1)) 0))) : Int) (w64 (w64 (gi b (w64 (len b - 1)) 0 * 10000) + gi b (w64 (w64 (len b - 1) - 1)) 0) : Int) i2.2.1 (w64 (Int.tdiv i2.2.1 (w64 (w64 (w64 (gi b (w64 (len b - 1)) 0 * 10000) + gi b (w64 (w64 (len b - 1) - 1)) 0) + 1))) : Int) (w64 (w64 (w64 (gi b (w64 (len b - 1)) 0 * 10000) + gi b (w64 (w64 (len b - 1) - 1)) 0) + 1) : Int) <| vk (w64 (w64 (gi b (w64 (len b - 1)) 0 * 10000) + gi b (w64 (w64 (len b - 1) - 1)) 0) : Int) i2.2.1 (decide (i2.1 ≥ w64 (w64 (len b - 1) - 1))) (w64 (w64 (len b - 1) - 1)) (w64 (len b - 1)) i2.1 i2.2.1 i2.1 <| vk (w64 (w64 (len b - 1) + 1)) (w64 (len b - 1)) y3.1 y3.1 ([gi a i1.1 0] : List Int) i1.2.1 ([gi a i1.1 0] : List Int) (gi a i1.1 0) <| vz (gi a i1.1 0) i1.1 a (decide (i1.1 ≥ 0)) i1.1 i1.1 <| (vo 29 0 (Int.toNat (w64 (len a - w64 (len b - 1)))) true) ∧ (vt (w64 (w64 (gi b (w64 (len b - 1)) 0 * 10000) + gi b (w64 (w64 (len b - 1) - 1)) 0) : Int) (w64 (len b - 1)) <| True ∧ True ∧ vu a b)) <| .wV (wU (vq 3 ([] : List Int)) <| wU (vq 3 i1.2.2.1) True) <| .ok (.inl ((z12, z13, ())))))
 (.need (inb i1.1 (↑(Int.toNat (w64 (len a - w64 (len b - 1)))) : Int)) <| .call (abF (b, [i3.2.1], ())) auM fun y7 =>
 .call (aaY (y3.1, y7.1, ())) auM fun y8 =>
 .tt <| .lt (w64 (i1.1 - 1) : Int) fun z14 => .lt (List.set i1.2.2.1 (0 + Int.toNat i1.1) i3.2.1 : List Int) fun z15 => .wV (vt y8.1 z14 <| (vo 29 0 (Int.toNat (w64 (len a - w64 (len b - 1)))) true) ∧ (vt (w64 (w64 (gi b (w64 (len b - 1)) 0 * 10000) + gi b (w64 (w64 (len b - 1) - 1)) 0) : Int) (w64 (len b - 1)) <| True ∧ True ∧ vu a b)) <| .wV (wU (vq 3 ([] : List Int)) <| wU (vq 3 z15) True) <| .ok (.inr (.inr (.inl ((z14, y8.1, z15, ()))))))
def acZ (a : List Int) (b : List Int) (i1 : Int × List Int × List Int × Unit) (y3 : List Int × Unit) (i2 : (Int) × (Int) × Unit) : TT (vJ ⊕ vF) :=
 .ite (decide (i2.1 ≥ w64 (w64 (len b - 1) - 1)))
 (.ite (decide (i2.1 < len y3.1))
 (.need (inb i2.1 (len y3.1)) <| .tt <| .lt (w64 (i2.1 - 1) : Int) fun z5 => .lt (w64 (w64 (i2.2.1 * 10000) + gi y3.1 i2.1 0) : Int) fun z6 => .wV (vk z6 z5 (w64 (w64 (len b - 1) + 1)) (w64 (len b - 1)) y3.1 y3.1 ([gi a i1.1 0] : List Int) i1.2.1 <| vk ([gi a i1.1 0] : List Int) (gi a i1.1 0) (gi a i1.1 0) i1.1 a (decide (i1.1 ≥ 0)) i1.1 i1.1 <| (vo 29 0 (Int.toNat (w64 (len a - w64 (len b - 1)))) true) ∧ (vt (w64 (w64 (gi b (w64 (len b - 1)) 0 * 10000) + gi b (w64 (w64 (len b - 1) - 1)) 0) : Int) (w64 (len b - 1)) <| True ∧ True ∧ vu a b)) <| .wV (wU (vq 3 ([] : List Int)) <| wU (vq 3 i1.2.2.1) True) <| .ok (.inl ((z5, z6, ()))))
 (.tt <| .lt (w64 (i2.1 - 1) : Int) fun z7 => .lt (w64 (i2.2.1 * 10000) : Int) fun z8 => .wV (vk z8 z7 (w64 (w64 (len b - 1) + 1)) (w64 (len b - 1)) y3.1 y3.1 ([gi a i1.1 0] : List Int) i1.2.1 <| vk ([gi a i1.1 0] : List Int) (gi a i1.1 0) (gi a i1.1 0) i1.1 a (decide (i1.1 ≥ 0)) i1.1 i1.1 <| (vo 29 0 (Int.toNat (w64 (len a - w64 (len b - 1)))) true) ∧ (vt (w64 (w64 (gi b (w64 (len b - 1)) 0 * 10000) + gi b (w64 (w64 (len b - 1) - 1)) 0) : Int) (w64 (len b - 1)) <| True ∧ True ∧ vu a b)) <| .wV (wU (vq 3 ([] : List Int)) <| wU (vq 3 i1.2.2.1) True) <| .ok (.inl ((z7, z8, ())))))
 (.need (w64 (w64 (w64 (gi b (w64 (len b - 1)) 0 * 10000) + gi b (w64 (w64 (len b - 1) - 1)) 0) + 1) ≠ 0) <| .need (w64 (w64 (gi b (w64 (len b - 1)) 0 * 10000) + gi b (w64 (w64 (len b - 1) - 1)) 0) ≠ 0) <| .loop 5 (.tt <| .lt (w64 (w64 (Int.tdiv i2.2.1 (w64 (w64 (gi b (w64 (len b - 1)) 0 * 10000) + gi b (w64 (w64 (len b - 1) - 1)) 0))) + 1) : Int) fun z9 => .lt (w64 (Int.tdiv i2.2.1 (w64 (w64 (w64 (gi b (w64 (len b - 1)) 0 * 10000) + gi b (w64 (w64 (len b - 1) - 1)) 0) + 1))) : Int) fun z10 => .wV (vk z10 z9 z9 (w64 (Int.tdiv i2.2.1 (w64 (w64 (gi b (w64 (len b - 1)) 0 * 10000) + gi b (w64 (w64 (len b - 1) - 1)) 0))) : Int) (w64 (w64 (gi b (w64 (len b - 1)) 0 * 10000) + gi b (w64 (w64 (len b - 1) - 1)) 0) : Int) i2.2.1 z10 (w64 (w64 (w64 (gi b (w64 (len b - 1)) 0 * 10000) + gi b (w64 (w64 (len b - 1) - 1)) 0) + 1) : Int) <| vk (w64 (w64 (gi b (w64 (len b - 1)) 0 * 10000) + gi b (w64 (w64 (len b - 1) - 1)) 0) : Int) i2.2.1 (decide (i2.1 ≥ w64 (w64 (len b - 1) - 1))) (w64 (w64 (len b - 1) - 1)) (w64 (len b - 1)) i2.1 i2.2.1 i2.1 <| vk (w64 (w64 (len b - 1) + 1)) (w64 (len b - 1)) y3.1 y3.1 ([gi a i1.1 0] : List Int) i1.2.1 ([gi a i1.1 0] : List Int) (gi a i1.1 0) <| vz (gi a i1.1 0) i1.1 a (decide (i1.1 ≥ 0)) i1.1 i1.1 <| (vo 29 0 (Int.toNat (w64 (len a - w64 (len b - 1)))) true) ∧ (vt (w64 (w64 (gi b (w64 (len b - 1)) 0 * 10000) + gi b (w64 (w64 (len b - 1) - 1)) 0) : Int) (w64 (len b - 1)) <| True ∧ True ∧ vu a b)) <| .wV (wU (vq 3 ([] : List Int)) <| wU (vq 3 i1.2.2.1) True) <| .ok ((z9, z10, ()))) (arD a b i1 y3 i2))
def aB0 (a : List Int) (b : List Int) (i1 : Int × List Int × List Int × Unit) (y9 : List Int × Unit) (i4 : Int × Int × Unit) (i5 : (Int) × (Int) × Unit) : TT (vJ ⊕ (vJ ⊕ vF)) :=
 .ite (decide (w64 (i5.1 - i5.2.1) > 1))
 (.triv (asT Int 2 ≠ 0) zc <| .call (abF (b, [w64 (Int.tdiv (w64 (i5.2.1 + i5.1)) 2)], ())) auM fun y10 =>
 .call (abM (y10.1, ())) auM fun y11 =>
 .call (adZ (y11.1, y9.1, ())) Dd6 fun y12 =>
 .ite (decide (y12.1 ≤ 0))
 (.tt <| .lt (w64 (Int.tdiv (w64 (i5.2.1 + i5.1)) 2) : Int) fun z23 => .wV (vk z23 i5.1 (w64 (w64 (Int.tdiv i4.2.1 (w64 (w64 (gi b (w64 (len b - 1)) 0 * 10000) + gi b (w64 (w64 (len b - 1) - 1)) 0))) + 1) : Int) (w64 (Int.tdiv i4.2.1 (w64 (w64 (gi b (w64 (len b - 1)) 0 * 10000) + gi b (w64 (w64 (len b - 1) - 1)) 0))) : Int) (w64 (w64 (gi b (w64 (len b - 1)) 0 * 10000) + gi b (w64 (w64 (len b - 1) - 1)) 0) : Int) i4.2.1 (w64 (Int.tdiv i4.2.1 (w64 (w64 (w64 (gi b (w64 (len b - 1)) 0 * 10000) + gi b (w64 (w64 (len b - 1) - 1)) 0) + 1))) : Int) (w64 (w64 (w64 (gi b (w64 (len b - 1)) 0 * 10000) + gi b (w64 (w64 (len b - 1) - 1)) 0) + 1) : Int) <| vk (w64 (w64 (gi b (w64 (len b - 1)) 0 * 10000) + gi b (w64 (w64 (len b - 1) - 1)) 0) : Int) i4.2.1 (decide (i4.1 ≥ w64 (w64 (len b - 1) - 1))) (w64 (w64 (len b - 1) - 1)) (w64 (len b - 1)) i4.1 i4.2.1 i4.1 <| vz (w64 (w64 (len b - 1) + 1)) (w64 (len b - 1)) y9.1 y9.1 (List.take (1 + List.length i1.2.1) ([gi a i1.1 0] ++ i1.2.1)) i1.2.1 <| uw ∧ (vw (gi a i1.1 0) (gi a i1.1 0) i1.1 a (decide (i1.1 ≥ 0)) i1.1 i1.1 <| (vo 29 0 (Int.toNat (w64 (len a - w64 (len b - 1)))) true) ∧ (vt (w64 (w64 (gi b (w64 (len b - 1)) 0 * 10000) + gi b (w64 (w64 (len b - 1) - 1)) 0) : Int) (w64 (len b - 1)) <| True ∧ True ∧ vu a b))) <| .wV (wU (vq 3 ([gi a i1.1 0] : List Int)) <| wU (vq 3 ([] : List Int)) <| wU (vq 3 i1.2.2.1) True) <| .ok (.inl ((i5.1, z23, ()))))
 (.tt <| .lt (w64 (Int.tdiv (w64 (i5.2.1 + i5.1)) 2) : Int) fun z24 => .lt (i5.2.1 : Int) fun z25 => .wV (vk z25 z24 (w64 (w64 (Int.tdiv i4.2.1 (w64 (w64 (gi b (w64 (len b - 1)) 0 * 10000) + gi b (w64 (w64 (len b - 1) - 1)) 0))) + 1) : Int) (w64 (Int.tdiv i4.2.1 (w64 (w64 (gi b (w64 (len b - 1)) 0 * 10000) + gi b (w64 (w64 (len b - 1) - 1)) 0))) : Int) (w64 (w64 (gi b (w64 (len b - 1)) 0 * 10000) + gi b (w64 (w64 (len b - 1) - 1)) 0) : Int) i4.2.1 (w64 (Int.tdiv i4.2.1 (w64 (w64 (w64 (gi b (w64 (len b - 1)) 0 * 10000) + gi b (w64 (w64 (len b - 1) - 1)) 0) + 1))) : Int) (w64 (w64 (w64 (gi b (w64 (len b - 1)) 0 * 10000) + gi b (w64 (w64 (len b - 1) - 1)) 0) + 1) : Int) <| vk (w64 (w64 (gi b (w64 (len b - 1)) 0 * 10000) + gi b (w64 (w64 (len b - 1) - 1)) 0) : Int) i4.2.1 (decide (i4.1 ≥ w64 (w64 (len b - 1) - 1))) (w64 (w64 (len b - 1) - 1)) (w64 (len b - 1)) i4.1 i4.2.1 i4.1 <| vz (w64 (w64 (len b - 1) + 1)) (w64 (len b - 1)) y9.1 y9.1 (List.take (1 + List.length i1.2.1) ([gi a i1.1 0] ++ i1.2.1)) i1.2.1 <| uw ∧ (vw (gi a i1.1 0) (gi a i1.1 0) i1.1 a (decide (i1.1 ≥ 0)) i1.1 i1.1 <| (vo 29 0 (Int.toNat (w64 (len a - w64 (len b - 1)))) true) ∧ (vt (w64 (w64 (gi b (w64 (len b - 1)) 0 * 10000) + gi b (w64 (w64 (len b - 1) - 1)) 0) : Int) (w64 (len b - 1)) <| True ∧ True ∧ vu a b))) <| .wV (wU (vq 3 ([gi a i1.1 0] : List Int)) <| wU (vq 3 ([] : List Int)) <| wU (vq 3 i1.2.2.1) True) <| .ok (.inl ((z24, z25, ())))))
 (.need (inb i1.1 (↑(Int.toNat (w64 (len a - w64 (len b - 1)))) : Int)) <| .call (abF (b, [i5.2.1], ())) auM fun y13 =>
 .call (aaY (y9.1, y13.1, ())) auM fun y14 =>
 .tt <| .lt (w64 (i1.1 - 1) : Int) fun z26 => .lt (List.set i1.2.2.1 (0 + Int.toNat i1.1) i5.2.1 : List Int) fun z27 => .wV (vt y14.1 z26 <| (vo 29 0 (Int.toNat (w64 (len a - w64 (len b - 1)))) true) ∧ (vt (w64 (w64 (gi b (w64 (len b - 1)) 0 * 10000) + gi b (w64 (w64 (len b - 1) - 1)) 0) : Int) (w64 (len b - 1)) <| True ∧ True ∧ vu a b)) <| .wV (wU (vq 3 ([] : List Int)) <| wU (vq 3 z27) True) <| .ok (.inr (.inr (.inl ((z26, y14.1, z27, ()))))))
def arC (a : List Int) (b : List Int) (i1 : Int × List Int × List Int × Unit) (y9 : List Int × Unit) (i4 : (Int) × (Int) × Unit) : TT (vJ ⊕ vF) :=
 .ite (decide (i4.1 ≥ w64 (w64 (len b - 1) - 1)))
 (.ite (decide (i4.1 < len y9.1))
 (.need (inb i4.1 (len y9.1)) <| .tt <| .lt (w64 (i4.1 - 1) : Int) fun z17 => .lt (w64 (w64 (i4.2.1 * 10000) + gi y9.1 i4.1 0) : Int) fun z18 => .wV (vk z18 z17 (w64 (w64 (len b - 1) + 1)) (w64 (len b - 1)) y9.1 y9.1 (List.take (1 + List.length i1.2.1) ([gi a i1.1 0] ++ i1.2.1)) i1.2.1 <| uw ∧ (vw (gi a i1.1 0) (gi a i1.1 0) i1.1 a (decide (i1.1 ≥ 0)) i1.1 i1.1 <| (vo 29 0 (Int.toNat (w64 (len a - w64 (len b - 1)))) true) ∧ (vt (w64 (w64 (gi b (w64 (len b - 1)) 0 * 10000) + gi b (w64 (w64 (len b - 1) - 1)) 0) : Int) (w64 (len b - 1)) <| True ∧ True ∧ vu a b))) <| .wV (wU (vq 3 ([gi a i1.1 0] : List Int)) <| wU (vq 3 ([] : List Int)) <| wU (vq 3 i1.2.2.1) True) <| .ok (.inl ((z17, z18, ()))))
 (.tt <| .lt (w64 (i4.1 - 1) : Int) fun z19 => .lt (w64 (i4.2.1 * 10000) : Int) fun z20 => .wV (vk z20 z19 (w64 (w64 (len b - 1) + 1)) (w64 (len b - 1)) y9.1 y9.1 (List.take (1 + List.length i1.2.1) ([gi a i1.1 0] ++ i1.2.1)) i1.2.1 <| uw ∧ (vw (gi a i1.1 0) (gi a i1.1 0) i1.1 a (decide (i1.1 ≥ 0)) i1.1 i1.1 <| (vo 29 0 (Int.toNat (w64 (len a - w64 (len b - 1)))) true) ∧ (vt (w64 (w64 (gi b (w64 (len b - 1)) 0 * 10000) + gi b (w64 (w64 (len b - 1) - 1)) 0) : Int) (w64 (len b - 1)) <| True ∧ True ∧ vu a b))) <| .wV (wU (vq 3 ([gi a i1.1 0] : List Int)) <| wU (vq 3 ([] : List Int)) <| wU (vq 3 i1.2.2.1) True) <| .ok (.inl ((z19, z20, ())))))
 (.need (w64 (w64 (w64 (gi b (w64 (len b - 1)) 0 * 10000) + gi b (w64 (w64 (len b - 1) - 1)) 0) + 1) ≠ 0) <| .need (w64 (w64 (gi b (w64 (len b - 1)) 0 * 10000) + gi b (w64 (w64 (len b - 1) - 1)) 0) ≠ 0) <| .loop 7 (.tt <| .lt (w64 (w64 (Int.tdiv i4.2.1 (w64 (w64 (gi b (w64 (len b - 1)) 0 * 10000) + gi b (w64 (w64 (len b - 1) - 1)) 0))) + 1) : Int) fun z21 => .lt (w64 (Int.tdiv i4.2.1 (w64 (w64 (w64 (gi b (w64 (len b - 1)) 0 * 10000) + gi b (w64 (w64 (len b - 1) - 1)) 0) + 1))) : Int) fun z22 => .wV (vk z22 z21 z21 (w64 (Int.tdiv i4.2.1 (w64 (w64 (gi b (w64 (len b - 1)) 0 * 10000) + gi b (w64 (w64 (len b - 1) - 1)) 0))) : Int) (w64 (w64 (gi b (w64 (len b - 1)) 0 * 10000) + gi b (w64 (w64 (len b - 1) - 1)) 0) : Int) i4.2.1 z22 (w64 (w64 (w64 (gi b (w64 (len b - 1)) 0 * 10000) + gi b (w64 (w64 (len b - 1) - 1)) 0) + 1) : Int) <| vk (w64 (w64 (gi b (w64 (len b - 1)) 0 * 10000) + gi b (w64 (w64 (len b - 1) - 1)) 0) : Int) i4.2.1 (decide (i4.1 ≥ w64 (w64 (len b - 1) - 1))) (w64 (w64 (len b - 1) - 1)) (w64 (len b - 1)) i4.1 i4.2.1 i4.1 <| vz (w64 (w64 (len b - 1) + 1)) (w64 (len b - 1)) y9.1 y9.1 (List.take (1 + List.length i1.2.1) ([gi a i1.1 0] ++ i1.2.1)) i1.2.1 <| uw ∧ (vw (gi a i1.1 0) (gi a i1.1 0) i1.1 a (decide (i1.1 ≥ 0)) i1.1 i1.1 <| (vo 29 0 (Int.toNat (w64 (len a - w64 (len b - 1)))) true) ∧ (vt (w64 (w64 (gi b (w64 (len b - 1)) 0 * 10000) + gi b (w64 (w64 (len b - 1) - 1)) 0) : Int) (w64 (len b - 1)) <| True ∧ True ∧ vu a b))) <| .wV (wU (vq 3 ([gi a i1.1 0] : List Int)) <| wU (vq 3 ([] : List Int)) <| wU (vq 3 i1.2.2.1) True) <| .ok ((z21, z22, ()))) (aB0 a b i1 y9 i4))
def alB (a : List Int) (b : List Int) (i1 : (Int) × (List Int) × (List Int) × Unit) : TT vF :=
 .ite (decide (i1.1 ≥ 0))
 (.need (inb i1.1 (len a)) <| .need ((1 + List.length i1.2.1) * 8 ≤ 140737488355328) <| .ite (List.isEmpty i1.2.1)
 (.call (abM ([gi a i1.1 0], ())) auM fun y3 =>
 .loop 4 (.tt <| .lt (w64 (w64 (len b - 1) + 1) : Int) fun z4 => .wV (vk (0 : Int) z4 z4 (w64 (len b - 1)) y3.1 y3.1 ([gi a i1.1 0] : List Int) i1.2.1 <| vk ([gi a i1.1 0] : List Int) (gi a i1.1 0) (gi a i1.1 0) i1.1 a (decide (i1.1 ≥ 0)) i1.1 i1.1 <| (vo 29 0 (Int.toNat (w64 (len a - w64 (len b - 1)))) true) ∧ (vt (w64 (w64 (gi b (w64 (len b - 1)) 0 * 10000) + gi b (w64 (w64 (len b - 1) - 1)) 0) : Int) (w64 (len b - 1)) <| True ∧ True ∧ vu a b)) <| .wV (wU (vq 3 ([] : List Int)) <| wU (vq 3 i1.2.2.1) True) <| .ok ((z4, 0, ()))) (acZ a b i1 y3))
 (.call (abM (List.take (1 + List.length i1.2.1) ([gi a i1.1 0] ++ i1.2.1), ())) auM fun y9 =>
 .loop 6 (.tt <| .lt (w64 (w64 (len b - 1) + 1) : Int) fun z16 => .wV (vk (0 : Int) z16 z16 (w64 (len b - 1)) y9.1 y9.1 (List.take (1 + List.length i1.2.1) ([gi a i1.1 0] ++ i1.2.1)) i1.2.1 <| uw ∧ (vw (gi a i1.1 0) (gi a i1.1 0) i1.1 a (decide (i1.1 ≥ 0)) i1.1 i1.1 <| (vo 29 0 (Int.toNat (w64 (len a - w64 (len b - 1)))) true) ∧ (vt (w64 (w64 (gi b (w64 (len b - 1)) 0 * 10000) + gi b (w64 (w64 (len b - 1) - 1)) 0) : Int) (w64 (len b - 1)) <| True ∧ True ∧ vu a b))) <| .wV (wU (vq 3 ([gi a i1.1 0] : List Int)) <| wU (vq 3 ([] : List Int)) <| wU (vq 3 i1.2.2.1) True) <| .ok ((z16, 0, ()))) (arC a b i1 y9)))
 (.call (abM (List.take (Int.toNat (w64 (len a - w64 (len b - 1)))) i1.2.2.1, ())) auM fun y15 =>
 .ok (.inr ((y15.1, i1.2.1, ()))))
def anN (a : List Int) (b : List Int) : TT uJ :=
 .ite (len b == 1)
 (.need (asT Int 0 ≤ 0 ∧ 0 < len b) <| .call (am5 (a, gi b 0 0, ())) aSl fun y =>
 .call (abM ([y.2.1], ())) auM fun y1 =>
 .ok ((y.1, y1.1, ())))
 (.ite (decide (len a ≤ w64 (len b - 1)))
 (.need ((0 + List.length a) * 8 ≤ 140737488355328) <| .ite (List.isEmpty a)
 (.ok (([], List.take 0 [], ())))
 (.ok (([], List.take (0 + List.length a) (List.take 0 [] ++ a), ()))))
 (.need (inb (w64 (len b - 1)) (len b)) <| .need (inb (w64 (w64 (len b - 1) - 1)) (len b)) <| .need (0 ≤ w64 (len a - w64 (len b - 1)) ∧ w64 (len a - w64 (len b - 1)) ≤ w64 (len a - w64 (len b - 1)) ∧ w64 (len a - w64 (len b - 1)) * (↑8 : Int) ≤ 140737488355328) <| .need (inc (w64 (len a - w64 (len b - 1))) (len a)) <| .need ((0 + List.length (List.take (List.length a - Int.toNat (w64 (len a - w64 (len b - 1)))) (List.drop (Int.toNat (w64 (len a - w64 (len b - 1)))) a))) * 8 ≤ 140737488355328) <| .ite (List.isEmpty (List.take (List.length a - Int.toNat (w64 (len a - w64 (len b - 1)))) (List.drop (Int.toNat (w64 (len a - w64 (len b - 1)))) a)))
 (.loop 0 (.tt <| .lt (w64 ((↑(Int.toNat (w64 (len a - w64 (len b - 1)))) : Int) - 1) : Int) fun z => .wV (wY z <| (vo 29 0 (Int.toNat (w64 (len a - w64 (len b - 1)))) true) ∧ (vt (w64 (w64 (gi b (w64 (len b - 1)) 0 * 10000) + gi b (w64 (w64 (len b - 1) - 1)) 0) : Int) (w64 (len b - 1)) <| True ∧ True ∧ vu a b)) <| .wV (wU (vq 3 ([] : List Int)) <| wU (vq 3 (List.replicate (Int.toNat (w64 (len a - w64 (len b - 1)))) 0 : List Int)) True) <| .ok ((z, ()))) (aB1 a b))
 (.loop 3 (.tt <| .lt (w64 ((↑(Int.toNat (w64 (len a - w64 (len b - 1)))) : Int) - 1) : Int) fun z1 => .lt (List.take (0 + List.length (List.take (List.length a - Int.toNat (w64 (len a - w64 (len b - 1)))) (List.drop (Int.toNat (w64 (len a - w64 (len b - 1)))) a))) (List.take 0 [] ++ List.take (List.length a - Int.toNat (w64 (len a - w64 (len b - 1)))) (List.drop (Int.toNat (w64 (len a - w64 (len b - 1)))) a)) : List Int) fun z2 => .lt (List.replicate (Int.toNat (w64 (len a - w64 (len b - 1)))) 0 : List Int) fun z3 => .wV (vt z2 z1 <| (vo 29 0 (Int.toNat (w64 (len a - w64 (len b - 1)))) true) ∧ (vt (w64 (w64 (gi b (w64 (len b - 1)) 0 * 10000) + gi b (w64 (w64 (len b - 1) - 1)) 0) : Int) (w64 (len b - 1)) <| True ∧ True ∧ vu a b)) <| .wV (wU (vq 3 ([] : List Int)) <| wU (vq 3 z3) True) <| .ok ((z1, z2, z3, ()))) (alB a b))))
def aGH : LTab := []
def azM (a : Bool × List Int × Unit) : TT ux :=
 .call (abY (!a.1, a.2.1, ())) auL fun y =>
 .ok (((y.1.1, y.1.2.1, ()), ()))
def aGJ : LTab := []
def arJ (a : Bool × List Int × Unit) (b : Bool × List Int × Unit) : TT ux :=
 .ite (a.1 == b.1)
 (.call (aqI (a.2.1, b.2.1, ())) auM fun y =>
 .call (abY (a.1, y.1, ())) auL fun y1 =>
 .ok (((y1.1.1, y1.1.2.1, ()), ())))
 (.call (adZ (a.2.1, b.2.1, ())) Dd6 fun y2 =>
 .ite (decide (y2.1 ≥ 0))
 (.call (aaY (a.2.1, b.2.1, ())) auM fun y3 =>
 .call (abY (a.1, y3.1, ())) auL fun y4 =>
 .ok (((y4.1.1, y4.1.2.1, ()), ())))
 (.call (aaY (b.2.1, a.2.1, ())) auM fun y5 =>
 .call (abY (b.1, y5.1, ())) auL fun y6 =>
 .ok (((y6.1.1, y6.1.2.1, ()), ()))))
def aEM : LTab := []
def auY (a : Bool × List Int × Unit) (b : Bool × List Int × Unit) : TT ux :=
 .call (ahS ((b.1, b.2.1, ()), ())) auL fun y =>
 .call (af8 ((a.1, a.2.1, ()), y.1, ())) auL fun y1 =>
 .ok (((y1.1.1, y1.1.2.1, ()), ()))
def aEK : LTab := []
def anS (a : Bool × List Int × Unit) (b : Bool × List Int × Unit) : TT (vI × vI × Unit) :=
 .call (ahR (a.2.1, b.2.1, ())) aR7 fun y =>
 .call (abY (!a.1 == b.1, y.1, ())) auL fun y1 =>
 .call (abY (a.1, y.2.1, ())) auL fun y2 =>
 .ite (y2.1.1)
 (.call (af8 ((y2.1.1, y2.1.2.1, ()), (false, b.2.1, ()), ())) auL fun y3 =>
 .ite (b.1)
 (.call (abP (1, ())) auL fun y4 =>
 .call (af8 ((y1.1.1, y1.1.2.1, ()), y4.1, ())) auL fun y5 =>
 .ok (((y5.1.1, y5.1.2.1, ()), (y3.1.1, y3.1.2.1, ()), ())))
 (.call (abP (1, ())) auL fun y6 =>
 .call (akL ((y1.1.1, y1.1.2.1, ()), y6.1, ())) auL fun y7 =>
 .ok (((y7.1.1, y7.1.2.1, ()), (y3.1.1, y3.1.2.1, ()), ()))))
 (.ok (((y1.1.1, y1.1.2.1, ()), (y2.1.1, y2.1.2.1, ()), ())))
def azQ : LTab := [(149, 28, 9217, ⟨0, (List Int) × (List Int) × Unit, .dat (.s 6) uI <| .dat (.s 5) uI <| .nil, [4], [2, 1, 0], 0⟩)]
def al9 (a : Bool × List Int × Unit) (b : Bool × List Int × Unit) (i : (List Int) × (List Int) × Unit) : TT (um ⊕ ux) :=
 .ite (decide (len i.1 > 0))
 (.call (ahR (i.2.1, i.1, ())) aR7 fun y =>
 .tt <| .lt (y.2.1 : List Int) fun z2 => .wV (vt i.1 z2 <| (wX 2 0 true) ∧ True) <| .wV (wU vY <| wU (vj 129 b.1 b.2.1) <| wU (vj 129 a.1 a.2.1) True) <| .ok (.inl ((z2, i.1, ()))))
 (.ok (.inr (((false, i.2.1, ()), ()))))
def aoY (a : Bool × List Int × Unit) (b : Bool × List Int × Unit) : TT ux :=
 .loop 0 (.tt <| .lt (b.2.1 : List Int) fun z => .lt (a.2.1 : List Int) fun z1 => .wV (vt z1 z <| (wX 2 0 true) ∧ True) <| .wV (wU vY <| wU (vj 129 b.1 z) <| wU (vj 129 a.1 z1) True) <| .ok ((z, z1, ()))) (al9 a b)
end
set_option maxRecDepth 100000
open Go Go.Vg Go.Proofs
noncomputable section
def aKA : LTab := [(164, 28, 4097, ⟨0, (Int) × Unit, .dat (.s 3) vC <| .nil, [2, 0], [], 0⟩)]
def azL (d : List Int) (i : (Int) × Unit) : TT (ug ⊕ vL) :=
 .ite (decide (i.1 > 0))
 (.need (inb (w64 (i.1 - 1)) (len d)) <| .ite (gi d (w64 (i.1 - 1)) 0 == 0)
 (.tt <| .lt (w64 (i.1 - 1) : Int) fun z => .wV (wY z <| True ∧ wZ d) <| .tr <| .ok (.inl ((z, ()))))
 (.need (inc i.1 (len d)) <| .ok (.inr ((List.take (Int.toNat i.1) d, ())))))
 (.need (inc i.1 (len d)) <| .ok (.inr ((List.take (Int.toNat i.1) d, ()))))
def aDA (d : List Int) : TT vL :=
 .loop 0 (.tt <| .wV (wY (len d) <| True ∧ wZ d) <| .tr <| .ok ((len d, ()))) (azL d)
def aGF : LTab := []
def azK (below : Bool) (d : List Int) : TT ux :=
 .call (abM (d, ())) auM fun y =>
 .ite (below)
 (.ok (((decide (len y.1 > 0), y.1, ()), ())))
 (.ok (((false, y.1, ()), ())))
def azP : LTab := [(68, 60, 5122, ⟨0, Bool × (List Int) × (Int) × Unit, .appN (.s 3) 5 3 vC <| .dat (.s 0) vC <| .nil, [4, 2], [0], 1⟩)]
def ad8 (n : Int) (i : Bool × (List Int) × (Int) × Unit) : TT ((Bool × (List Int) × (Int) × Unit) ⊕ ux) :=
 .ite (i.1)
 (.ite (i.2.2.1 != 0)
 (.triv (asT Int 10000 ≠ 0) zc <| .ite (decide (Int.tmod i.2.2.1 10000 < 0))
 (.need (1 * 8 ≤ 140737488355328) <| .triv (asT Int 10000 ≠ 0) zc <| .tt <| .lt ([w64 (0 - Int.tmod i.2.2.1 10000)] : List Int) fun z => .lt (w64 (Int.tdiv i.2.2.1 10000) : Int) fun z1 => .wV (wY z1 <| (vo 5 0 1 true) ∧ (wY (decide (n < 0)) <| vM ∧ True)) <| .wV (wU (vq 3 z) <| wU vY True) <| .ok (.inl ((false, z, z1, ()))))
 (.need (1 * 8 ≤ 140737488355328) <| .triv (asT Int 10000 ≠ 0) zc <| .tt <| .lt ([Int.tmod i.2.2.1 10000] : List Int) fun z2 => .lt (w64 (Int.tdiv i.2.2.1 10000) : Int) fun z3 => .wV (wY z3 <| (vo 5 0 1 true) ∧ (wY (decide (n < 0)) <| vM ∧ True)) <| .wV (wU (vq 3 z2) <| wU vY True) <| .ok (.inl ((false, z2, z3, ())))))
 (.call (abY (decide (n < 0), [], ())) auL fun y =>
 .ok (.inr (((y.1.1, y.1.2.1, ()), ())))))
 (.ite (i.2.2.1 != 0)
 (.triv (asT Int 10000 ≠ 0) zc <| .ite (decide (Int.tmod i.2.2.1 10000 < 0))
 (.need ((List.length i.2.1 + 1) * 8 ≤ 140737488355328) <| .triv (asT Int 10000 ≠ 0) zc <| .tt <| .lt (List.take (List.length i.2.1) i.2.1 ++ [w64 (0 - Int.tmod i.2.2.1 10000)] : List Int) fun z4 => .lt (w64 (Int.tdiv i.2.2.1 10000) : Int) fun z5 => .need (((z5 : Int) = z5) ∧ (((5) = (5)) ∧ (((0) = (0)) ∧ ((List.length i.2.1 + 1 = List.length z4) ∧ ((true) = (true))))) ∧ ((decide (n < 0)) = (decide (n < 0))) ∧ (((0) = (0)) ∧ (((0) = (0)) ∧ ((true) = (true)))) ∧ True) <| .wV (wU (vq 3 z4) <| wU vY True) <| .ok (.inl ((false, z4, z5, ()))))
 (.need ((List.length i.2.1 + 1) * 8 ≤ 140737488355328) <| .triv (asT Int 10000 ≠ 0) zc <| .tt <| .lt (List.take (List.length i.2.1) i.2.1 ++ [Int.tmod i.2.2.1 10000] : List Int) fun z6 => .lt (w64 (Int.tdiv i.2.2.1 10000) : Int) fun z7 => .need (((z7 : Int) = z7) ∧ (((5) = (5)) ∧ (((0) = (0)) ∧ ((List.length i.2.1 + 1 = List.length z6) ∧ ((true) = (true))))) ∧ ((decide (n < 0)) = (decide (n < 0))) ∧ (((0) = (0)) ∧ (((0) = (0)) ∧ ((true) = (true)))) ∧ True) <| .wV (wU (vq 3 z6) <| wU vY True) <| .ok (.inl ((false, z6, z7, ())))))
 (.call (abY (decide (n < 0), List.take (List.length i.2.1) i.2.1, ())) auL fun y1 =>
 .ok (.inr (((y1.1.1, y1.1.2.1, ()), ())))))
def aoX (n : Int) : TT ux :=
 .loop 0 (.tt <| .wV (wY n <| True ∧ (wY (decide (n < 0)) <| vM ∧ True)) <| .wV (wU vY True) <| .ok ((true, [], n, ()))) (ad8 n)
def aGG : LTab := []
def arG (n : Int) : TT ue :=
 .triv (asT Int 1000 ≠ 0) zc <| .triv (asT Int 100 ≠ 0) zc <| .triv (asT Int 10 ≠ 0) zc <| .triv (asT Int 10 ≠ 0) zc <| .triv (asT Int 10 ≠ 0) zc <| .triv (asT Int 10 ≠ 0) zc <| .ok ((List.map (fun n => UInt8.ofNat (Int.toNat n)) (List.take 4 [wu8 (w64 (48 + w64 (Int.tdiv n 1000))), wu8 (w64 (48 + Int.tmod (w64 (Int.tdiv n 100)) 10)), wu8 (w64 (48 + Int.tmod (w64 (Int.tdiv n 10)) 10)), wu8 (w64 (48 + Int.tmod n 10))]), ()))
def aGI : LTab := [(111, 58, 8192, ⟨0, (Int) × (List UInt8) × Unit, .dat (.s 4) vC <| .dat (.s 3) (Ty.str) <| .nil, [2, 1], [0], 0⟩), (111, 124, 11264, ⟨1, (Int) × Unit, .dat (.s 5) vC <| .nil, [3, 2, 1], [0], 0⟩)]
def ah4 (i1 : (Int) × Unit) (i : Int × List UInt8 × Unit) (a : Bool × List Int × Unit) : TT (ug ⊕ uu) :=
 .need (inc i1.1 (len i.2.1)) <| .ite (List.take (List.length i.2.1 - Int.toNat i1.1) (List.drop (Int.toNat i1.1) i.2.1) == #[].toList)
 (.ok (.inr (.inr ((#[48].toList, ())))))
 (.ite (a.1)
 (.need (List.length #[45].toList + List.length (List.take (List.length i.2.1 - Int.toNat i1.1) (List.drop (Int.toNat i1.1) i.2.1)) ≤ lim) <| .ok (.inr (.inr ((#[45].toList ++ List.take (List.length i.2.1 - Int.toNat i1.1) (List.drop (Int.toNat i1.1) i.2.1), ())))))
 (.ok (.inr (.inr ((List.take (List.length i.2.1 - Int.toNat i1.1) (List.drop (Int.toNat i1.1) i.2.1), ()))))))
def auX (a : Bool × List Int × Unit) (i : Int × List UInt8 × Unit) (i1 : (Int) × Unit) : TT (ug ⊕ uu) :=
 .ite (decide (i1.1 < len i.2.1))
 (.need (inb i1.1 (len i.2.1)) <| .ite ((↑(UInt8.toNat (gi i.2.1 i1.1 0)) : Int) == 48)
  (.tt <| .lt (w64 (i1.1 + 1) : Int) fun z3 => .wV (ve z3 i.2.1 (#[].toList : List UInt8) <| vM ∧ True) <| .wV (wU (vj 129 a.1 a.2.1) True) <| .ok (.inl ((z3, ()))))
  (ah4 i1 i a))
 (ah4 i1 i a)
def anR (a : Bool × List Int × Unit) (i : (Int) × (List UInt8) × Unit) : TT uu :=
 .ite (decide (i.1 ≥ 0))
 (.need (inb i.1 (len a.2.1)) <| .call (am6 (gi a.2.1 i.1 0, ())) Dd2 fun y =>
 .need (List.length i.2.1 + List.length y.1 ≤ lim) <| .tt <| .lt (w64 (i.1 - 1) : Int) fun z1 => .lt (i.2.1 ++ y.1 : List UInt8) fun z2 => .wV (ve z2 z1 (#[].toList : List UInt8) <| vM ∧ True) <| .wV (wU (vj 129 a.1 a.2.1) True) <| .ok (.inl ((z1, z2, ()))))
 (.loop 1 (.tt <| .wV (ve (0 : Int) i.2.1 (#[].toList : List UInt8) <| vM ∧ True) <| .wV (wU (vj 129 a.1 a.2.1) True) <| .ok ((0, ()))) (auX a i))
def arI (a : Bool × List Int × Unit) : TT ue :=
 .loop 0 (.tt <| .lt (w64 (len a.2.1 - 1) : Int) fun z => .wV (ve (#[].toList : List UInt8) z (#[].toList : List UInt8) <| vM ∧ True) <| .wV (wU (vj 129 a.1 a.2.1) True) <| .ok ((z, #[].toList, ()))) (anR a)
def aKB : LTab := []
def aDB (a : Bool × List Int × Unit) : TT (List UInt8 × Int × Unit) :=
 .call (am7 ((a.1, a.2.1, ()), ())) Dd2 fun y =>
 .ite (a.1)
 (.ite (decide (w64 (len y.1 - 1) > 600))
 (.ok ((#[].toList, 6, ())))
 (.ok ((y.1, 0, ()))))
 (.ite (decide (len y.1 > 600))
 (.ok ((#[].toList, 6, ())))
 (.ok ((y.1, 0, ()))))
def aEI : LTab := [(261, 58, 10240, ⟨0, (Int) × Unit, .dat (.s 5) vC <| .nil, [0, 1], [], 0⟩)]
def arE (a : List Int) (b : List Int) (i : (Int) × Unit) : TT (ug ⊕ ui) :=
 .ite (decide (i.1 ≥ 0))
 (.need (inb i.1 (len a)) <| .need (inb i.1 (len b)) <| .ite (gi a i.1 0 != gi b i.1 0)
 (.need (inb i.1 (len a)) <| .need (inb i.1 (len b)) <| .ok (.inr ((w64 (gi a i.1 0 - gi b i.1 0), ()))))
 (.tt <| .lt (w64 (i.1 - 1) : Int) fun z1 => .wV (vj z1 a b) <| .tr <| .ok (.inl ((z1, ())))))
 (.ok (.inr ((0, ()))))
def anO (a : List Int) (b : List Int) : TT ui :=
 .ite (len a != len b)
 (.ok ((w64 (len a - len b), ())))
 (.loop 0 (.tt <| .lt (w64 (len a - 1) : Int) fun z => .wV (vj z a b) <| .tr <| .ok ((z, ()))) (arE a b))
def aKz : LTab := [(264, 122, 4098, ⟨0, (Int) × (Int) × Bool × (List Int) × Unit, .dat (.s 7) vC <| .dat (.s 6) vC <| .appN (.s 5) 4 3 vC <| .nil, [4, 0, 1], [], 1⟩)]
def acY (i : (Int) × (Int) × Bool × (List Int) × Unit) (a : List Int) (b : List Int) : TT uc :=
 .ite (decide (i.1 < len a))
 (.need (inb i.1 (len a)) <| .ite (decide (i.1 < len b))
 (.need (inb i.1 (len b)) <| .triv (asT Int 10000 ≠ 0) zc <| .need ((List.length i.2.2.2.1 + 1) * 8 ≤ 140737488355328) <| .triv (asT Int 10000 ≠ 0) zc <| .tt <| .lt (w64 (i.1 + 1) : Int) fun z36 => .lt (w64 (Int.tdiv (w64 (w64 (i.2.1 + gi a i.1 0) + gi b i.1 0)) 10000) : Int) fun z37 => .lt (List.take (List.length i.2.2.2.1) i.2.2.2.1 ++ [Int.tmod (w64 (w64 (i.2.1 + gi a i.1 0) + gi b i.1 0)) 10000] : List Int) fun z38 => .need ((((4) = (4)) ∧ (((0) = (0)) ∧ ((List.length i.2.2.2.1 + 1 = List.length z38) ∧ ((true) = (true))))) ∧ ((z37 : Int) = z37) ∧ ((z36 : Int) = z36) ∧ True ∧ ((a) = (a)) ∧ ((b) = (b)) ∧ True) <| .wV (wU (vq 3 z38) True) <| .ok (.inl ((z36, z37, false, z38, ()))))
 (.triv (asT Int 10000 ≠ 0) zc <| .need ((List.length i.2.2.2.1 + 1) * 8 ≤ 140737488355328) <| .triv (asT Int 10000 ≠ 0) zc <| .tt <| .lt (w64 (i.1 + 1) : Int) fun z39 => .lt (w64 (Int.tdiv (w64 (i.2.1 + gi a i.1 0)) 10000) : Int) fun z40 => .lt (List.take (List.length i.2.2.2.1) i.2.2.2.1 ++ [Int.tmod (w64 (i.2.1 + gi a i.1 0)) 10000] : List Int) fun z41 => .need ((((4) = (4)) ∧ (((0) = (0)) ∧ ((List.length i.2.2.2.1 + 1 = List.length z41) ∧ ((true) = (true))))) ∧ ((z40 : Int) = z40) ∧ ((z39 : Int) = z39) ∧ True ∧ ((a) = (a)) ∧ ((b) = (b)) ∧ True) <| .wV (wU (vq 3 z41) True) <| .ok (.inl ((z39, z40, false, z41, ())))))
 (.ite (decide (i.1 < len b))
 (.need (inb i.1 (len b)) <| .triv (asT Int 10000 ≠ 0) zc <| .need ((List.length i.2.2.2.1 + 1) * 8 ≤ 140737488355328) <| .triv (asT Int 10000 ≠ 0) zc <| .tt <| .lt (w64 (i.1 + 1) : Int) fun z42 => .lt (w64 (Int.tdiv (w64 (i.2.1 + gi b i.1 0)) 10000) : Int) fun z43 => .lt (List.take (List.length i.2.2.2.1) i.2.2.2.1 ++ [Int.tmod (w64 (i.2.1 + gi b i.1 0)) 10000] : List Int) fun z44 => .need ((((4) = (4)) ∧ (((0) = (0)) ∧ ((List.length i.2.2.2.1 + 1 = List.length z44) ∧ ((true) = (true))))) ∧ ((z43 : Int) = z43) ∧ ((z42 : Int) = z42) ∧ True ∧ ((a) = (a)) ∧ ((b) = (b)) ∧ True) <| .wV (wU (vq 3 z44) True) <| .ok (.inl ((z42, z43, false, z44, ()))))
 (.triv (asT Int 10000 ≠ 0) zc <| .need ((List.length i.2.2.2.1 + 1) * 8 ≤ 140737488355328) <| .triv (asT Int 10000 ≠ 0) zc <| .tt <| .lt (w64 (i.1 + 1) : Int) fun z45 => .lt (w64 (Int.tdiv i.2.1 10000) : Int) fun z46 => .lt (List.take (List.length i.2.2.2.1) i.2.2.2.1 ++ [Int.tmod i.2.1 10000] : List Int) fun z47 => .need ((((4) = (4)) ∧ (((0) = (0)) ∧ ((List.length i.2.2.2.1 + 1 = List.length z47) ∧ ((true) = (true))))) ∧ ((z46 : Int) = z46) ∧ ((z45 : Int) = z45) ∧ True ∧ ((a) = (a)) ∧ ((b) = (b)) ∧ True) <| .wV (wU (vq 3 z47) True) <| .ok (.inl ((z45, z46, false, z47, ())))))
def acX (i : (Int) × (Int) × Bool × (List Int) × Unit) (a : List Int) (b : List Int) : TT uc :=
 .ite (decide (i.1 < len a))
 (.need (inb i.1 (len a)) <| .ite (decide (i.1 < len b))
 (.need (inb i.1 (len b)) <| .triv (asT Int 10000 ≠ 0) zc <| .need (1 * 8 ≤ 140737488355328) <| .triv (asT Int 10000 ≠ 0) zc <| .tt <| .lt (w64 (i.1 + 1) : Int) fun z => .lt (w64 (Int.tdiv (w64 (w64 (i.2.1 + gi a i.1 0) + gi b i.1 0)) 10000) : Int) fun z1 => .lt ([Int.tmod (w64 (w64 (i.2.1 + gi a i.1 0) + gi b i.1 0)) 10000] : List Int) fun z2 => .wV (uo ∧ (vt z1 z <| True ∧ vu a b)) <| .wV (wU (vq 3 z2) True) <| .ok (.inl ((z, z1, false, z2, ()))))
 (.triv (asT Int 10000 ≠ 0) zc <| .need (1 * 8 ≤ 140737488355328) <| .triv (asT Int 10000 ≠ 0) zc <| .tt <| .lt (w64 (i.1 + 1) : Int) fun z3 => .lt (w64 (Int.tdiv (w64 (i.2.1 + gi a i.1 0)) 10000) : Int) fun z4 => .lt ([Int.tmod (w64 (i.2.1 + gi a i.1 0)) 10000] : List Int) fun z5 => .wV (uo ∧ (vt z4 z3 <| True ∧ vu a b)) <| .wV (wU (vq 3 z5) True) <| .ok (.inl ((z3, z4, false, z5, ())))))
 (.ite (decide (i.1 < len b))
 (.need (inb i.1 (len b)) <| .triv (asT Int 10000 ≠ 0) zc <| .need (1 * 8 ≤ 140737488355328) <| .triv (asT Int 10000 ≠ 0) zc <| .tt <| .lt (w64 (i.1 + 1) : Int) fun z6 => .lt (w64 (Int.tdiv (w64 (i.2.1 + gi b i.1 0)) 10000) : Int) fun z7 => .lt ([Int.tmod (w64 (i.2.1 + gi b i.1 0)) 10000] : List Int) fun z8 => .wV (uo ∧ (vt z7 z6 <| True ∧ vu a b)) <| .wV (wU (vq 3 z8) True) <| .ok (.inl ((z6, z7, false, z8, ()))))
 (.triv (asT Int 10000 ≠ 0) zc <| .need (1 * 8 ≤ 140737488355328) <| .triv (asT Int 10000 ≠ 0) zc <| .tt <| .lt (w64 (i.1 + 1) : Int) fun z9 => .lt (w64 (Int.tdiv i.2.1 10000) : Int) fun z10 => .lt ([Int.tmod i.2.1 10000] : List Int) fun z11 => .wV (uo ∧ (vt z10 z9 <| True ∧ vu a b)) <| .wV (wU (vq 3 z11) True) <| .ok (.inl ((z9, z10, false, z11, ())))))
def ajF (a : List Int) (b : List Int) (i : (Int) × (Int) × Bool × (List Int) × Unit) : TT uc :=
 .ite (i.2.2.1)
 (.ite (decide (i.1 < len a))
  (acX i a b)
  (.ite (decide (i.1 < len b))
   (acX i a b)
   (.ite (decide (i.2.1 > 0))
    (acX i a b)
    (.ok (.inr (([], ())))))))
 (.ite (decide (i.1 < len a))
  (acY i a b)
  (.ite (decide (i.1 < len b))
   (acY i a b)
   (.ite (decide (i.2.1 > 0))
    (acY i a b)
    (.ok (.inr ((List.take (List.length i.2.2.2.1) i.2.2.2.1, ())))))))
def aDz (a : List Int) (b : List Int) : TT vL :=
 .loop 0 (.tt <| .wV (True ∧ (vt (0 : Int) (0 : Int) <| True ∧ vu a b)) <| .tr <| .ok ((0, 0, true, [], ()))) (ajF a b)
def arH : LTab := [(263, 122, 4098, ⟨0, (Int) × (Int) × Bool × (List Int) × Unit, .dat (.s 7) vC <| .dat (.s 6) vC <| .appN (.s 5) 4 3 vC <| .nil, [4, 0, 1], [], 1⟩)]
def abH (a : List Int) (b : List Int) (i : (Int) × (Int) × Bool × (List Int) × Unit) : TT uc :=
 .ite (i.2.2.1)
 (.ite (decide (i.1 < len a))
 (.need (inb i.1 (len a)) <| .ite (decide (i.1 < len b))
 (.need (inb i.1 (len b)) <| .ite (decide (w64 (w64 (gi a i.1 0 - i.2.1) - gi b i.1 0) < 0))
 (.need (1 * 8 ≤ 140737488355328) <| .tt <| .lt (w64 (i.1 + 1) : Int) fun z => .lt ([w64 (w64 (w64 (gi a i.1 0 - i.2.1) - gi b i.1 0) + 10000)] : List Int) fun z1 => .wV (uo ∧ (vt (1 : Int) z <| True ∧ vu a b)) <| .wV (wU (vq 3 z1) True) <| .ok (.inl ((z, 1, false, z1, ()))))
 (.need (1 * 8 ≤ 140737488355328) <| .tt <| .lt (w64 (i.1 + 1) : Int) fun z2 => .lt ([w64 (w64 (gi a i.1 0 - i.2.1) - gi b i.1 0)] : List Int) fun z3 => .wV (uo ∧ (vt (0 : Int) z2 <| True ∧ vu a b)) <| .wV (wU (vq 3 z3) True) <| .ok (.inl ((z2, 0, false, z3, ())))))
 (.ite (decide (w64 (gi a i.1 0 - i.2.1) < 0))
 (.need (1 * 8 ≤ 140737488355328) <| .tt <| .lt (w64 (i.1 + 1) : Int) fun z4 => .lt ([w64 (w64 (gi a i.1 0 - i.2.1) + 10000)] : List Int) fun z5 => .wV (uo ∧ (vt (1 : Int) z4 <| True ∧ vu a b)) <| .wV (wU (vq 3 z5) True) <| .ok (.inl ((z4, 1, false, z5, ()))))
 (.need (1 * 8 ≤ 140737488355328) <| .tt <| .lt (w64 (i.1 + 1) : Int) fun z6 => .lt ([w64 (gi a i.1 0 - i.2.1)] : List Int) fun z7 => .wV (uo ∧ (vt (0 : Int) z6 <| True ∧ vu a b)) <| .wV (wU (vq 3 z7) True) <| .ok (.inl ((z6, 0, false, z7, ()))))))
 (.call (abM ([], ())) auM fun y =>
 .ok (.inr ((y.1, ())))))
 (.ite (decide (i.1 < len a))
 (.need (inb i.1 (len a)) <| .ite (decide (i.1 < len b))
 (.need (inb i.1 (len b)) <| .ite (decide (w64 (w64 (gi a i.1 0 - i.2.1) - gi b i.1 0) < 0))
 (.need ((List.length i.2.2.2.1 + 1) * 8 ≤ 140737488355328) <| .tt <| .lt (w64 (i.1 + 1) : Int) fun z8 => .lt (List.take (List.length i.2.2.2.1) i.2.2.2.1 ++ [w64 (w64 (w64 (gi a i.1 0 - i.2.1) - gi b i.1 0) + 10000)] : List Int) fun z9 => .need ((((4) = (4)) ∧ (((0) = (0)) ∧ ((List.length i.2.2.2.1 + 1 = List.length z9) ∧ ((true) = (true))))) ∧ ((1 : Int) = 1) ∧ ((z8 : Int) = z8) ∧ True ∧ ((a) = (a)) ∧ ((b) = (b)) ∧ True) <| .wV (wU (vq 3 z9) True) <| .ok (.inl ((z8, 1, false, z9, ()))))
 (.need ((List.length i.2.2.2.1 + 1) * 8 ≤ 140737488355328) <| .tt <| .lt (w64 (i.1 + 1) : Int) fun z10 => .lt (List.take (List.length i.2.2.2.1) i.2.2.2.1 ++ [w64 (w64 (gi a i.1 0 - i.2.1) - gi b i.1 0)] : List Int) fun z11 => .need ((((4) = (4)) ∧ (((0) = (0)) ∧ ((List.length i.2.2.2.1 + 1 = List.length z11) ∧ ((true) = (true))))) ∧ ((0 : Int) = 0) ∧ ((z10 : Int) = z10) ∧ True ∧ ((a) = (a)) ∧ ((b) = (b)) ∧ True) <| .wV (wU (vq 3 z11) True) <| .ok (.inl ((z10, 0, false, z11, ())))))
 (.ite (decide (w64 (gi a i.1 0 - i.2.1) < 0))
 (.need ((List.length i.2.2.2.1 + 1) * 8 ≤ 140737488355328) <| .tt <| .lt (w64 (i.1 + 1) : Int) fun z12 => .lt (List.take (List.length i.2.2.2.1) i.2.2.2.1 ++ [w64 (w64 (gi a i.1 0 - i.2.1) + 10000)] : List Int) fun z13 => .need ((((4) = (4)) ∧ (((0) = (0)) ∧ ((List.length i.2.2.2.1 + 1 = List.length z13) ∧ ((true) = (true))))) ∧ ((1 : Int) = 1) ∧ ((z12 : Int) = z12) ∧ True ∧ ((a) = (a)) ∧ ((b) = (b)) ∧ True) <| .wV (wU (vq 3 z13) True) <| .ok (.inl ((z12, 1, false, z13, ()))))
 (.need ((List.length i.2.2.2.1 + 1) * 8 ≤ 140737488355328) <| .tt <| .lt (w64 (i.1 + 1) : Int) fun z14 => .lt (List.take (List.length i.2.2.2.1) i.2.2.2.1 ++ [w64 (gi a i.1 0 - i.2.1)] : List Int) fun z15 => .need ((((4) = (4)) ∧ (((0) = (0)) ∧ ((List.length i.2.2.2.1 + 1 = List.length z15) ∧ ((true) = (true))))) ∧ ((0 : Int) = 0) ∧ ((z14 : Int) = z14) ∧ True ∧ ((a) = (a)) ∧ ((b) = (b)) ∧ True) <| .wV (wU (vq 3 z15) True) <| .ok (.inl ((z14, 0, false, z15, ()))))))
 (.call (abM (List.take (List.length i.2.2.2.1) i.2.2.2.1, ())) auM fun y1 =>
 .ok (.inr ((y1.1, ())))))
def ajG (a : List Int) (b : List Int) : TT vL :=
 .loop 0 (.tt <| .wV (True ∧ (vt (0 : Int) (0 : Int) <| True ∧ vu a b)) <| .tr <| .ok ((0, 0, true, [], ()))) (abH a b)
def azG : LTab := [(262, 58, 9217, ⟨0, (Int) × (List Int) × Unit, .dat (.s 6) vC <| .row 6 vC <| .nil, [5, 4, 0, 1], [6], 0⟩), (262, 14922, 15361, ⟨1, (Int) × (Int) × (List Int) × Unit, .dat (.s 8) vC <| .dat (.s 7) vC <| .row 6 vC <| .nil, [18, 17, 16, 15, 6, 5, 4, 0, 1], [6], 0⟩)]
def ac6 (a : List Int) (b : List Int) (i : Int × List Int × Unit) (i1 : (Int) × (Int) × (List Int) × Unit) : TT (uf ⊕ uj) :=
 .ite (decide (i1.1 < len b))
 (.need (inb (w64 (i.1 + i1.1)) (↑(Int.toNat (w64 (len a + len b))) : Int)) <| .need (inb i.1 (len a)) <| .need (inb i1.1 (len b)) <| .triv (asT Int 10000 ≠ 0) zc <| .need (inb (w64 (i.1 + i1.1)) (↑(Int.toNat (w64 (len a + len b))) : Int)) <| .triv (asT Int 10000 ≠ 0) zc <| .tt <| .lt (w64 (i1.1 + 1) : Int) fun z2 => .lt (w64 (Int.tdiv (w64 (w64 (i1.2.1 + List.getD i1.2.2.1 (0 + Int.toNat (w64 (i.1 + i1.1))) 0) + w64 (gi a i.1 0 * gi b i1.1 0))) 10000) : Int) fun z3 => .lt (List.set i1.2.2.1 (0 + Int.toNat (w64 (i.1 + i1.1))) (Int.tmod (w64 (w64 (i1.2.1 + List.getD i1.2.2.1 (0 + Int.toNat (w64 (i.1 + i1.1))) 0) + w64 (gi a i.1 0 * gi b i1.1 0))) 10000) : List Int) fun z4 => .wV (vw z3 z2 (decide (i.1 < len a)) (len a) a i.1 i.1 <| (vo 6 0 (Int.toNat (w64 (len a + len b))) true) ∧ True ∧ vu a b) <| .wV (wU (vq 3 z4) True) <| .ok (.inl ((z2, z3, z4, ()))))
 (.need (inb (w64 (i.1 + len b)) (↑(Int.toNat (w64 (len a + len b))) : Int)) <| .tt <| .lt (w64 (i.1 + 1) : Int) fun z5 => .lt (List.set i1.2.2.1 (0 + Int.toNat (w64 (i.1 + len b))) i1.2.1 : List Int) fun z6 => .wV (wY z5 <| (vo 6 0 (Int.toNat (w64 (len a + len b))) true) ∧ True ∧ vu a b) <| .wV (wU (vq 3 z6) True) <| .ok (.inr (.inl ((z5, z6, ())))))
def ah3 (a : List Int) (b : List Int) (i : (Int) × (List Int) × Unit) : TT uj :=
 .ite (decide (i.1 < len a))
 (.loop 1 (.tt <| .lt (i.2.1 : List Int) fun z1 => .wV (vw (0 : Int) (0 : Int) (decide (i.1 < len a)) (len a) a i.1 i.1 <| (vo 6 0 (Int.toNat (w64 (len a + len b))) true) ∧ True ∧ vu a b) <| .wV (wU (vq 3 z1) True) <| .ok ((0, 0, z1, ()))) (ac6 a b i))
 (.call (abM (List.take (Int.toNat (w64 (len a + len b))) i.2.1, ())) auM fun y =>
 .ok (.inr ((y.1, ()))))
def adQ (a : List Int) (b : List Int) : TT vL :=
 .need (0 ≤ w64 (len a + len b) ∧ w64 (len a + len b) ≤ w64 (len a + len b) ∧ w64 (len a + len b) * (↑8 : Int) ≤ 140737488355328) <| .loop 0 (.tt <| .lt (List.replicate (Int.toNat (w64 (len a + len b))) 0 : List Int) fun z => .wV (wY (0 : Int) <| (vo 6 0 (Int.toNat (w64 (len a + len b))) true) ∧ True ∧ vu a b) <| .wV (wU (vq 3 z) True) <| .ok ((0, z, ()))) (ah3 a b)
def aGE : LTab := [(260, 122, 11265, ⟨0, (Int) × (Int) × (List Int) × Unit, .dat (.s 8) vC <| .dat (.s 7) vC <| .row 4 vC <| .nil, [6, 5, 4, 0, 1], [4], 0⟩)]
def anP (a : List Int) (d : Int) (i : (Int) × (Int) × (List Int) × Unit) : TT (uf ⊕ uy) :=
 .ite (decide (i.1 ≥ 0))
 (.need (inb i.1 (len a)) <| .need (d ≠ 0) <| .need (inb i.1 (↑(Int.toNat (len a)) : Int)) <| .need (d ≠ 0) <| .tt <| .lt (w64 (i.1 - 1) : Int) fun z2 => .lt (Int.tmod (w64 (w64 (i.2.1 * 10000) + gi a i.1 0)) d : Int) fun z3 => .lt (List.set i.2.2.1 (0 + Int.toNat i.1) (w64 (Int.tdiv (w64 (w64 (i.2.1 * 10000) + gi a i.1 0)) d)) : List Int) fun z4 => .wV (vt z3 z2 <| (vo 4 0 (Int.toNat (len a)) true) ∧ (wY (0 : Int) <| True ∧ vu a d)) <| .wV (wU (vq 3 z4) True) <| .ok (.inl ((z2, z3, z4, ()))))
 (.call (abM (List.take (Int.toNat (len a)) i.2.2.1, ())) auM fun y =>
 .ok (.inr ((y.1, i.2.1, ()))))
def arF (a : List Int) (d : Int) : TT uy :=
 .need (0 ≤ len a ∧ len a ≤ len a ∧ len a * (↑8 : Int) ≤ 140737488355328) <| .loop 0 (.tt <| .lt (w64 (len a - 1) : Int) fun z => .lt (List.replicate (Int.toNat (len a)) 0 : List Int) fun z1 => .wV (vt (0 : Int) z <| (vo 4 0 (Int.toNat (len a)) true) ∧ (wY (0 : Int) <| True ∧ vu a d)) <| .wV (wU (vq 3 z1) True) <| .ok ((z, 0, z1, ()))) (anP a d)
end
end Go.Vs
