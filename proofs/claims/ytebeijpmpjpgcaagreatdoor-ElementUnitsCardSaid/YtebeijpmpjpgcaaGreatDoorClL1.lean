/-
  Trees of what the functions compute, and their laws. Own work; no condition.
-/
import Derived.Test.YtebeijpmpjpgcaaGreatDoorClX1
import Derived.KernelRfl
import Derived.Test.YtebeijpmpjpgcaaGreatDoorProg
set_option linter.unusedVariables false
set_option linter.unusedSimpArgs false
namespace Go.Vg
open Go Go.Proofs
set_option maxRecDepth 1000000
set_option maxHeartbeats 0
theorem aFg : aa9 (abF Tryz.prog afX 100000 aMb 40) [⟨53, (.pair (.pair (.int .i64) (.pair (.sl (.pair (.int .i64) (.pair (.sl (.int .i64)) (.pair (.sl (.pair (.int .i64) (.pair (.int .i64) (.pair (.int .i64) (.pair (.int .i64) (.pair (.int .i64) (.pair (.int .i64) .unit))))))) .unit)))) (.pair (.sl (.sl (.int .i64))) (.pair (.sl (.int .i64)) (.pair (.pair (.sl (.int .i64)) (.pair (.int .i64) (.pair (.sl (.int .i64)) .unit))) (.pair (.sl (.pair (.int .i64) (.pair (.int .i64) .unit))) (.pair (.int .i64) (.pair (.int .i64) .unit)))))))) .unit), .pair (.int .i64) (.pair (.int .i64) .unit), Vs.apZ⟩] = true := by kernel_rfl
theorem rowsI_at (x : Vs.ElT × Unit) (y : Int × Int × Unit) (h : (x, y) ∈ Vs.apZ) : At Tryz.prog (Gt Tryz.prog) 53 (.pair (.pair (.int .i64) (.pair (.sl (.pair (.int .i64) (.pair (.sl (.int .i64)) (.pair (.sl (.pair (.int .i64) (.pair (.int .i64) (.pair (.int .i64) (.pair (.int .i64) (.pair (.int .i64) (.pair (.int .i64) .unit))))))) .unit)))) (.pair (.sl (.sl (.int .i64))) (.pair (.sl (.int .i64)) (.pair (.pair (.sl (.int .i64)) (.pair (.int .i64) (.pair (.sl (.int .i64)) .unit))) (.pair (.sl (.pair (.int .i64) (.pair (.int .i64) .unit))) (.pair (.int .i64) (.pair (.int .i64) .unit)))))))) .unit) (.pair (.int .i64) (.pair (.int .i64) .unit)) x y := by
 have h0 := aFg
 rw [(apW (P := Tryz.prog) (sig := afX) 100000 aMb 40).1] at h0
 exact (apX an5 an1 aBB agT 100000 40).1 _ _ _ _ _ (aqG (ag8 h0 _ zv) x y h)
theorem aFf : aa9 (abF Tryz.prog afX 100000 aMb 40) [⟨11, (.pair (.pair (.int .i64) (.pair (.sl (.pair (.int .i64) (.pair (.sl (.int .i64)) (.pair (.sl (.pair (.int .i64) (.pair (.int .i64) (.pair (.int .i64) (.pair (.int .i64) (.pair (.int .i64) (.pair (.int .i64) .unit))))))) .unit)))) (.pair (.sl (.sl (.int .i64))) (.pair (.sl (.int .i64)) (.pair (.pair (.sl (.int .i64)) (.pair (.int .i64) (.pair (.sl (.int .i64)) .unit))) (.pair (.sl (.pair (.int .i64) (.pair (.int .i64) .unit))) (.pair (.int .i64) (.pair (.int .i64) .unit)))))))) .unit), .pair .bool .unit, Vs.apY⟩] = true := by kernel_rfl
theorem rowsX_at (x : Vs.ElT × Unit) (y : Bool × Unit) (h : (x, y) ∈ Vs.apY) : At Tryz.prog (Gt Tryz.prog) 11 (.pair (.pair (.int .i64) (.pair (.sl (.pair (.int .i64) (.pair (.sl (.int .i64)) (.pair (.sl (.pair (.int .i64) (.pair (.int .i64) (.pair (.int .i64) (.pair (.int .i64) (.pair (.int .i64) (.pair (.int .i64) .unit))))))) .unit)))) (.pair (.sl (.sl (.int .i64))) (.pair (.sl (.int .i64)) (.pair (.pair (.sl (.int .i64)) (.pair (.int .i64) (.pair (.sl (.int .i64)) .unit))) (.pair (.sl (.pair (.int .i64) (.pair (.int .i64) .unit))) (.pair (.int .i64) (.pair (.int .i64) .unit)))))))) .unit) (.pair .bool .unit) x y := by
 have h0 := aFf
 rw [(apW (P := Tryz.prog) (sig := afX) 100000 aMb 40).1] at h0
 exact (apX an5 an1 aBB agT 100000 40).1 _ _ _ _ _ (aqG (ag8 h0 _ zv) x y h)
end Go.Vg
namespace Go.Vs
open Go Go.Vg Go.Proofs
theorem aDH : (aCY .unit (.pair .bool .unit) aeU).ok Tryz.prog Gt 5 := by
 refine anI (by kernel_rfl) (fun w ok vs x y hG hok hvs hy => ?_)
 have hy' : y = (true, ()) := (Option.some.inj hy).symm
 subst hy'
 exact Go.Vg.top_at.2 w ok vs x hG.1 hok hvs rfl
theorem aJg : (aCY (.pair (.pair (.int .i64) (.pair (.sl (.pair (.int .i64) (.pair (.sl (.int .i64)) (.pair (.sl (.pair (.int .i64) (.pair (.int .i64) (.pair (.int .i64) (.pair (.int .i64) (.pair (.int .i64) (.pair (.int .i64) .unit))))))) .unit)))) (.pair (.sl (.sl (.int .i64))) (.pair (.sl (.int .i64)) (.pair (.pair (.sl (.int .i64)) (.pair (.int .i64) (.pair (.sl (.int .i64)) .unit))) (.pair (.sl (.pair (.int .i64) (.pair (.int .i64) .unit))) (.pair (.int .i64) (.pair (.int .i64) .unit)))))))) .unit) (.pair (.int .i64) (.pair (.int .i64) .unit)) ab1).ok Tryz.prog Gt 53 :=
 anI (by kernel_rfl) (fun w ok vs x y hG hok hvs hy => (Go.Vg.rowsI_at x y (aqS hy)).2 w ok vs x hG.1 hok hvs rfl)
theorem aDI : (aCY (.pair (.pair (.int .i64) (.pair (.sl (.pair (.int .i64) (.pair (.sl (.int .i64)) (.pair (.sl (.pair (.int .i64) (.pair (.int .i64) (.pair (.int .i64) (.pair (.int .i64) (.pair (.int .i64) (.pair (.int .i64) .unit))))))) .unit)))) (.pair (.sl (.sl (.int .i64))) (.pair (.sl (.int .i64)) (.pair (.pair (.sl (.int .i64)) (.pair (.int .i64) (.pair (.sl (.int .i64)) .unit))) (.pair (.sl (.pair (.int .i64) (.pair (.int .i64) .unit))) (.pair (.int .i64) (.pair (.int .i64) .unit)))))))) .unit) (.pair .bool .unit) abD).ok Tryz.prog Gt 11 :=
 anI (by kernel_rfl) (fun w ok vs x y hG hok hvs hy => (Go.Vg.rowsX_at x y (aqS hy)).2 w ok vs x hG.1 hok hvs rfl)
set_option maxRecDepth 100000
open Go Go.Vg Go.Proofs
noncomputable section
def aGU : LTab := []
def aq2 (m : List Int) : TT vI :=
 .ok ((len m == 0, ()))
def aGV : LTab := [(252, 12, 1025, ⟨0, (List Int) × Unit, .dat (.s 0) vV <| .nil, [2], [], 0⟩)]
def auN (m : List Int) (i : (List Int) × Unit) : TT (((List Int) × Unit) ⊕ vG) :=
 .ite (decide (len i.1 > 0))
 (.need (inb (w64 (len i.1 - 1)) (len i.1)) <| .ite (gi i.1 (w64 (len i.1 - 1)) 0 == 0)
 (.need (inc (w64 (len i.1 - 1)) (len i.1)) <| .tt <| .lt (List.take (Int.toNat (w64 (len i.1 - 1))) i.1 : List Int) fun z => .wT (wU z <| True ∧ True) <| .tr <| .ok (.inl ((z, ()))))
 (.ok (.inr ((i.1, ())))))
 (.ok (.inr ((i.1, ()))))
def aq3 (m : List Int) : TT vG :=
 .loop 0 (.tt <| .wT (wU m <| True ∧ True) <| .tr <| .ok ((m, ()))) (auN m)
def aD7 : LTab := [(164, 58, 6144, ⟨0, (Int) × (Int) × Unit, .dat (.s 4) vz <| .dat (.s 3) vN <| .nil, [2, 0], [], 0⟩)]
def aq6 (m : List Int) (i : (Int) × (Int) × Unit) : TT (vO ⊕ vW) :=
 .ite (decide (i.1 ≥ 0))
 (.need (inb i.1 (len m)) <| .tt <| .lt (w64 (i.1 - 1) : Int) fun z1 => .lt (abZ (abZ (i.2.1 * 1000000000) + abZ (gi m i.1 0)) : Int) fun z2 => .wT (wV z2 z1 (0 : Int) m) <| .tr <| .ok (.inl ((z1, z2, ()))))
 (.ok (.inr ((i.2.1, ()))))
def auO (m : List Int) : TT vW :=
 .loop 0 (.tt <| .lt (w64 (len m - 1) : Int) fun z => .wT (wV (0 : Int) z (0 : Int) m) <| .tr <| .ok ((z, 0, ()))) (aq6 m)
def azP : LTab := [(99, 58, 10240, ⟨0, (Int) × Unit, .dat (.s 5) vz <| .nil, [0, 1], [], 0⟩)]
def alW (m : List Int) (o : List Int) (i : (Int) × Unit) : TT (vZ ⊕ vW) :=
 .ite (decide (i.1 ≥ 0))
 (.need (inb i.1 (len m)) <| .need (inb i.1 (len o)) <| .ite (gi m i.1 0 != gi o i.1 0)
 (.need (inb i.1 (len m)) <| .need (inb i.1 (len o)) <| .tt <| .tt <| .tt <| .tt <| .tt <| .tt <| .ite (gi m i.1 0 != gi m i.1 0)
 (.ite (gi o i.1 0 != gi o i.1 0)
 (.ok (.inr ((0, ()))))
 (.ok (.inr ((-1, ())))))
 (.ite (gi o i.1 0 != gi o i.1 0)
 (.ok (.inr ((1, ()))))
 (.ite (decide (gi m i.1 0 < gi o i.1 0))
 (.ok (.inr ((-1, ()))))
 (.ite (decide (gi m i.1 0 > gi o i.1 0))
 (.ok (.inr ((1, ()))))
 (.ok (.inr ((0, ()))))))))
 (.tt <| .lt (w64 (i.1 - 1) : Int) fun z1 => .wT (wW z1 m o) <| .tr <| .ok (.inl ((z1, ())))))
 (.ok (.inr ((0, ()))))
def aiZ (m : List Int) (o : List Int) : TT vW :=
 .ite (len m != len o)
 (.tt <| .tt <| .tt <| .tt <| .tt <| .tt <| .ite (len m != len m)
 (.ite (len o != len o)
 (.ok ((0, ())))
 (.ok ((-1, ()))))
 (.ite (len o != len o)
 (.ok ((1, ())))
 (.ite (decide (len m < len o))
 (.ok ((-1, ())))
 (.ite (decide (len m > len o))
 (.ok ((1, ())))
 (.ok ((0, ())))))))
 (.loop 0 (.tt <| .lt (w64 (len m - 1) : Int) fun z => .wT (wW z m o) <| .tr <| .ok ((z, ()))) (alW m o))
def aGW : LTab := [(269, 3, 1025, ⟨0, (List Int) × (List Int) × Unit, .dat (.s 0) vV <| .dat (.s 1) vV <| .nil, [4], [], 0⟩), (269, 250, 10241, ⟨1, (Int) × (Int) × (List Int) × Unit, .dat (.s 22) vz <| .dat (.s 6) vB <| .app (.s 5) 10 170 vB <| .nil, [21, 20, 1, 4], [], 1⟩)]
def auP (m : List Int) (o : List Int) (j : List Int × List Int × Unit) (i : (Int) × (Int) × (List Int) × Unit) : TT (vM ⊕ vG) :=
 .ite (decide (i.1 < len j.1))
 (.need (inb i.1 (len j.1)) <| .ite (decide (i.1 < len j.2.1))
 (.need (inb i.1 (len j.2.1)) <| .ite (decide (adY (adY (gi j.1 i.1 0 + i.2.1) + gi j.2.1 i.1 0) ≥ 1000000000))
 (.need ((List.length i.2.2.1 + 1) * 4 ≤ 140737488355328) <| .tt <| .lt (w64 (i.1 + 1) : Int) fun z1 => .lt (List.take (List.length i.2.2.1) i.2.2.1 ++ [adY (adY (adY (gi j.1 i.1 0 + i.2.1) + gi j.2.1 i.1 0) - 1000000000)] : List Int) fun z2 => .need ((((10) = (10)) ∧ (((0) = (0)) ∧ ((List.length i.2.2.1 + 1 = List.length z2) ∧ ((true) = (true))))) ∧ ((1 : Int) = 1) ∧ ((z1 : Int) = z1) ∧ ((len j.1 : Int) = len j.1) ∧ ((j.1 : List Int) = j.1) ∧ ((j.2.1 : List Int) = j.2.1) ∧ True ∧ True) <| .wT (wS (wX 170 z2) True) <| .ok (.inl ((z1, 1, z2, ()))))
 (.need ((List.length i.2.2.1 + 1) * 4 ≤ 140737488355328) <| .tt <| .lt (w64 (i.1 + 1) : Int) fun z3 => .lt (List.take (List.length i.2.2.1) i.2.2.1 ++ [adY (adY (gi j.1 i.1 0 + i.2.1) + gi j.2.1 i.1 0)] : List Int) fun z4 => .need ((((10) = (10)) ∧ (((0) = (0)) ∧ ((List.length i.2.2.1 + 1 = List.length z4) ∧ ((true) = (true))))) ∧ ((0 : Int) = 0) ∧ ((z3 : Int) = z3) ∧ ((len j.1 : Int) = len j.1) ∧ ((j.1 : List Int) = j.1) ∧ ((j.2.1 : List Int) = j.2.1) ∧ True ∧ True) <| .wT (wS (wX 170 z4) True) <| .ok (.inl ((z3, 0, z4, ())))))
 (.ite (decide (adY (gi j.1 i.1 0 + i.2.1) ≥ 1000000000))
 (.need ((List.length i.2.2.1 + 1) * 4 ≤ 140737488355328) <| .tt <| .lt (w64 (i.1 + 1) : Int) fun z5 => .lt (List.take (List.length i.2.2.1) i.2.2.1 ++ [adY (adY (gi j.1 i.1 0 + i.2.1) - 1000000000)] : List Int) fun z6 => .need ((((10) = (10)) ∧ (((0) = (0)) ∧ ((List.length i.2.2.1 + 1 = List.length z6) ∧ ((true) = (true))))) ∧ ((1 : Int) = 1) ∧ ((z5 : Int) = z5) ∧ ((len j.1 : Int) = len j.1) ∧ ((j.1 : List Int) = j.1) ∧ ((j.2.1 : List Int) = j.2.1) ∧ True ∧ True) <| .wT (wS (wX 170 z6) True) <| .ok (.inl ((z5, 1, z6, ()))))
 (.need ((List.length i.2.2.1 + 1) * 4 ≤ 140737488355328) <| .tt <| .lt (w64 (i.1 + 1) : Int) fun z7 => .lt (List.take (List.length i.2.2.1) i.2.2.1 ++ [adY (gi j.1 i.1 0 + i.2.1)] : List Int) fun z8 => .need ((((10) = (10)) ∧ (((0) = (0)) ∧ ((List.length i.2.2.1 + 1 = List.length z8) ∧ ((true) = (true))))) ∧ ((0 : Int) = 0) ∧ ((z7 : Int) = z7) ∧ ((len j.1 : Int) = len j.1) ∧ ((j.1 : List Int) = j.1) ∧ ((j.2.1 : List Int) = j.2.1) ∧ True ∧ True) <| .wT (wS (wX 170 z8) True) <| .ok (.inl ((z7, 0, z8, ()))))))
 (.ite (decide (i.2.1 > 0))
 (.need ((List.length i.2.2.1 + 1) * 4 ≤ 140737488355328) <| .ok (.inr ((List.take (List.length i.2.2.1 + 1) (List.take (List.length i.2.2.1) i.2.2.1 ++ [i.2.1]), ()))))
 (.ok (.inr ((List.take (List.length i.2.2.1) i.2.2.1, ())))))
def am6 (m : List Int) (o : List Int) (j : (List Int) × (List Int) × Unit) : TT vG :=
 .need (asT Int 0 ≤ 0 ∧ 0 ≤ w64 (len j.1 + 1) ∧ w64 (len j.1 + 1) * (↑4 : Int) ≤ 140737488355328) <| .loop 1 (.tt <| .lt (List.replicate (Int.toNat 0) 0 : List Int) fun z => .wT ((wY 10 0 0 true) ∧ (wZ (0 : Int) (0 : Int) (len j.1) j.1 j.2.1 <| True ∧ True)) <| .wT (wS (wX 170 z) True) <| .ok ((0, 0, z, ()))) (auP m o j)
def aq7 (m : List Int) (o : List Int) : TT vG :=
 .join 0 (ι := (List Int) × (List Int) × Unit) (.ite (decide (len m < len o))
 (.tt <| .wT (ve m o <| True ∧ True) <| .tr <| .ok (.inl ((o, m, ()))))
 (.tt <| .wT (ve o m <| True ∧ True) <| .tr <| .ok (.inl ((m, o, ()))))) (am6 m o)
def aD9 : LTab := [(270, 122, 9217, ⟨0, (Int) × (Int) × (List Int) × Unit, .dat (.s 15) vz <| .dat (.s 6) vB <| .row 3 vB <| .nil, [14, 13, 5, 4, 1], [3], 0⟩)]
def aq8 (m : List Int) (o : List Int) (i : (Int) × (Int) × (List Int) × Unit) : TT (vM ⊕ vG) :=
 .ite (decide (i.1 < len m))
 (.need (inb i.1 (len m)) <| .ite (decide (i.1 < len o))
 (.need (inb i.1 (len o)) <| .ite (decide (gi m i.1 0 < adY (i.2.1 + gi o i.1 0)))
 (.need (inb i.1 (↑(Int.toNat (len m)) : Int)) <| .tt <| .lt (w64 (i.1 + 1) : Int) fun z1 => .lt (List.set i.2.2.1 (0 + Int.toNat i.1) (adY (adY (gi m i.1 0 + 1000000000) - adY (i.2.1 + gi o i.1 0))) : List Int) fun z2 => .wT (vh (1 : Int) z1 (len m) m <| (wY 3 0 (Int.toNat (len m)) true) ∧ True ∧ vj o) <| .wT (wS (wX 170 z2) True) <| .ok (.inl ((z1, 1, z2, ()))))
 (.need (inb i.1 (↑(Int.toNat (len m)) : Int)) <| .tt <| .lt (w64 (i.1 + 1) : Int) fun z3 => .lt (List.set i.2.2.1 (0 + Int.toNat i.1) (adY (gi m i.1 0 - adY (i.2.1 + gi o i.1 0))) : List Int) fun z4 => .wT (vh (0 : Int) z3 (len m) m <| (wY 3 0 (Int.toNat (len m)) true) ∧ True ∧ vj o) <| .wT (wS (wX 170 z4) True) <| .ok (.inl ((z3, 0, z4, ())))))
 (.ite (decide (gi m i.1 0 < i.2.1))
 (.need (inb i.1 (↑(Int.toNat (len m)) : Int)) <| .tt <| .lt (w64 (i.1 + 1) : Int) fun z5 => .lt (List.set i.2.2.1 (0 + Int.toNat i.1) (adY (adY (gi m i.1 0 + 1000000000) - i.2.1)) : List Int) fun z6 => .wT (vh (1 : Int) z5 (len m) m <| (wY 3 0 (Int.toNat (len m)) true) ∧ True ∧ vj o) <| .wT (wS (wX 170 z6) True) <| .ok (.inl ((z5, 1, z6, ()))))
 (.need (inb i.1 (↑(Int.toNat (len m)) : Int)) <| .tt <| .lt (w64 (i.1 + 1) : Int) fun z7 => .lt (List.set i.2.2.1 (0 + Int.toNat i.1) (adY (gi m i.1 0 - i.2.1)) : List Int) fun z8 => .wT (vh (0 : Int) z7 (len m) m <| (wY 3 0 (Int.toNat (len m)) true) ∧ True ∧ vj o) <| .wT (wS (wX 170 z8) True) <| .ok (.inl ((z7, 0, z8, ()))))))
 (.call (acP (List.take (Int.toNat (len m)) i.2.2.1, ())) Dd0 fun y =>
 .ok (.inr ((y.1, ()))))
def am7 (m : List Int) (o : List Int) : TT vG :=
 .need (0 ≤ len m ∧ len m ≤ len m ∧ len m * (↑4 : Int) ≤ 140737488355328) <| .loop 0 (.tt <| .lt (List.replicate (Int.toNat (len m)) 0 : List Int) fun z => .wT (vh (0 : Int) (0 : Int) (len m) m <| (wY 3 0 (Int.toNat (len m)) true) ∧ True ∧ vj o) <| .wT (wS (wX 170 z) True) <| .ok ((0, 0, z, ()))) (aq8 m o)
def aD6 : LTab := [(186, 58, 11265, ⟨0, (Int) × (List Int) × Unit, .dat (.s 19) vz <| .row 6 vB <| .nil, [18, 17, 5, 4, 1], [6], 0⟩), (186, 59802, 21505, ⟨1, (Int) × (Int) × (List Int) × Unit, .dat (.s 26) vz <| .dat (.s 8) vN <| .row 6 vB <| .nil, [25, 24, 7, 6, 23, 22, 21, 20, 19, 18, 17, 5, 4, 1], [6], 0⟩)]
def akU (m : List Int) (o : List Int) (i : Int × List Int × Unit) (i1 : (Int) × (Int) × (List Int) × Unit) : TT (vM ⊕ vY) :=
 .ite (decide (i1.1 < len o))
 (.need (inb i1.1 (len o)) <| .need (inb (w64 (i.1 + i1.1)) (↑(Int.toNat (w64 (len m + len o))) : Int)) <| .triv (asT Int 1000000000 ≠ 0) zd <| .need (inb (w64 (i.1 + i1.1)) (↑(Int.toNat (w64 (len m + len o))) : Int)) <| .triv (asT Int 1000000000 ≠ 0) zd <| .tt <| .lt (w64 (i1.1 + 1) : Int) fun z2 => .lt (abZ (Int.tdiv (abZ (i1.2.1 + abZ (abZ (List.getD i1.2.2.1 (0 + Int.toNat (w64 (i.1 + i1.1))) 0) + abZ (abZ (gi m i.1 0) * abZ (gi o i1.1 0))))) 1000000000) : Int) fun z3 => .lt (List.set i1.2.2.1 (0 + Int.toNat (w64 (i.1 + i1.1))) (adY (Int.tmod (abZ (i1.2.1 + abZ (abZ (List.getD i1.2.2.1 (0 + Int.toNat (w64 (i.1 + i1.1))) 0) + abZ (abZ (gi m i.1 0) * abZ (gi o i1.1 0))))) 1000000000)) : List Int) fun z4 => .wT (vk z3 z2 (len o) o (gi m i.1 0) i.1 (gi m i.1 0) (gi m i.1 0) <| wZ i.1 (decide (i.1 < len m)) i.1 (len m) m <| (wY 6 0 (Int.toNat (w64 (len m + len o))) true) ∧ True ∧ vj o) <| .wT (wS (wX 170 z4) True) <| .ok (.inl ((z2, z3, z4, ()))))
 (.need (inb (w64 (i.1 + len o)) (↑(Int.toNat (w64 (len m + len o))) : Int)) <| .tt <| .lt (w64 (i.1 + 1) : Int) fun z5 => .lt (List.set i1.2.2.1 (0 + Int.toNat (w64 (i.1 + len o))) (adY i1.2.1) : List Int) fun z6 => .wT (vl z5 (len m) m <| (wY 6 0 (Int.toNat (w64 (len m + len o))) true) ∧ True ∧ vj o) <| .wT (wS (wX 170 z6) True) <| .ok (.inr (.inl ((z5, z6, ())))))
def aq5 (m : List Int) (o : List Int) (i : (Int) × (List Int) × Unit) : TT vY :=
 .ite (decide (i.1 < len m))
 (.need (inb i.1 (len m)) <| .loop 1 (.tt <| .lt (i.2.1 : List Int) fun z1 => .wT (vk (0 : Int) (0 : Int) (len o) o (gi m i.1 0) i.1 (gi m i.1 0) (gi m i.1 0) <| wZ i.1 (decide (i.1 < len m)) i.1 (len m) m <| (wY 6 0 (Int.toNat (w64 (len m + len o))) true) ∧ True ∧ vj o) <| .wT (wS (wX 170 z1) True) <| .ok ((0, 0, z1, ()))) (akU m o i))
 (.call (acP (List.take (Int.toNat (w64 (len m + len o))) i.2.1, ())) Dd0 fun y =>
 .ok (.inr ((y.1, ()))))
def am4 (m : List Int) (o : List Int) : TT vG :=
 .need (0 ≤ w64 (len m + len o) ∧ w64 (len m + len o) ≤ w64 (len m + len o) ∧ w64 (len m + len o) * (↑4 : Int) ≤ 140737488355328) <| .loop 0 (.tt <| .lt (List.replicate (Int.toNat (w64 (len m + len o))) 0 : List Int) fun z => .wT (vl (0 : Int) (len m) m <| (wY 6 0 (Int.toNat (w64 (len m + len o))) true) ∧ True ∧ vj o) <| .wT (wS (wX 170 z) True) <| .ok ((0, z, ()))) (aq5 m o)
def aD8 : LTab := [(253, 122, 11265, ⟨0, (Int) × (Int) × (List Int) × Unit, .dat (.s 8) vz <| .dat (.s 7) vN <| .row 4 vB <| .nil, [6, 5, 4, 0, 1], [4], 0⟩)]
def akV (m : List Int) (d : Int) (i : (Int) × (Int) × (List Int) × Unit) : TT (vM ⊕ ui) :=
 .ite (decide (i.1 ≥ 0))
 (.need (inb i.1 (len m)) <| .need (abZ d ≠ 0) <| .need (inb i.1 (↑(Int.toNat (len m)) : Int)) <| .need (abZ d ≠ 0) <| .tt <| .lt (w64 (i.1 - 1) : Int) fun z2 => .lt (Int.tmod (abZ (abZ (i.2.1 * 1000000000) + abZ (gi m i.1 0))) (abZ d) : Int) fun z3 => .lt (List.set i.2.2.1 (0 + Int.toNat i.1) (adY (abZ (Int.tdiv (abZ (abZ (i.2.1 * 1000000000) + abZ (gi m i.1 0))) (abZ d)))) : List Int) fun z4 => .wT (ve z3 z2 <| (wY 4 0 (Int.toNat (len m)) true) ∧ (wU (0 : Int) <| True ∧ vo m d)) <| .wT (wS (wX 170 z4) True) <| .ok (.inl ((z2, z3, z4, ()))))
 (.call (acP (List.take (Int.toNat (len m)) i.2.2.1, ())) Dd0 fun y =>
 .ok (.inr ((y.1, adY i.2.1, ()))))
def am5 (m : List Int) (d : Int) : TT ui :=
 .need (0 ≤ len m ∧ len m ≤ len m ∧ len m * (↑4 : Int) ≤ 140737488355328) <| .loop 0 (.tt <| .lt (w64 (len m - 1) : Int) fun z => .lt (List.replicate (Int.toNat (len m)) 0 : List Int) fun z1 => .wT (ve (0 : Int) z <| (wY 4 0 (Int.toNat (len m)) true) ∧ (wU (0 : Int) <| True ∧ vo m d)) <| .wT (wS (wX 170 z1) True) <| .ok ((z, 0, z1, ()))) (akV m d)
def awQ : LTab := [(165, 28, 2050, ⟨0, Bool × (List Int) × (Int) × Unit, .appN (.s 3) 2 170 vB <| .dat (.s 0) vN <| .nil, [2], [], 1⟩)]
def ad4 (v : Int) (i : Bool × (List Int) × (Int) × Unit) : TT ((Bool × (List Int) × (Int) × Unit) ⊕ vG) :=
 .ite (i.1)
 (.ite (decide (i.2.2.1 > 0))
 (.triv (asT Int 1000000000 ≠ 0) zd <| .need (1 * 4 ≤ 140737488355328) <| .triv (asT Int 1000000000 ≠ 0) zd <| .tt <| .lt ([adY (Int.tmod i.2.2.1 1000000000)] : List Int) fun z => .lt (abZ (Int.tdiv i.2.2.1 1000000000) : Int) fun z1 => .wT (wU z1 <| (wY 2 0 1 true) ∧ True ∧ True) <| .wT (wS (wX 170 z) True) <| .ok (.inl ((false, z, z1, ()))))
 (.ok (.inr (([], ())))))
 (.ite (decide (i.2.2.1 > 0))
 (.triv (asT Int 1000000000 ≠ 0) zd <| .need ((List.length i.2.1 + 1) * 4 ≤ 140737488355328) <| .triv (asT Int 1000000000 ≠ 0) zd <| .tt <| .lt (List.take (List.length i.2.1) i.2.1 ++ [adY (Int.tmod i.2.2.1 1000000000)] : List Int) fun z2 => .lt (abZ (Int.tdiv i.2.2.1 1000000000) : Int) fun z3 => .need (((z3 : Int) = z3) ∧ (((2) = (2)) ∧ (((0) = (0)) ∧ ((List.length i.2.1 + 1 = List.length z2) ∧ ((true) = (true))))) ∧ True ∧ True) <| .wT (wS (wX 170 z2) True) <| .ok (.inl ((false, z2, z3, ()))))
 (.ok (.inr ((List.take (List.length i.2.1) i.2.1, ())))))
def alY (v : Int) : TT vG :=
 .loop 0 (.tt <| .wT (wU v <| True ∧ True ∧ True) <| .tr <| .ok ((true, [], v, ()))) (ad4 v)
def aEg : LTab := [(162, 218, 5122, ⟨0, (Int) × Bool × (List Int) × Unit, .dat (.s 4) vz <| .appN (.s 3) 5 170 vB <| .nil, [2, 0], [], 1⟩), (162, 55834, 13314, ⟨1, (Int) × (Int) × Unit, .dat (.s 7) vz <| .dat (.s 6) vB <| .nil, [15, 5, 14, 13, 12, 3, 4, 2, 0], [], 0⟩), (162, 55834, 13313, ⟨2, (Int) × (Int) × Unit, .dat (.s 7) vz <| .dat (.s 6) vB <| .nil, [15, 5, 14, 13, 12, 3, 4, 2, 0], [5], 0⟩)]
def ah2 (digits : List UInt8) (i : Int × Bool × List Int × Unit) (i1 : (Int) × (Int) × Unit) : TT (vO ⊕ ue) :=
 .ite (decide (i1.1 < i.1))
 (.need (inb i1.1 (len digits)) <| .tt <| .lt (w64 (i1.1 + 1) : Int) fun z1 => .lt (adY (adY (i1.2.1 * 10) + adY (wu8 ((↑(UInt8.toNat (gi digits i1.1 0)) : Int) - 48))) : Int) fun z2 => .wT (vq z2 z1 (if 0 > w64 (i.1 - 9) then 0 else w64 (i.1 - 9) : Int) (if 0 > w64 (i.1 - 9) then 0 else w64 (i.1 - 9) : Int) (if 0 > w64 (i.1 - 9) then 0 else w64 (i.1 - 9) : Int) (w64 (i.1 - 9)) i.1 <| True ∧ (wU i.1 <| True ∧ vj digits)) <| .tr <| .ok (.inl ((z1, z2, ()))))
 (.need (1 * 4 ≤ 140737488355328) <| .ite ((if 0 > w64 (i.1 - 9) then 0 else w64 (i.1 - 9)) == 0)
 (.call (acP ([i1.2.1], ())) Dd0 fun y =>
 .ok (.inr (.inr ((y.1, ())))))
 (.tt <| .lt (w64 (i.1 - 9) : Int) fun z3 => .lt ([i1.2.1] : List Int) fun z4 => .wT ((wY 5 0 1 true) ∧ (wU z3 <| True ∧ vj digits)) <| .wT (wS (wX 170 z4) True) <| .ok (.inr (.inl ((z3, false, z4, ()))))))
def ah1 (digits : List UInt8) (i : Int × Bool × List Int × Unit) (i2 : (Int) × (Int) × Unit) : TT (vO ⊕ ue) :=
 .ite (decide (i2.1 < i.1))
 (.need (inb i2.1 (len digits)) <| .tt <| .lt (w64 (i2.1 + 1) : Int) fun z6 => .lt (adY (adY (i2.2.1 * 10) + adY (wu8 ((↑(UInt8.toNat (gi digits i2.1 0)) : Int) - 48))) : Int) fun z7 => .wT (vq z7 z6 (if 0 > w64 (i.1 - 9) then 0 else w64 (i.1 - 9) : Int) (if 0 > w64 (i.1 - 9) then 0 else w64 (i.1 - 9) : Int) (if 0 > w64 (i.1 - 9) then 0 else w64 (i.1 - 9) : Int) (w64 (i.1 - 9)) i.1 <| (wY 5 0 (List.length i.2.2.1) true) ∧ (wU i.1 <| True ∧ vj digits)) <| .wT (wS (wX 170 i.2.2.1) True) <| .ok (.inl ((z6, z7, ()))))
 (.need ((List.length i.2.2.1 + 1) * 4 ≤ 140737488355328) <| .ite ((if 0 > w64 (i.1 - 9) then 0 else w64 (i.1 - 9)) == 0)
 (.call (acP (List.take (List.length i.2.2.1 + 1) (List.take (List.length i.2.2.1) i.2.2.1 ++ [i2.2.1]), ())) Dd0 fun y1 =>
 .ok (.inr (.inr ((y1.1, ())))))
 (.tt <| .lt (w64 (i.1 - 9) : Int) fun z8 => .lt (List.take (List.length i.2.2.1) i.2.2.1 ++ [i2.2.1] : List Int) fun z9 => .need ((((5) = (5)) ∧ (((0) = (0)) ∧ ((List.length i.2.2.1 + 1 = List.length z9) ∧ ((true) = (true))))) ∧ ((z8 : Int) = z8) ∧ True ∧ ((digits) = (digits)) ∧ True) <| .wT (wS (wX 170 z9) True) <| .ok (.inr (.inl ((z8, false, z9, ()))))))
def ak0 (digits : List UInt8) (i : (Int) × Bool × (List Int) × Unit) : TT ue :=
 .ite (i.2.1)
 (.loop 1 (.tt <| .lt (if 0 > w64 (i.1 - 9) then 0 else w64 (i.1 - 9) : Int) fun z => .wT (vq (0 : Int) z z z z (w64 (i.1 - 9)) i.1 <| True ∧ (wU i.1 <| True ∧ vj digits)) <| .tr <| .ok ((z, 0, ()))) (ah2 digits i))
 (.loop 2 (.tt <| .lt (if 0 > w64 (i.1 - 9) then 0 else w64 (i.1 - 9) : Int) fun z5 => .wT (vq (0 : Int) z5 z5 z5 z5 (w64 (i.1 - 9)) i.1 <| (wY 5 0 (List.length i.2.2.1) true) ∧ (wU i.1 <| True ∧ vj digits)) <| .wT (wS (wX 170 i.2.2.1) True) <| .ok ((z5, 0, ()))) (ah1 digits i))
def am9 (digits : List UInt8) : TT vG :=
 .loop 0 (.tt <| .wT (True ∧ (wU (len digits) <| True ∧ vj digits)) <| .tr <| .ok ((len digits, true, [], ()))) (ak0 digits)
def aBo : LTab := []
def akW (m : List Int) : TT vW :=
 .call (adP (m, ())) Dd1 fun y =>
 .ite (y.1)
 (.ok ((1, ())))
 (.need (inb (w64 (len m - 1)) (len m)) <| .call (au8 (w64 (gi m (w64 (len m - 1)) 0), ())) Dd2 fun y1 =>
 .ok ((w64 (w64 (w64 (len m - 1) * 9) + len y1.1), ())))
def aJW : LTab := [(98, 12, 1025, ⟨0, (List Int) × (List Int) × Unit, .dat (.s 0) vV <| .dat (.s 1) vV <| .nil, [], [], 0⟩), (98, 196, 4096, ⟨1, (Bool) × Unit, .dat (.s 19) (Ty.bool) <| .nil, [1, 0], [], 0⟩), (98, 6292, 10240, ⟨2, (Int) × (Int) × Unit, .dat (.s 6) vN <| .dat (.s 5) vN <| .nil, [23, 22, 21, 20, 19, 1, 0], [], 0⟩)]
def azN (m : List Int) (o : List Int) (i : List Int × List Int × Unit) (y : Bool × Unit) (j : Bool × Unit) (y1 : Int × Unit) (y2 : Int × Unit) (i1 : (Int) × (Int) × Unit) : TT (vO ⊕ (ub ⊕ vG)) :=
 .ite (decide (i1.1 > 0))
 (.need (i1.1 ≠ 0) <| .tt <| .lt (Int.tmod i1.2.1 i1.1 : Int) fun z1 => .wT (vk i1.1 z1 y2.1 i.2.1 y1.1 i.1 j.1 i.2.1 <| vj i.1) <| .tr <| .ok (.inl ((z1, i1.1, ()))))
 (.call (ac8 (i1.2.1, ())) Dd0 fun y3 =>
 .ok (.inr (.inr ((y3.1, ())))))
def aq9 (m : List Int) (o : List Int) (i : List Int × List Int × Unit) (y : Bool × Unit) (j : (Bool) × Unit) : TT (ub ⊕ vG) :=
 .ite (j.1)
 (.call (ajS (i.1, ())) Dd3 fun y1 =>
 .call (ajS (i.2.1, ())) Dd3 fun y2 =>
 .loop 2 (.tt <| .wT (vk y1.1 y2.1 y2.1 i.2.1 y1.1 i.1 j.1 i.2.1 <| vj i.1) <| .tr <| .ok ((y2.1, y1.1, ()))) (azN m o i y j y1 y2))
 (.call (abT (i.1, i.2.1, ())) Dd4 fun y4 =>
 .tt <| .lt (i.2.1 : List Int) fun z2 => .lt (y4.2.1 : List Int) fun z3 => .wT (vo z3 z2) <| .tr <| .ok (.inl ((z2, z3, ()))))
def azO (m : List Int) (o : List Int) (i : (List Int) × (List Int) × Unit) : TT (ub ⊕ vG) :=
 .call (adP (i.2.1, ())) Dd1 fun y =>
 .ite (!y.1)
 (.join 1 (ι := (Bool) × Unit) (.ite (decide (len i.1 ≤ 2))
 (.tt <| .lt (decide (len i.2.1 ≤ 2) : Bool) fun z => .wT (wW z i.2.1 i.1) <| .tr <| .ok (.inl ((z, ()))))
 (.tt <| .wT (wW false i.2.1 i.1) <| .tr <| .ok (.inl ((false, ()))))) (aq9 m o i y))
 (.ok (.inr ((i.1, ()))))
def awI (m : List Int) (o : List Int) : TT vG :=
 .loop 0 (.tt <| .wT (vo o m) <| .tr <| .ok ((m, o, ()))) (azO m o)
end
open Go Go.Vg
theorem aBm (m : List Int) (y) (h : adP (m, ()) = some y) : (aq2 m).toO = some y := by
 simpa [adP, aq2, TT.toO] using h
theorem aq4 (m : List Int) (y) (h : acP (m, ()) = some y) : (aq3 m).toO = some y := by
 unfold acP at h
 split at h
 ·rename_i hp
  obtain ⟨hd, hl⟩ := hp
  simp only at hd hl
  injection h with h
  subst h
  refine uO (m, ()) rfl ?_
  refine abH (fun i => Dg 1000000000 i.1 ∧ i.1.length ≤ 2000000000000 ∧ V 1000000000 i.1 = V 1000000000 m) (fun i => i.1.length) (fun _ => (mag (V 1000000000 m).toNat, ())) ?_ _ ⟨hd, hl, rfl⟩
  rintro ⟨l, u⟩ ⟨h1, h2, h3⟩
  simp only at h1 h2 h3
  have hfin : Cn l → l = mag (V 1000000000 m).toNat := fun hc => ao8 h1 hc (by rw [h3]; have := aaQ zc hd; omega)
  unfold auN
  by_cases hz : l = []
  ·subst hz
   right
   repeat refine za ?_
   rw [← hfin aoQ]; rfl
  ·have hlen : 0 < l.length := zO.2 hz
   have hw : w64 (len l - 1) = ((l.length - 1 : Nat) : Int) := by rw [aaN]; simp (disch := omega) only [aaB]; omega
   have hg : gi l ((l.length - 1 : Nat) : Int) 0 = l[l.length - 1] := aP3 rfl zc
   simp only [hw, hg]
   by_cases h0 : l[l.length - 1] = 0
   ·left
    refine ⟨(l.take (l.length - 1), ()), ?_, ⟨acF h1 _, ?_, ?_⟩, ?_, trivial⟩
    ·repeat refine za ?_
     rfl
    ·simp; omega
    ·have := aiA 1000000000 (l := l) (i := l.length - 1) zc
     rw [h0, show l.length - 1 + 1 = l.length by omega, zt] at this
     rw [← h3, this]; simp
    ·simp; omega
   ·right
    repeat refine za ?_
    rw [← hfin (by unfold Cn; rw [yB, zG zc]; simpa using h0)]; rfl
 ·cases h
theorem azK (m : List Int) (y) (h : ajS (m, ()) = some y) : (auO m).toO = some y := by
 obtain ⟨n, hn, hx, rfl⟩ := aaP h
 injection hx with hx
 subst hx
 have hl : (mag n).length ≤ 2 := mag_length_le_iff.2 zc
 have hd := af6 n
 have hV := ak7 n
 refine uO (((mag n).length : Int) - 1, 0, ()) ?_ ?_
 ·repeat refine za ?_
  show some (w64 ((mag n).length - 1), (0 : Int), ()) = _
  rw [aaB (x := ((mag n).length : Int) - 1) zc]
 refine abH (fun i => ∃ k : Nat, k ≤ (mag n).length ∧ i.1 = (k : Int) - 1 ∧ i.2.1 = V 1000000000 ((mag n).drop k)) (fun i => (i.1 + 1).toNat) (fun _ => ((n : Int), ())) ?_ _ ⟨_, zi _, rfl, by simp [V]⟩
 rintro ⟨i, v, u⟩ ⟨k, h1, h2, h3⟩
 simp only at h2 h3
 subst h2 h3
 unfold aq6
 rcases zC k with h0 | h0
 ·subst h0
  right
  repeat refine za ?_
  simp only [yp, hV]
  rfl
 ·left
  obtain ⟨j, rfl⟩ : ∃ j, k = j + 1 := ⟨k - 1, by omega⟩
  have e1 := aaR 1000000000 (mag n) j
  have e2 := aa4 zc hd j
  have e3 := aaQ zc (acV hd j)
  have e4 := aaQ zc (acV hd (j + 1))
  have e5 := aHY zc hd j
  have e6 : ((j + 1 : Nat) : Int) - 1 = (j : Int) := zc
  rw [e6]
  refine ⟨((j : Int) - 1, V 1000000000 ((mag n).drop j), ()), ?_, ⟨j, by omega, rfl, rfl⟩, by simp only; omega, rfl⟩
  repeat refine za ?_
  simp only [aaU]
  rw [aaB (x := (j : Int) - 1) zc, aaO (x := V 1000000000 ((mag n).drop (j + 1)) * 1000000000) zc, aaO (x := (mag n).getD j 0) zc, aaO zc, e1, aaT]
  rw [Int.add_comm, yV]
theorem atC (m o : List Int) (y) (h : adQ (m, o, ()) = some y) : (aiZ m o).toO = some y := by
 obtain ⟨⟨a, b⟩, hn, hx, rfl⟩ := aaP h
 obtain ⟨rfl, hx2⟩ := Prod.mk.inj hx
 obtain ⟨rfl, -⟩ := Prod.mk.inj hx2
 dsimp only
 obtain ⟨l1, l2⟩ := hn
 simp only at l1 l2
 unfold aiZ
 have hda := af6 a
 have hdb := af6 b
 have hVa := ak7 a
 have hVb := ak7 b
 rcases Nat.lt_trichotomy (mag a).length (mag b).length with hl | hl | hl
 ·have := akD hl
  repeat refine za ?_
  simp only [aaT, atH]
  rw [if_pos (show (a : Int) < b by omega)]
 ·refine uF sd ?_
  refine uO (((mag a).length : Int) - 1, ()) ?_ ?_
  ·repeat refine za ?_
   show some (w64 ((mag a).length - 1), ()) = _
   rw [aaB (x := ((mag a).length : Int) - 1) zc]
  refine abH (fun i => ∃ k : Nat, k ≤ (mag a).length ∧ i.1 = (k : Int) - 1 ∧ V 1000000000 ((mag a).drop k) = V 1000000000 ((mag b).drop k)) (fun i => (i.1 + 1).toNat) (fun _ => (atH a b, ())) ?_ _ ⟨_, zi _, rfl, by rw [ac4 _ (zi _), ac4 _ zc]⟩
  rintro ⟨i, u⟩ ⟨k, h1, h2, h3⟩
  simp only at h2 h3
  subst h2
  unfold alW
  rcases zC k with h0 | h0
  ·subst h0
   right
   repeat refine za ?_
   simp only [yp, hVa, hVb] at h3
   simp only [aaT, atH]
   rw [if_neg zc, if_pos h3]
  ·obtain ⟨j, rfl⟩ : ∃ j, k = j + 1 := ⟨k - 1, by omega⟩
   have e6 : ((j + 1 : Nat) : Int) - 1 = (j : Int) := zc
   simp only [e6, aaU]
   have a1 := acH 1000000000 (mag a) j
   have b1 := acH 1000000000 (mag b) j
   have a2 := aaR 1000000000 (mag a) j
   have b2 := aaR 1000000000 (mag b) j
   have a3 := adC zc hda j
   have b3 := adC zc hdb j
   have a4 := aaQ zc (acF hda j)
   have b4 := aaQ zc (acF hdb j)
   have hp : (1 : Int) ≤ 1000000000 ^ j := av0 zc j
   rcases Int.lt_trichotomy ((mag a).getD j 0) ((mag b).getD j 0) with hc | hc | hc
   ·right
    repeat refine za ?_
    have h5 : (1000000000 : Int) ^ j * (V 1000000000 ((mag a).drop j) + 1) ≤ 1000000000 ^ j * V 1000000000 ((mag b).drop j) := zy zc zc
    rw [xJ] at h5
    simp only [aaT, atH]
    rw [if_pos (show (a : Int) < b by omega)]
   ·left
    refine ⟨((j : Int) - 1, ()), ?_, ⟨j, by omega, rfl, by omega⟩, by simp only; omega, trivial⟩
    repeat refine za ?_
    rw [aaB (x := (j : Int) - 1) zc]; rfl
   ·right
    repeat refine za ?_
    have h5 : (1000000000 : Int) ^ j * (V 1000000000 ((mag b).drop j) + 1) ≤ 1000000000 ^ j * V 1000000000 ((mag a).drop j) := zy zc zc
    rw [xJ] at h5
    simp only [aaT, atH]
    rw [if_neg (show ¬ (a : Int) < b by omega), if_neg (show ¬ (a : Int) = b by omega)]
 ·have := akD hl
  repeat refine za ?_
  simp only [aaT, atH]
  rw [if_neg (show ¬ (a : Int) < b by omega), if_neg (show ¬ (a : Int) = b by omega)]
theorem aj8 (m o : List Int) (a b : Nat) (la : (mag a).length ≤ 1000000000000) (hl : (mag b).length ≤ (mag a).length) : (am6 m o (mag a, mag b, ())).toO = some (mag (a + b), ()) := by
 have hda := af6 a
 have hdb := af6 b
 have hVa := ak7 a
 have hVb := ak7 b
 unfold am6
 dsimp only
 refine uN ?_ ?_
 ·(try simp only [aaN, inb, inc, ge_iff_le, gt_iff_lt, zk, asT, ne_eq])
  simp (disch := omega) only [aaB, aaO, aa3, ab8, aaU, zl, zk, aaN]
  omega
 refine uO (0, 0, [], ()) rfl ?_
 refine abH (fun i => ∃ k : Nat, k ≤ (mag a).length ∧ i.1 = (k : Int) ∧ 0 ≤ i.2.1 ∧ i.2.1 ≤ 1 ∧ i.2.2.1.length = k ∧ Dg 1000000000 i.2.2.1 ∧ V 1000000000 i.2.2.1 + 1000000000 ^ k * i.2.1 = V 1000000000 ((mag a).take k) + V 1000000000 ((mag b).take k)) (fun i => (((mag a).length : Int) - i.1).toNat) (fun _ => (mag (a + b), ())) ?_ _ ⟨0, zQ _, rfl, by simp, by simp, rfl, asR _, by simp [V]⟩
 rintro ⟨i, c, s, u⟩ ⟨k, h1, h2, h3, h4, h5, h6, h7⟩
 simp only at h2 h3 h4 h5 h6 h7
 subst h2
 simp only [auP, aaU]
 have ea := abB 1000000000 (mag a) k
 have eb := abB 1000000000 (mag b) k
 have da := aa4 zc hda k
 have db := aa4 zc hdb k
 rcases zx k (mag a).length with hk | hk
 ·left
  have key : ∀ x c' : Int, 0 ≤ x ∧ x < 1000000000 → x + 1000000000 * c' = (mag a).getD k 0 + (mag b).getD k 0 + c → V 1000000000 (s ++ [x]) + 1000000000 ^ (k + 1) * c' = V 1000000000 ((mag a).take (k + 1)) + V 1000000000 ((mag b).take (k + 1)) := by
   intro x c' _ hx
   rw [ad6, axH, h5, ea, eb, yi]
   have : (1000000000 : Int) ^ k * (x + 1000000000 * c') = 1000000000 ^ k * ((mag a).getD k 0 + (mag b).getD k 0 + c) := by rw [hx]
   grind
  have fin : ∀ x c' : Int, 0 ≤ x ∧ x < 1000000000 → 0 ≤ c' ∧ c' ≤ 1 → x + 1000000000 * c' = (mag a).getD k 0 + (mag b).getD k 0 + c → (∃ k_1 : Nat, k_1 ≤ (mag a).length ∧ ((k + 1 : Nat) : Int) = (k_1 : Int) ∧ 0 ≤ c' ∧ c' ≤ 1 ∧ (s ++ [x]).length = k_1 ∧ Dg 1000000000 (s ++ [x]) ∧ V 1000000000 (s ++ [x]) + 1000000000 ^ k_1 * c' = V 1000000000 ((mag a).take k_1) + V 1000000000 ((mag b).take k_1)) ∧ (((mag a).length : Int) - ((k + 1 : Nat) : Int)).toNat < (((mag a).length : Int) - (k : Int)).toNat :=
   fun x c' hx hc he => ⟨⟨k + 1, by omega, rfl, hc.1, hc.2, by simp; omega, aeV h6 (akI hx.1 hx.2), key x c' hx he⟩, by omega⟩
  rcases zx k (mag b).length with hkb | hkb
  ·rcases zL ((mag a).getD k 0 + c + (mag b).getD k 0) 1000000000 with hc | hc
   ·obtain ⟨g1, g2⟩ := fin ((mag a).getD k 0 + c + (mag b).getD k 0) 0 zc zc zc
    refine ⟨(((k + 1 : Nat) : Int), 0, s ++ [(mag a).getD k 0 + c + (mag b).getD k 0], ()), ?_, g1, g2, trivial⟩
    repeat refine za ?_
    simp (disch := omega) only [aaT, aaB, aaO, aa3, ab8, aaU, zl, zk, aaN, zt]
    rfl
   ·obtain ⟨g1, g2⟩ := fin ((mag a).getD k 0 + c + (mag b).getD k 0 - 1000000000) 1 zc zc zc
    refine ⟨(((k + 1 : Nat) : Int), 1, s ++ [(mag a).getD k 0 + c + (mag b).getD k 0 - 1000000000], ()), ?_, g1, g2, trivial⟩
    repeat refine za ?_
    simp (disch := omega) only [aaT, aaB, aaO, aa3, ab8, aaU, zl, zk, aaN, zt]
    rfl
  ·have hz : (mag b).getD k 0 = 0 := af9 hkb 0
   rcases zL ((mag a).getD k 0 + c) 1000000000 with hc | hc
   ·obtain ⟨g1, g2⟩ := fin ((mag a).getD k 0 + c) 0 zc zc zc
    refine ⟨(((k + 1 : Nat) : Int), 0, s ++ [(mag a).getD k 0 + c], ()), ?_, g1, g2, trivial⟩
    repeat refine za ?_
    simp (disch := omega) only [aaT, aaB, aaO, aa3, ab8, aaU, zl, zk, aaN, zt]
    rfl
   ·obtain ⟨g1, g2⟩ := fin ((mag a).getD k 0 + c - 1000000000) 1 zc zc zc
    refine ⟨(((k + 1 : Nat) : Int), 1, s ++ [(mag a).getD k 0 + c - 1000000000], ()), ?_, g1, g2, trivial⟩
    repeat refine za ?_
    simp (disch := omega) only [aaT, aaB, aaO, aa3, ab8, aaU, zl, zk, aaN, zt]
    rfl
 ·right
  have hkk : k = (mag a).length := zc
  rw [hkk, abR _ (zi _), abR _ hl, hVa, hVb] at h7
  rcases zL 0 c with hc | hc
  ·have hc1 : c = 1 := zc
   subst hc1
   repeat refine za ?_
   simp (disch := omega) only [aaT, aaB, aaO, aa3, ab8, aaU, zl, zk, aaN, zt]
   rw [zr zh]
   rw [ao8 (l := s ++ [1]) (n := a + b) (aeV h6 (akI zc zc)) (by simp [Cn]) (by rw [ad6, axH, h5, hkk]; omega)]
  ·have hc1 : c = 0 := zc
   subst hc1
   repeat refine za ?_
   simp (disch := omega) only [aaT, aaB, aaO, aa3, ab8, aaU, zl, zk, aaN, zt]
   rw [ao8 (l := s) (n := a + b) h6 (aKo zc h6 ?_) zc]
   rcases zC a with ha | ha
   ·left
    subst ha
    rw [mag_zero] at hkk
    exact zW.1 (by rw [h5, hkk]; rfl)
   ·right
    have := aqB (B := 1000000000) zc (n := a) zc
    have h8 : (1000000000 : Int) ^ ((mag a).length - 1) ≤ a := by
     have : ((1000000000 ^ ((mag a).length - 1) : Nat) : Int) ≤ (a : Int) := Int.ofNat_le.2 this
     simpa using this
    rw [h5, hkk]
    omega
theorem aBn (m o : List Int) (y) (h : amC (m, o, ()) = some y) : (aq7 m o).toO = some y := by
 obtain ⟨⟨a, b⟩, hn, hx, rfl⟩ := aaP h
 obtain ⟨rfl, hx2⟩ := Prod.mk.inj hx; obtain ⟨rfl, -⟩ := Prod.mk.inj hx2; dsimp only
 obtain ⟨l1, l2⟩ := hn
 simp only at l1 l2
 unfold aq7
 rcases zx (mag a).length (mag b).length with hl | hl
 ·refine uL (mag b, mag a, ()) ?_ ?_
  ·repeat refine za ?_
   rfl
  ·rw [yO]
   exact aj8 _ _ b a l2 zc
 ·refine uL (mag a, mag b, ()) ?_ ?_
  ·repeat refine za ?_
   rfl
  ·exact aj8 _ _ a b l1 hl
theorem apP {l : List Int} (h : Dg 1000000000 l) (hl : l.length ≤ 2000000000000) {n : Nat} (hv : V 1000000000 l = n) : acP (l, ()) = some (mag n, ()) := by
 unfold acP
 rw [if_pos ⟨h, hl⟩]
 simp only [hv, zk]
theorem azM (m o : List Int) (y) (h : ahJ (m, o, ()) = some y) : (am7 m o).toO = some y := by
 obtain ⟨⟨a, b⟩, hn, hx, rfl⟩ := aaP h
 obtain ⟨rfl, hx2⟩ := Prod.mk.inj hx; obtain ⟨rfl, -⟩ := Prod.mk.inj hx2; dsimp only
 obtain ⟨la, hba⟩ := hn
 simp only at la hba
 have hda := af6 a
 have hdb := af6 b
 have hVa := ak7 a
 have hVb := ak7 b
 have hl := acZ hba
 unfold am7
 refine uN sn ?_
 refine uO (0, 0, List.replicate (mag a).length 0, ()) ?_ ?_
 ·repeat refine za ?_
  simp (disch := omega) only [aaT, aaB, aaO, aa3, ab8, aaU, zl, zk, aaN, zt]
 refine abH (fun i => ∃ k : Nat, k ≤ (mag a).length ∧ i.1 = (k : Int) ∧ 0 ≤ i.2.1 ∧ i.2.1 ≤ 1 ∧ i.2.2.1.length = (mag a).length ∧ Dg 1000000000 i.2.2.1 ∧ V 1000000000 (i.2.2.1.take k) = V 1000000000 ((mag a).take k) - V 1000000000 ((mag b).take k) + 1000000000 ^ k * i.2.1) (fun i => (((mag a).length : Int) - i.1).toNat) (fun _ => (mag (a - b), ())) ?_ _ ⟨0, zQ _, rfl, by simp, by simp, by simp, afW zc _, by simp [V]⟩
 rintro ⟨i, c, s, u⟩ ⟨k, h1, h2, h3, h4, h5, h6, h7⟩
 simp only at h2 h3 h4 h5 h6 h7
 subst h2
 simp only [aq8, aaU]
 have ea := abB 1000000000 (mag a) k
 have eb := abB 1000000000 (mag b) k
 have da := aa4 zc hda k
 have db := aa4 zc hdb k
 rcases zx k (mag a).length with hk | hk
 ·left
  have fin : ∀ x c' : Int, 0 ≤ x ∧ x < 1000000000 → 0 ≤ c' ∧ c' ≤ 1 → x = (mag a).getD k 0 - (mag b).getD k 0 - c + 1000000000 * c' → (∃ k_1 : Nat, k_1 ≤ (mag a).length ∧ ((k + 1 : Nat) : Int) = (k_1 : Int) ∧ 0 ≤ c' ∧ c' ≤ 1 ∧ (s.set k x).length = (mag a).length ∧ Dg 1000000000 (s.set k x) ∧ V 1000000000 ((s.set k x).take k_1) = V 1000000000 ((mag a).take k_1) - V 1000000000 ((mag b).take k_1) + 1000000000 ^ k_1 * c') ∧ (((mag a).length : Int) - ((k + 1 : Nat) : Int)).toNat < (((mag a).length : Int) - (k : Int)).toNat := by
   intro x c' hx hc he
   refine ⟨⟨k + 1, by omega, rfl, hc.1, hc.2, by simp; omega, ahK h6 hx _, ?_⟩, by omega⟩
   rw [aEJ _ zc, h7, ea, eb, yi, he]
   grind
  rcases zx k (mag b).length with hkb | hkb
  ·rcases zL ((mag a).getD k 0) (c + (mag b).getD k 0) with hc | hc
   ·obtain ⟨g1, g2⟩ := fin ((mag a).getD k 0 + 1000000000 - (c + (mag b).getD k 0)) 1 zc zc zc
    refine ⟨(((k + 1 : Nat) : Int), 1, s.set k ((mag a).getD k 0 + 1000000000 - (c + (mag b).getD k 0)), ()), ?_, g1, g2, trivial⟩
    repeat refine za ?_
    simp (disch := omega) only [aaT, aaB, aaO, aa3, ab8, aaU, zl, zk, aaN, zt]
    rfl
   ·obtain ⟨g1, g2⟩ := fin ((mag a).getD k 0 - (c + (mag b).getD k 0)) 0 zc zc zc
    refine ⟨(((k + 1 : Nat) : Int), 0, s.set k ((mag a).getD k 0 - (c + (mag b).getD k 0)), ()), ?_, g1, g2, trivial⟩
    repeat refine za ?_
    simp (disch := omega) only [aaT, aaB, aaO, aa3, ab8, aaU, zl, zk, aaN, zt]
    rfl
  ·have hz : (mag b).getD k 0 = 0 := af9 hkb 0
   rcases zL ((mag a).getD k 0) c with hc | hc
   ·obtain ⟨g1, g2⟩ := fin ((mag a).getD k 0 + 1000000000 - c) 1 zc zc zc
    refine ⟨(((k + 1 : Nat) : Int), 1, s.set k ((mag a).getD k 0 + 1000000000 - c), ()), ?_, g1, g2, trivial⟩
    repeat refine za ?_
    simp (disch := omega) only [aaT, aaB, aaO, aa3, ab8, aaU, zl, zk, aaN, zt]
    rfl
   ·obtain ⟨g1, g2⟩ := fin ((mag a).getD k 0 - c) 0 zc zc zc
    refine ⟨(((k + 1 : Nat) : Int), 0, s.set k ((mag a).getD k 0 - c), ()), ?_, g1, g2, trivial⟩
    repeat refine za ?_
    simp (disch := omega) only [aaT, aaB, aaO, aa3, ab8, aaU, zl, zk, aaN, zt]
    rfl
 ·right
  have hkk : k = (mag a).length := zc
  rw [hkk, abR _ zc, abR _ (zi _), abR _ hl, hVa, hVb] at h7
  have hlt := aEK zc h6
  rw [h5] at hlt
  have hc : c = 0 := by
   rcases zL 0 c with hc | hc
   ·have hc1 : c = 1 := zc
    subst hc1
    omega
   ·omega
  subst hc
  refine uF sd ?_
  refine uC (mag (a - b), ()) ?_ ?_
  ·rw [zr (by simp [len]; omega)]
   exact apP h6 zc zc
  ·rfl
theorem aGo {a b B : Int} (ha : 0 ≤ a ∧ a < B) (hb : 0 ≤ b ∧ b < B) : 0 ≤ a * b ∧ a * b ≤ (B - 1) * (B - 1) := by
 refine ⟨xg ha.1 hb.1, ?_⟩
 have h1 : a * b ≤ a * (B - 1) := zy zc ha.1
 have h2 : a * (B - 1) ≤ (B - 1) * (B - 1) := zD zc zc
 omega
theorem aHU (Vs P c A K x T X Y d e Q B : Int) (h : Vs + P * c = A + K * (x * T)) (h2 : X + B * Y = c + (d + x * e)) (hP : P = K * Q) : Vs + P * (X - d) + P * B * Y = A + K * (x * (T + Q * e)) := by
 subst hP
 have h3 : K * Q * (X + B * Y) = K * Q * (c + (d + x * e)) := by rw [h2]
 grind
theorem azJ (m o : List Int) (y) (h : adF (m, o, ()) = some y) : (am4 m o).toO = some y := by
 obtain ⟨⟨a, b⟩, hn, hx, rfl⟩ := aaP h
 obtain ⟨rfl, hx2⟩ := Prod.mk.inj hx; obtain ⟨rfl, -⟩ := Prod.mk.inj hx2; dsimp only
 obtain ⟨la, lb⟩ := hn
 simp only at la lb
 have hda := af6 a
 have hdb := af6 b
 have hVa := ak7 a
 have hVb := ak7 b
 have hw : w64 (len (mag a) + len (mag b)) = (((mag a).length + (mag b).length : Nat) : Int) := by
  simp only [aaN]; rw [aaB (x := ((mag a).length : Int) + (mag b).length) zc]; omega
 unfold am4
 simp only [hw]
 refine uN zc ?_
 refine uO (0, List.replicate ((mag a).length + (mag b).length) 0, ()) ?_ ?_
 ·repeat refine za ?_
  simp (disch := omega) only [aaT, aaB, aaO, aa3, ab8, aaU, zl, zk, aaN, zt]
 have hBb : V 1000000000 (mag b) < 1000000000 ^ (mag b).length := aEK zc hdb
 refine abH (fun i => ∃ k : Nat, k ≤ (mag a).length ∧ i.1 = (k : Int) ∧ i.2.1.length = (mag a).length + (mag b).length ∧ Dg 1000000000 i.2.1 ∧ V 1000000000 i.2.1 = V 1000000000 ((mag a).take k) * b) (fun i => (((mag a).length : Int) - i.1).toNat) (fun _ => (mag (a * b), ())) ?_ _ ⟨0, zQ _, rfl, by simp, afW zc _, by simp [V, asK]⟩
 rintro ⟨i, s, u⟩ ⟨k, h1, h2, h3, h4, h5⟩
 simp only at h2 h3 h4 h5
 subst h2
 simp only [aq5, aaU, hw]
 have ea := abB 1000000000 (mag a) k
 have da := aa4 zc hda k
 rcases zx k (mag a).length with hk | hk
 ·left
  have hs : V 1000000000 s < 1000000000 ^ (k + (mag b).length) := by
   rw [h5, xy]
   have e1 := adC zc hda k
   have e2 := aaQ zc (acF hda k)
   rw [hVb] at hBb
   have e3 : V 1000000000 ((mag a).take k) * b ≤ V 1000000000 ((mag a).take k) * 1000000000 ^ (mag b).length := zy zc e2
   have e4 : V 1000000000 ((mag a).take k) * 1000000000 ^ (mag b).length < 1000000000 ^ k * 1000000000 ^ (mag b).length := Int.mul_lt_mul_of_pos_right e1 (yx zc)
   omega
  have hz := aiY zc h4 hs
  -- the inner loop
  obtain ⟨r, hin, s', rfl, q1, q2, q3⟩ : ∃ r : ((Int × List Int × Unit) ⊕ (List Int × Unit)), ae1 (fun i1 => (akU (mag a) (mag b) ((k : Int), s, ()) i1).toO) (0, 0, s, ()) = some r ∧ ∃ s', r = Sum.inl (((k + 1 : Nat) : Int), s', ()) ∧ s'.length = (mag a).length + (mag b).length ∧ Dg 1000000000 s' ∧ V 1000000000 s' = V 1000000000 ((mag a).take (k + 1)) * b := by
   refine ahB (fun j => ∃ q : Nat, q ≤ (mag b).length ∧ j.1 = (q : Int) ∧ 0 ≤ j.2.1 ∧ j.2.1 < 1000000000 ∧ j.2.2.1.length = (mag a).length + (mag b).length ∧ Dg 1000000000 j.2.2.1 ∧ (∀ t, k + (mag b).length ≤ t → j.2.2.1.getD t 0 = 0) ∧ V 1000000000 j.2.2.1 + 1000000000 ^ (k + q) * j.2.1 = V 1000000000 ((mag a).take k) * b + 1000000000 ^ k * ((mag a).getD k 0 * V 1000000000 ((mag b).take q))) (fun j => (((mag b).length : Int) - j.1).toNat) _ ?_ _ ⟨0, zQ _, rfl, by simp, by simp, h3, h4, hz, by simp [V, h5]⟩
   rintro ⟨j, c, s1, u1⟩ ⟨q, g1, g2, g3, g4, g5, g6, g7, g8⟩
   simp only at g2 g3 g4 g5 g6 g7 g8
   subst g2
   have hkq : w64 ((k : Int) + q) = ((k + q : Nat) : Int) := by rw [aaB (x := (k : Int) + q) zc]; omega
   have hkl : w64 ((k : Int) + len (mag b)) = ((k + (mag b).length : Nat) : Int) := by rw [aaN, aaB (x := (k : Int) + ((mag b).length : Int)) zc]; omega
   simp only [akU, aaU, hw, hkq, hkl, zk, zl]
   have eb := abB 1000000000 (mag b) q
   have db := aa4 zc hdb q
   have ds := aa4 zc g6 (k + q)
   have hm := aGo da db
   rcases zx q (mag b).length with hq | hq
   ·left
    have hsum : 0 ≤ c + (s1.getD (k + q) 0 + (mag a).getD k 0 * (mag b).getD q 0) := zc
    have e1 := yc (c + (s1.getD (k + q) 0 + (mag a).getD k 0 * (mag b).getD q 0)) 1000000000
    have e2 : 0 ≤ (c + (s1.getD (k + q) 0 + (mag a).getD k 0 * (mag b).getD q 0)) % 1000000000 ∧ (c + (s1.getD (k + q) 0 + (mag a).getD k 0 * (mag b).getD q 0)) % 1000000000 < 1000000000 := zc
    have e3 : 0 ≤ (c + (s1.getD (k + q) 0 + (mag a).getD k 0 * (mag b).getD q 0)) / 1000000000 ∧ (c + (s1.getD (k + q) 0 + (mag a).getD k 0 * (mag b).getD q 0)) / 1000000000 < 1000000000 := zc
    refine ⟨(((q + 1 : Nat) : Int), (c + (s1.getD (k + q) 0 + (mag a).getD k 0 * (mag b).getD q 0)) / 1000000000, s1.set (k + q) ((c + (s1.getD (k + q) 0 + (mag a).getD k 0 * (mag b).getD q 0)) % 1000000000), ()), ?_, ⟨q + 1, by omega, rfl, e3.1, e3.2, by simp; omega, ahK g6 e2 _, ?_, ?_⟩, by simp only; omega⟩
    ·repeat refine za ?_
     simp (disch := omega) only [aaT, aaB, aaO, aa3, ab8, aaU, zl, zk, aaN, zt]
     rw [zM hsum, zJ hsum]
     simp (disch := omega) only [aaT, aaB, aaO, aa3, ab8, aaU, zl, zk, aaN, zt]
     rfl
    ·intro t ht
     rw [akS _ zc]; exact g7 t ht
    ·simp only
     rw [atJ _ zc, eb, show k + (q + 1) = k + q + 1 by omega, yi]
     exact aHU _ _ _ _ _ _ _ _ _ _ _ _ _ g8 e1 (xy _ _ _)
   ·right
    have hqq : q = (mag b).length := zc
    subst hqq
    rw [abR _ (zi _), hVb] at g8
    refine ⟨.inl (((k + 1 : Nat) : Int), s1.set (k + (mag b).length) c, ()), ?_, _, rfl, by simp; omega, ahK g6 ⟨g3, g4⟩ _, ?_⟩
    ·repeat refine za ?_
     simp (disch := omega) only [aaT, aaB, aaO, aa3, ab8, aaU, zl, zk, aaN, zt]
     rfl
    ·rw [atJ _ zc, g7 _ zc, ea, Int.add_mul]
     simp only [wz]
     rw [g8]
     grind
  refine ⟨(((k + 1 : Nat) : Int), s', ()), ?_, ⟨k + 1, by omega, rfl, q1, q2, q3⟩, by simp only; omega, trivial⟩
  refine uT sd ?_
  refine uN sd ?_
  refine uO (0, 0, s, ()) ?_ ?_
  ·repeat refine za ?_
   rfl
  ·exact hin
 ·right
  have hkk : k = (mag a).length := zc
  rw [hkk, abR _ (zi _), hVa] at h5
  refine uF sd ?_
  refine uC (mag (a * b), ()) ?_ ?_
  ·rw [zr zg]
   exact apP h4 zc (by rw [h5]; simp)
  ·rfl
theorem aHV (Vm Vq P d R m X Y B W : Int) (h : Vm = Vq * d + R) (h2 : Y + d * X = R * B + m) (hW : W = m + B * Vm) (hP : P = X + B * Vq) : W = P * d + Y := by
 subst hW hP h
 grind
theorem azL (m : List Int) (d : Int) (y) (h : ahI (m, d, ()) = some y) : (am5 m d).toO = some y := by
 obtain ⟨⟨a, e⟩, hn, hx, rfl⟩ := aaP h
 obtain ⟨rfl, hx2⟩ := Prod.mk.inj hx; obtain ⟨rfl, -⟩ := Prod.mk.inj hx2; dsimp only
 obtain ⟨la, he, he2⟩ := hn
 simp only at la he he2
 have hda := af6 a
 have hVa := ak7 a
 unfold am5
 refine uN sn ?_
 have hd : abZ (e : Int) = e := aaO zc
 refine uO (((mag a).length : Int) - 1, 0, List.replicate (mag a).length 0, ()) ?_ ?_
 ·repeat refine za ?_
  simp only [aaN]
  rw [aaB (x := ((mag a).length : Int) - 1) zc]
  rfl
 refine abH (fun i : Int × Int × List Int × Unit => ∃ k : Nat, k ≤ (mag a).length ∧ i.1 = (k : Int) - 1 ∧ 0 ≤ i.2.1 ∧ i.2.1 < e ∧ i.2.2.1.length = (mag a).length ∧ Dg 1000000000 i.2.2.1 ∧ V 1000000000 ((mag a).drop k) = V 1000000000 (i.2.2.1.drop k) * e + i.2.1) (fun i => (i.1 + 1).toNat) (fun _ => (mag (a / e), ((a % e : Nat) : Int), ())) ?_ _ ⟨_, zi _, rfl, by simp, by simp; omega, by simp, afW zc _, by rw [ac4 _ (zi _), ac4 _ zh]; simp⟩
 rintro ⟨i, r, q, u⟩ ⟨k, h1, h2, h3, h4, h5, h6, h7⟩
 simp only at h2 h3 h4 h5 h6 h7
 subst h2
 rcases zC k with h0 | h0
 ·subst h0
  right
  simp only [yp, hVa] at h7
  obtain ⟨v, hv⟩ := zI (aaQ zc h6)
  obtain ⟨r', rfl⟩ := zI h3
  rw [hv] at h7
  have h8 : a = v * e + r' := by
   have : (a : Int) = ((v * e + r' : Nat) : Int) := by simpa using h7
   exact Int.ofNat.inj this
  have h9 : a / e = v := by rw [h8, yO, xP _ _ he, yN zc, zl]
  have h10 : a % e = r' := by rw [h8, yO, xv, yj zc]
  simp only [akV]
  refine uF sd ?_
  refine uC (mag v, ()) ?_ ?_
  ·rw [zr (by simp [len]; omega)]
   exact apP h6 zc hv
  ·simp (disch := omega) only [aaT, aaB, aaO, aa3, ab8, aaU, zl, zk, aaN, zt]
   rw [h9, h10]
 ·left
  obtain ⟨j, rfl⟩ : ∃ j, k = j + 1 := ⟨k - 1, by omega⟩
  have e6 : ((j + 1 : Nat) : Int) - 1 = (j : Int) := zc
  rw [e6]
  simp only [akV, aaU, hd]
  have e1 := aaR 1000000000 (mag a) j
  have e2 := aa4 zc hda j
  have g1 : 0 ≤ r * 1000000000 + (mag a).getD j 0 := zc
  have g0 : (0 : Int) < e := zc
  have g2 := yc (r * 1000000000 + (mag a).getD j 0) e
  have g3 := xn (r * 1000000000 + (mag a).getD j 0) (show (e : Int) ≠ 0 by omega)
  have g4 := xi (r * 1000000000 + (mag a).getD j 0) g0
  have g5 : 0 ≤ (r * 1000000000 + (mag a).getD j 0) / e := xr g1 zc
  have g6 : (r * 1000000000 + (mag a).getD j 0) / e < 1000000000 := by
   refine Int.ediv_lt_of_lt_mul g0 ?_
   have : (r + 1) * 1000000000 ≤ e * 1000000000 := zD zc zc
   omega
  have hw1 : abZ (abZ (r * 1000000000) + abZ ((mag a).getD j 0)) = r * 1000000000 + (mag a).getD j 0 := by
   rw [aaO (x := r * 1000000000) zc, aaO (x := (mag a).getD j 0) zc, aaO zc]
  simp only [hw1]
  refine ⟨((j : Int) - 1, (r * 1000000000 + (mag a).getD j 0) % e, q.set j ((r * 1000000000 + (mag a).getD j 0) / e), ()), ?_, ⟨j, by omega, rfl, g3, g4, by simp; omega, ahK h6 ⟨g5, g6⟩ _, ?_⟩, by simp only; omega, trivial⟩
  ·repeat refine za ?_
   rw [zM g1, zJ g1]
   rw [aaO (x := (r * 1000000000 + (mag a).getD j 0) / e) zc, aa3 (x := (r * 1000000000 + (mag a).getD j 0) / e) zc]
   simp (disch := omega) only [aaT, aaB, aaO, aa3, ab8, aaU, zl, zk, aaN, zt]
  ·simp only
   refine aHV _ _ _ _ _ _ _ _ 1000000000 _ h7 g2 e1 ?_
   rw [aaR 1000000000 (q.set j _) j, akT zc, agC _ zc]
theorem arH (v : Int) (y) (h : ac8 (v, ()) = some y) : (alY v).toO = some y := by
 unfold ac8 at h
 split at h
 ·rename_i hp
  obtain ⟨h0, h1⟩ := hp
  simp only at h0 h1
  injection h with h
  subst h
  obtain ⟨n, rfl⟩ := zI h0
  simp only [zk]
  refine uO (true, [], (n : Int), ()) rfl ?_
  refine abH (fun i => ∃ w : Nat, i.2.2.1 = (w : Int) ∧ w ≤ n ∧ Dg 1000000000 i.2.1 ∧ V 1000000000 i.2.1 + 1000000000 ^ i.2.1.length * w = n ∧ (i.1 = true → i.2.1 = []) ∧ (w = 0 → Cn i.2.1) ∧ (i.2.1.length ≤ 3) ∧ (w ≠ 0 → w < 1000000000 ^ (3 - i.2.1.length))) (fun i => i.2.2.1.toNat) (fun _ => (mag n, ())) ?_ _ ⟨n, rfl, zi _, asR _, by simp [V], fun _ => rfl, fun _ => aoQ, by simp, fun _ => by simp; omega⟩
  rintro ⟨f, l, w', u⟩ ⟨w, g1, g2, g3, g4, g5, g6, g7, g8⟩
  simp only at g1 g3 g4 g5 g6 g7 g8
  subst g1
  rcases zC w with hw | hw
  ·subst hw
   right
   have : l = mag n := ao8 g3 (g6 rfl) zc
   cases f
   ·unfold ad4
    repeat refine za ?_
    simp (disch := omega) only [aaT, aaB, aaO, aa3, ab8, aaU, zl, zk, aaN, zt]
    rw [this]
   ·unfold ad4
    repeat refine za ?_
    simp (disch := omega) only [aaT, aaB, aaO, aa3, ab8, aaU, zl, zk, aaN, zt]
    rw [← this, g5 rfl]
  ·left
   have hl : l.length ≤ 2 := by
    rcases zx 2 l.length with h | h
    ·have h3 : l.length = 3 := zc
     have := g8 zc
     rw [h3] at this
     simp at this
     omega
    ·exact h
   have e1 : ((w % 1000000000 : Nat) : Int) + 1000000000 * ((w / 1000000000 : Nat) : Int) = w := zc
   refine ⟨(false, l ++ [((w % 1000000000 : Nat) : Int)], ((w / 1000000000 : Nat) : Int), ()), ?_, ⟨w / 1000000000, rfl, by omega, aeV g3 (akI zc zc), ?_, by simp, ?_, by simp; omega, ?_⟩, by simp only; omega, ze⟩
   ·have t1 : Int.tmod (w : Int) 1000000000 = ((w % 1000000000 : Nat) : Int) := by rw [zM zc]; omega
    have t2 : Int.tdiv (w : Int) 1000000000 = ((w / 1000000000 : Nat) : Int) := by rw [zJ zc]; omega
    cases f
    ·simp only [ad4, t1, t2]
     repeat refine za ?_
     simp (disch := omega) only [aaT, aaB, aaO, aa3, ab8, aaU, zl, zk, aaN, zt]
    ·simp only [ad4, t1, t2]
     repeat refine za ?_
     rw [g5 rfl]
     simp (disch := omega) only [aaT, aaB, aaO, aa3, ab8, aaU, zl, zk, aaN, zt]
     rfl
   ·simp only
    rw [ad6, axH, zF, ye, yi, ← g4]
    have : (1000000000 : Int) ^ l.length * (((w % 1000000000 : Nat) : Int) + 1000000000 * ((w / 1000000000 : Nat) : Int)) = 1000000000 ^ l.length * w := by rw [e1]
    grind
   ·intro hz
    unfold Cn
    simp
    omega
   ·intro hz
    simp only [zF, ye]
    have := g8 zc
    rw [yG zc]
    have h9 : 1000000000 ^ (3 - l.length) = 1000000000 ^ (3 - (l.length + 1)) * 1000000000 := by
     rw [← yA]; congr 1; omega
    omega
 ·cases h
theorem aBb {n : Nat} (h : n ≠ 0) : ∃ t : Nat, (mag n).getD ((mag n).length - 1) 0 = (t : Int) ∧ 1 ≤ t ∧ t < 1000000000 ∧ 1000000000 ^ ((mag n).length - 1) * t ≤ n ∧ n < 1000000000 ^ ((mag n).length - 1) * (t + 1) := by
 have hd := af6 n
 have hV := ak7 n
 have hl : 1 ≤ (mag n).length := by
  rcases zC (mag n).length with h0 | h0
  ·exact absurd (mag_nil_iff.1 (zW.1 h0)) h
  ·exact h0
 have e1 := acH 1000000000 (mag n) ((mag n).length - 1)
 have e2 := aaR 1000000000 (mag n) ((mag n).length - 1)
 rw [ac4 (k := (mag n).length - 1 + 1) _ zc] at e2
 have e3 := adC zc hd ((mag n).length - 1)
 have e4 := aaQ zc (acF hd ((mag n).length - 1))
 have e5 := aa4 zc hd ((mag n).length - 1)
 obtain ⟨t, ht⟩ := zI e5.1
 have h1 : 1 ≤ t := by
  rcases zC t with h0 | h0
  ·have hc := aNN n
   unfold Cn at hc
   rw [yB, zG zc] at hc
   rw [ahZ zc, h0] at ht
   rw [ht] at hc
   exact absurd rfl hc
  ·exact h0
 have hp : (1000000000 : Int) ^ ((mag n).length - 1) = ((1000000000 ^ ((mag n).length - 1) : Nat) : Int) := zh
 rw [hV, e2, ht, hp] at e1
 rw [hp] at e3
 refine ⟨t, ht, h1, by omega, ?_, ?_⟩
 ·have : ((1000000000 ^ ((mag n).length - 1) * t : Nat) : Int) ≤ n := by
   rw [xd]
   simp only [wA, wQ] at e1
   omega
  exact Int.ofNat_le.1 this
 ·have : (n : Int) < ((1000000000 ^ ((mag n).length - 1) * (t + 1) : Nat) : Int) := by
   rw [xd]
   simp only [wA, wQ] at e1
   rw [Int.natCast_add, xJ]
   omega
  exact Int.ofNat_lt.1 this
theorem arX {n t L : Nat} (h1 : 1 ≤ t) (h3 : 1000000000 ^ L * t ≤ n) (h4 : n < 1000000000 ^ L * (t + 1)) : (acG n).length = L * 9 + (acG t).length := by
 have a1 := ahW t
 have a2 := aAZ (n := t) zc
 have a3 := ai1 t
 have e : (1000000000 : Nat) ^ L = 10 ^ (L * 9) := by rw [show 1000000000 = 10 ^ 9 by decide, ← Nat.pow_mul, xa]
 rw [e] at h3 h4
 obtain ⟨q, hq⟩ : ∃ q, (acG t).length = q + 1 := ⟨(acG t).length - 1, by omega⟩
 rw [hq] at a1 a2 ⊢
 have h5 : 10 ^ (L * 9 + q) ≤ n := by
  rw [Nat.pow_add]
  have := zU (10 ^ (L * 9)) a2
  simp at this
  omega
 have h6 : n < 10 ^ (L * 9 + q + 1) := by
  rw [show L * 9 + q + 1 = L * 9 + (q + 1) by omega, Nat.pow_add]
  have : 10 ^ (L * 9) * (t + 1) ≤ 10 ^ (L * 9) * 10 ^ (q + 1) := zU _ zc
  omega
 rw [atF h5 h6]
 omega
theorem awH (m : List Int) (y) (h : agH (m, ()) = some y) : (akW m).toO = some y := by
 obtain ⟨n, hn, hx, rfl⟩ := aaP h
 obtain ⟨rfl, -⟩ := Prod.mk.inj hx
 unfold akW
 refine uC (len (mag n) == 0, ()) rfl ?_
 by_cases h0 : n = 0
 ·subst h0
  refine uT (by simp [mag_zero, len]) ?_
  simp [aaT, acL]
 ·obtain ⟨t, ht, h1, h2, h3, h4⟩ := aBb h0
  have hl : 1 ≤ (mag n).length := by
   rcases zC (mag n).length with h5 | h5
   ·exact absurd (mag_nil_iff.1 (zW.1 h5)) h0
   ·exact h5
  have hw : w64 (len (mag n) - 1) = (((mag n).length - 1 : Nat) : Int) := by rw [aaN, aaB (x := ((mag n).length : Int) - 1) zc]; omega
  refine uF sd ?_
  simp only [hw, aaU, ht]
  refine uN sd ?_
  have hdl : (acG t).length ≤ 9 := (adO zc).2 zc
  refine uC (acG t, ()) ?_ ?_
  ·rw [aaB (x := (t : Int)) zc]
   unfold au8
   rw [if_pos (by simp only; omega)]
   simp only [arV]
  ·rw [arX h1 h3 h4]
   simp only [aaT, aaN]
   rw [aaB (x := ((((mag n).length - 1 : Nat)) : Int) * 9) zc, aaB zc]
   simp
theorem aEa (m o : List Int) (y) (h : afU (m, o, ()) = some y) : (awI m o).toO = some y := by
 obtain ⟨⟨a, b⟩, hn, hx, rfl⟩ := aaP h
 obtain ⟨rfl, hx2⟩ := Prod.mk.inj hx; obtain ⟨rfl, -⟩ := Prod.mk.inj hx2; dsimp only
 obtain ⟨la, lb⟩ := hn
 simp only at la lb
 unfold awI
 refine uO (mag a, mag b, ()) rfl ?_
 refine abH (fun i : List Int × List Int × Unit => ∃ p q : Nat, i = (mag p, mag q, ()) ∧ (mag p).length ≤ 100000000000 ∧ (mag q).length ≤ 100000000000 ∧ Nat.gcd p q = Nat.gcd a b) (fun i => (V 1000000000 i.2.1).toNat) (fun _ => (mag (Nat.gcd a b), ())) ?_ _ ⟨a, b, rfl, la, lb, rfl⟩
 rintro i ⟨p, q, rfl, lp, lq, hg⟩
 simp only [azO]
 by_cases hq : q = 0
 ·right
  subst hq
  refine uC (len (mag 0) == 0, ()) rfl ?_
  refine uF (by simp [mag_zero, len]) ?_
  rw [← hg]
  simp [aaT]
 ·have hql : 1 ≤ (mag q).length := by
   rcases zC (mag q).length with h5 | h5
   ·exact absurd (mag_nil_iff.1 (zW.1 h5)) hq
   ·exact h5
  by_cases hs : (mag p).length ≤ 2 ∧ (mag q).length ≤ 2
  ·right
   have bp : p < 1000000000000000000 := by have := mag_length_le_iff.1 hs.1; omega
   have bq : q < 1000000000000000000 := by have := mag_length_le_iff.1 hs.2; omega
   refine uC (len (mag q) == 0, ()) rfl ?_
   refine uT (by simp [len]; intro h; simp [h] at hql) ?_
   refine uL (true, ()) ?_ ?_
   ·refine uT sd ?_
    repeat refine za ?_
    show some (Sum.inl (decide (len (mag q) ≤ 2), ())) = _
    rw [zp (show len (mag q) ≤ 2 by exact sn)]
   ·simp only [aq9]
    refine uT rfl ?_
    refine uC ((p : Int), ()) (aaZ (enc := fun n : Nat => (mag n, ())) p bp (fun b hb => af5 (Prod.mk.inj hb).1)) ?_
    refine uC ((q : Int), ()) (aaZ (enc := fun n : Nat => (mag n, ())) q bq (fun b hb => af5 (Prod.mk.inj hb).1)) ?_
    refine uO ((q : Int), (p : Int), ()) rfl ?_
    refine abH (fun i : Int × Int × Unit => ∃ r s : Nat, i = ((r : Int), (s : Int), ()) ∧ s < 1000000000000000000 ∧ r < 1000000000000000000 ∧ Nat.gcd s r = Nat.gcd a b) (fun i => i.1.toNat) (fun _ => (Sum.inr (mag (Nat.gcd a b), ()) : (List Int × List Int × Unit) ⊕ (List Int × Unit))) ?_ _ ⟨q, p, rfl, bp, bq, hg⟩
    rintro i ⟨r, s, rfl, h1, h2, h3⟩
    simp only [azN]
    rcases zC r with hr | hr
    ·subst hr
     right
     refine uF sd ?_
     refine uC (mag s, ()) ?_ ?_
     ·unfold ac8
      rw [if_pos (by simp only; omega)]
      simp
     ·rw [← h3]
      simp [aaT]
    ·left
     have hm := xb s hr
     refine ⟨(((s % r : Nat) : Int), (r : Int), ()), ?_, ⟨s % r, r, rfl, by omega, by omega, ?_⟩, by simp only; omega, ze⟩
     ·repeat refine za ?_
      rw [zM zc]
      rfl
     ·rw [← h3, xG s r, Nat.gcd_rec r s, xG]
  ·left
   refine ⟨(mag q, mag (p % q), ()), ?_, ⟨q, p % q, rfl, lq, ?_, ?_⟩, ?_, ze⟩
   ·refine uC (len (mag q) == 0, ()) rfl ?_
    refine uT (by simp [len]; intro h; simp [h] at hql) ?_
    refine uL (false, ()) ?_ ?_
    ·rcases zx 2 (mag p).length with h5 | h5
     ·repeat refine za ?_
      rfl
     ·repeat refine za ?_
      show some (Sum.inl (decide (len (mag q) ≤ 2), ())) = _
      rw [zn (show ¬ len (mag q) ≤ 2 by exact sn)]
    ·simp only [aq9]
     refine uF rfl ?_
     refine uC (mag (p / q), mag (p % q), ()) (aaZ (enc := fun p : Nat × Nat => (mag p.1, mag p.2, ())) (p, q) ⟨lp, lq, hq⟩ (fun b hb => afQ hb)) ?_
     repeat refine za ?_
     rfl
   ·have := acZ (Nat.le_of_lt (xb p (show 0 < q by omega))); omega
   ·rw [← hg, xG p q, Nat.gcd_rec q p, xG]
   ·simp only [ak7, zk]
    exact xb p zc
theorem aCF {s : List UInt8} (h : isD s) (i : Nat) : isD (s.take i) := fun c hc => h c (yM hc)
theorem awB {s : List UInt8} (h : isD s) (i : Nat) : isD (s.drop i) := fun c hc => h c (yW hc)
theorem aIE {s : List UInt8} {a i : Nat} (h1 : a ≤ i) (h2 : i < s.length) : (s.take (i + 1)).drop a = (s.take i).drop a ++ [s[i]] := by
 rw [yg h2, List.drop_append_of_le_length zg]
theorem aAO {s : List UInt8} {a i : Nat} (h1 : a ≤ i) (h2 : i ≤ s.length) : ((s.take i).drop a).length = i - a := zg
theorem aLS {s : List UInt8} {a e : Nat} (h1 : a ≤ e) (h2 : e ≤ s.length) : num (s.take e) = num (s.take a) * 10 ^ (e - a) + num ((s.take e).drop a) := by
 conv => lhs; rw [← xc a (s.take e)]
 rw [ajD, aAO h1 h2, yE, yf h1]
theorem aLU : num [] = 0 := rfl
theorem auM {s : List UInt8} (hd : isD s) {a i e : Nat} (h1 : a ≤ i) (h2 : i < e) (h3 : e ≤ s.length) (h4 : e - a ≤ 9) : adY (adY ((num ((s.take i).drop a) : Int) * 10) + adY (wu8 (((s.getD i 0).toNat : Int) - 48))) = (num ((s.take (i + 1)).drop a) : Int) := by
 have hi : i < s.length := zc
 have e1 : s.getD i 0 = s[i] := by simp [hi]
 have e2 := hd s[i] (xz hi)
 have e3 := aGi (awB (aCF hd i) a)
 rw [aAO h1 zc] at e3
 have e4 : (10 : Nat) ^ (i - a) ≤ 10 ^ 8 := yh zc zc
 have e5 : dv s[i] = s[i].toNat - 48 := rfl
 rw [aIE h1 hi, alR, e1, e5]
 rw [ab8 (x := (s[i].toNat : Int) - 48) zc, aa3 (x := (s[i].toNat : Int) - 48) zc, aa3 (x := (num ((s.take i).drop a) : Int) * 10) zc, aa3 zc]
 omega
theorem aoA (digits : List UInt8) (y) (h : afZ (digits, ()) = some y) : (am9 digits).toO = some y := by
 unfold afZ at h
 split at h
 case isFalse => cases h
 case isTrue hp =>
  obtain ⟨hd, hne, hl⟩ := hp
  simp only at hd hne hl
  injection h with h
  subst h
  generalize digits = s at *
  have hlen : 1 ≤ s.length := zO.2 hne
  refine uO ((s.length : Int), true, [], ()) rfl ?_
  refine abH (fun i : Int × Bool × List Int × Unit => ∃ e : Nat, i.1 = (e : Int) ∧ 1 ≤ e ∧ e ≤ s.length ∧ Dg 1000000000 i.2.2.1 ∧ V 1000000000 i.2.2.1 + 1000000000 ^ i.2.2.1.length * num (s.take e) = num s ∧ i.2.2.1.length + e ≤ s.length ∧ (i.2.1 = true → i.2.2.1 = [])) (fun i => i.1.toNat) (fun _ => (mag (num s), ())) ?_ _ ⟨s.length, rfl, hlen, zi _, asR _, by simp [V], by simp, fun _ => rfl⟩
  rintro ⟨e', f, l, u⟩ ⟨e, g1, g2, g3, g4, g5, g6, g7⟩
  simp only at g1 g4 g5 g6 g7
  subst g1
  obtain ⟨a, ha, ha1, ha2, ha3⟩ : ∃ a : Nat, (if 0 > w64 ((e : Int) - 9) then 0 else w64 ((e : Int) - 9)) = (a : Int) ∧ a ≤ e ∧ e - a ≤ 9 ∧ (a = 0 ∨ a + 9 = e) := by
   rw [aaB (x := (e : Int) - 9) zc]
   rcases zx e 9 with h9 | h9
   ·exact ⟨0, by rw [if_pos zc]; rfl, by omega, by omega, Or.inl rfl⟩
   ·exact ⟨e - 9, by rw [if_neg zc]; omega, by omega, by omega, Or.inr zc⟩
  have hseg := aLS (s := s) ha1 g3
  have hv := aGi (awB (aCF hd e) a)
  rw [aAO ha1 g3] at hv
  have hv9 : (10 : Nat) ^ (e - a) ≤ 10 ^ 9 := yh zc ha2
  generalize hX : num ((s.take e).drop a) = X at hseg hv
  have hD : Dg 1000000000 (l ++ [(X : Int)]) := aeV g4 (akI zc zc)
  have hw9 : w64 ((e : Int) - 9) = (e : Int) - 9 := aaB zc
  have hV0 : a = 0 → V 1000000000 (l ++ [(X : Int)]) = num s := by
   intro h0
   subst h0
   rw [ad6, axH, ← g5]
   rw [hseg]
   simp [aLU]
  have hV1 : a + 9 = e → V 1000000000 (l ++ [(X : Int)]) + 1000000000 ^ (l ++ [(X : Int)]).length * (num (s.take a) : Int) = num s := by
   intro h0
   rw [ad6, axH, ← g5, hseg, show e - a = 9 by omega, zF, ye, yi]
   have : (((num (s.take a) * 10 ^ 9 + X : Nat)) : Int) = (num (s.take a) : Int) * 1000000000 + X := zh
   rw [this]
   grind
  cases f
  ·-- not the first group
   simp only [ak0, ha]
   have hin : ae1 (fun i1 => (ah1 s ((e : Int), false, l, ()) i1).toO) ((a : Int), 0, ()) = some (if a = 0 then Sum.inr (mag (num s), ()) else Sum.inl ((a : Int), false, l ++ [(X : Int)], ())) := by
    refine abH (fun j : Int × Int × Unit => ∃ i : Nat, a ≤ i ∧ i ≤ e ∧ j = ((i : Int), (num ((s.take i).drop a) : Int), ())) (fun j => ((e : Int) - j.1).toNat) (fun _ => (if a = 0 then Sum.inr (mag (num s), ()) else Sum.inl ((a : Int), false, l ++ [(X : Int)], ()))) ?_ _ ⟨a, zi _, ha1, by rw [ym zg]; rfl⟩
    rintro j ⟨i, h1, h2, rfl⟩
    rcases zx i e with hi | hi
    ·left
     refine ⟨(((i + 1 : Nat) : Int), (num ((s.take (i + 1)).drop a) : Int), ()), ?_, ⟨i + 1, by omega, by omega, rfl⟩, by simp only; omega, ze⟩
     simp only [ah1, aaU, auM hd h1 hi g3 ha2]
     repeat refine za ?_
     simp (disch := omega) only [aaT, aaB, aaO, aa3, ab8, aaU, zl, zk, aaN, zt]
     rfl
    ·right
     have hie : i = e := zc
     subst hie
     simp only [ah1, ha, hX, zt]
     refine uF sd ?_
     refine uN zc ?_
     by_cases h0 : a = 0
     ·rw [if_pos h0]
      refine uT (by simp [h0]) ?_
      refine uC (mag (num s), ()) ?_ rfl
      rw [zr zh]
      exact apP hD zg (hV0 h0)
     ·rw [if_neg h0]
      refine uF zg ?_
      repeat refine za ?_
      have : w64 ((i : Int) - 9) = (a : Int) := by rw [hw9]; omega
      rw [this]
      rfl
   by_cases h0 : a = 0
   ·right
    rw [if_pos h0] at hin
    refine uF rfl ?_
    refine uO ((a : Int), 0, ()) ?_ hin
    repeat refine za ?_
    rfl
   ·left
    rw [if_neg h0] at hin
    refine ⟨((a : Int), false, l ++ [(X : Int)], ()), ?_, ⟨a, rfl, by omega, by omega, hD, hV1 zc, by simp; omega, by simp⟩, by simp only; omega, ze⟩
    refine uF rfl ?_
    refine uO ((a : Int), 0, ()) ?_ hin
    repeat refine za ?_
    rfl
  ·-- the first group
   obtain rfl := g7 rfl
   simp only [yS] at hD hV0 hV1
   simp only [ak0, ha]
   have hin : ae1 (fun i1 => (ah2 s ((e : Int), true, [], ()) i1).toO) ((a : Int), 0, ()) = some (if a = 0 then Sum.inr (mag (num s), ()) else Sum.inl ((a : Int), false, [(X : Int)], ())) := by
    refine abH (fun j : Int × Int × Unit => ∃ i : Nat, a ≤ i ∧ i ≤ e ∧ j = ((i : Int), (num ((s.take i).drop a) : Int), ())) (fun j => ((e : Int) - j.1).toNat) (fun _ => (if a = 0 then Sum.inr (mag (num s), ()) else Sum.inl ((a : Int), false, [(X : Int)], ()))) ?_ _ ⟨a, zi _, ha1, by rw [ym zg]; rfl⟩
    rintro j ⟨i, h1, h2, rfl⟩
    rcases zx i e with hi | hi
    ·left
     refine ⟨(((i + 1 : Nat) : Int), (num ((s.take (i + 1)).drop a) : Int), ()), ?_, ⟨i + 1, by omega, by omega, rfl⟩, by simp only; omega, ze⟩
     simp only [ah2, aaU, auM hd h1 hi g3 ha2]
     repeat refine za ?_
     simp (disch := omega) only [aaT, aaB, aaO, aa3, ab8, aaU, zl, zk, aaN, zt]
     rfl
    ·right
     have hie : i = e := zc
     subst hie
     simp only [ah2, ha, hX]
     refine uF sd ?_
     refine uN zh ?_
     by_cases h0 : a = 0
     ·rw [if_pos h0]
      refine uT (by simp [h0]) ?_
      refine uC (mag (num s), ()) ?_ rfl
      exact apP hD zh (hV0 h0)
     ·rw [if_neg h0]
      refine uF zg ?_
      repeat refine za ?_
      have : w64 ((i : Int) - 9) = (a : Int) := by rw [hw9]; omega
      rw [this]
      rfl
   by_cases h0 : a = 0
   ·right
    rw [if_pos h0] at hin
    refine uT rfl ?_
    refine uO ((a : Int), 0, ()) ?_ hin
    repeat refine za ?_
    rfl
   ·left
    rw [if_neg h0] at hin
    refine ⟨((a : Int), false, [(X : Int)], ()), ?_, ⟨a, rfl, by omega, by omega, hD, hV1 zc, by simp; omega, by simp⟩, by simp only; omega, ze⟩
    refine uT rfl ?_
    refine uO ((a : Int), 0, ()) ?_ hin
    repeat refine za ?_
    rfl
set_option maxRecDepth 100000
open Go Go.Vg Go.Proofs
noncomputable section
def aEd : LTab := []
def auS (m : List Int) (negative : Bool) : TT (vF × Unit) :=
 .ite (negative)
 (.call (adP (m, ())) Dd1 fun y =>
 .ok (((m, !y.1, ()), ())))
 (.ok (((m, false, ()), ())))
def awN : LTab := []
def alX (n : List Int × Bool × Unit) : TT (vF × Unit) :=
 .call (ab7 (n.1, !n.2.1, ())) Dd5 fun y =>
 .ok (((y.1.1, y.1.2.1, ()), ()))
def aG5 : LTab := []
def arF (n : List Int × Bool × Unit) : TT vW :=
 .call (adP (n.1, ())) Dd1 fun y =>
 .ite (y.1)
 (.ok ((0, ())))
 (.ite (n.2.1)
 (.ok ((-1, ())))
 (.ok ((1, ()))))
def aG4 : LTab := []
def arE (n : List Int × Bool × Unit) : TT vU :=
 .ite (n.2.1)
 (.call (agI (n.1, ())) Dd2 fun y =>
 .need (List.length #[45].toList + List.length y.1 ≤ lim) <| .ok ((#[45].toList ++ y.1, ())))
 (.call (agI (n.1, ())) Dd2 fun y1 =>
 .ok ((y1.1, ())))
def aJY : LTab := []
def awL (n : List Int × Bool × Unit) (o : List Int × Bool × Unit) : TT (vF × Unit) :=
 .ite (n.2.1 == o.2.1)
 (.call (amC (n.1, o.1, ())) Dd0 fun y =>
 .call (ab7 (y.1, n.2.1, ())) Dd5 fun y1 =>
 .ok (((y1.1.1, y1.1.2.1, ()), ())))
 (.call (adQ (n.1, o.1, ())) Dd6 fun y2 =>
 .ite (decide (y2.1 < 0))
 (.call (ahJ (o.1, n.1, ())) Dd0 fun y3 =>
 .call (ab7 (y3.1, o.2.1, ())) Dd5 fun y4 =>
 .ok (((y4.1.1, y4.1.2.1, ()), ())))
 (.call (ahJ (n.1, o.1, ())) Dd0 fun y5 =>
 .call (ab7 (y5.1, n.2.1, ())) Dd5 fun y6 =>
 .ok (((y6.1.1, y6.1.2.1, ()), ()))))
def aBu : LTab := []
def akY (n : List Int × Bool × Unit) (m : List Int) : TT (vF × Unit) :=
 .call (adF (n.1, m, ())) Dd0 fun y =>
 .call (ab7 (y.1, n.2.1, ())) Dd5 fun y1 =>
 .ok (((y1.1.1, y1.1.2.1, ()), ()))
def aEf : LTab := []
def auT (a : List UInt8) : TT (vF × Unit) :=
 .call (ac9 (a, #[45].toList, ())) Dd7 fun y =>
 .call (afZ (y.1, ())) Dd0 fun y1 =>
 .ok (((y1.1, y.2.1, ()), ()))
def aBH : LTab := []
def ak3 (s : List UInt8) (prefix0 : List UInt8) : TT (List UInt8 × Bool × Unit) :=
 .tt <| .tt <| .tt <| .tt <| .ite (decide (len s ≥ len prefix0))
 (.need (inc (len prefix0) (len s)) <| .ite (!List.take (Int.toNat (len prefix0)) s == prefix0)
 (.ok ((s, false, ())))
 (.need (inc (len prefix0) (len s)) <| .ok ((List.take (List.length s - Int.toNat (len prefix0)) (List.drop (Int.toNat (len prefix0)) s), true, ()))))
 (.ok ((s, false, ())))
def aD2 : LTab := []
def am2 (x : vF × List Int × Unit) : TT vX :=
 .call (agH (x.1.1, ())) Dd6 fun y =>
 .ite (decide (y.1 > 600))
 (.ok (((#[].toList, #[].toList, ()), 6, ())))
 (.call (agH (x.2.1, ())) Dd6 fun y1 =>
 .ite (decide (y1.1 > 600))
 (.ok (((#[].toList, #[].toList, ()), 6, ())))
 (.call (amD ((x.1.1, x.1.2.1, ()), ())) Dd2 fun y2 =>
 .call (agI (x.2.1, ())) Dd2 fun y3 =>
 .ok (((y2.1, y3.1, ()), 0, ()))))
def aBv : LTab := []
def akZ (n : List Int × Bool × Unit) (d : List Int) : TT uc :=
 .call (afU (n.1, d, ())) Dd0 fun y =>
 .call (abT (n.1, y.1, ())) Dd4 fun y1 =>
 .call (abT (d, y.1, ())) Dd4 fun y2 =>
 .call (ab7 (y1.1, n.2.1, ())) Dd5 fun y3 =>
 .ok ((((y3.1.1, y3.1.2.1, ()), y2.1, ()), ()))
def aJV : LTab := []
def awG (x : vF × List Int × Unit) (y : vF × List Int × Unit) : TT uc :=
 .call (afU (x.2.1, y.2.1, ())) Dd0 fun y1 =>
 .call (abT (y.2.1, y1.1, ())) Dd4 fun y2 =>
 .call (abT (x.2.1, y1.1, ())) Dd4 fun y3 =>
 .call (ad9 ((x.1.1, x.1.2.1, ()), y2.1, ())) Dd5 fun y4 =>
 .call (ad9 ((y.1.1, y.1.2.1, ()), y3.1, ())) Dd5 fun y5 =>
 .call (amE (y4.1, y5.1, ())) Dd5 fun y6 =>
 .call (afU (y6.1.1, y1.1, ())) Dd0 fun y7 =>
 .call (abT (y6.1.1, y7.1, ())) Dd4 fun y8 =>
 .call (abT (y.2.1, y7.1, ())) Dd4 fun y9 =>
 .call (ab7 (y8.1, y6.1.2.1, ())) Dd5 fun y10 =>
 .call (adF (y3.1, y9.1, ())) Dd0 fun y11 =>
 .ok ((((y10.1.1, y10.1.2.1, ()), y11.1, ()), ()))
def aJT (x : vF × List Int × Unit) (y : vF × List Int × Unit) : TT uc :=
 .call (aoL (((y.1.1, y.1.2.1, ()), y.2.1, ()), ())) Dd8 fun y1 =>
 .call (amB (((x.1.1, x.1.2.1, ()), x.2.1, ()), y1.1, ())) Dd8 fun y2 =>
 .ok ((((y2.1.1.1, y2.1.1.2.1, ()), y2.1.2.1, ()), ()))
def aJU : LTab := []
def awF (x : vF × List Int × Unit) (y : vF × List Int × Unit) : TT uc :=
 .call (afU (x.1.1, y.2.1, ())) Dd0 fun y1 =>
 .call (afU (y.1.1, x.2.1, ())) Dd0 fun y2 =>
 .call (abT (x.1.1, y1.1, ())) Dd4 fun y3 =>
 .call (abT (x.2.1, y2.1, ())) Dd4 fun y4 =>
 .call (abT (y.1.1, y2.1, ())) Dd4 fun y5 =>
 .call (abT (y.2.1, y1.1, ())) Dd4 fun y6 =>
 .call (adF (y3.1, y5.1, ())) Dd0 fun y7 =>
 .call (ab7 (y7.1, !x.1.2.1 == y.1.2.1, ())) Dd5 fun y8 =>
 .call (adF (y4.1, y6.1, ())) Dd0 fun y9 =>
 .ok ((((y8.1.1, y8.1.2.1, ()), y9.1, ()), ()))
def aD3 : LTab := []
def am3 (x : vF × List Int × Unit) (y : vF × List Int × Unit) : TT vW :=
 .call (ad9 ((x.1.1, x.1.2.1, ()), y.2.1, ())) Dd5 fun y1 =>
 .call (ad9 ((y.1.1, y.1.2.1, ()), x.2.1, ())) Dd5 fun y2 =>
 .call (afV (y2.1, ())) Dd5 fun y3 =>
 .call (amE (y1.1, y3.1, ())) Dd5 fun y4 =>
 .call (ai6 (y4.1, ())) Dd6 fun y5 =>
 .ok ((y5.1, ()))
end
theorem aB9 {p q : Int × Int} (h : (sg p.1, sg p.2, ()) = (sg q.1, sg q.2, ())) : p = q := by
 obtain ⟨h1, h2⟩ := Prod.mk.inj h
 obtain ⟨h2, -⟩ := Prod.mk.inj h2
 exact Prod.ext (anT h1) (anT h2)
theorem aE8 {p q : Int × Nat} (h : (sg p.1, mag p.2, ()) = (sg q.1, mag q.2, ())) : p = q := by
 obtain ⟨h1, h2⟩ := Prod.mk.inj h
 obtain ⟨h2, -⟩ := Prod.mk.inj h2
 exact Prod.ext (anT h1) (af5 h2)
theorem avV {p q : Rat × Rat} (h : (rt p.1, rt p.2, ()) = (rt q.1, rt q.2, ())) : p = q := by
 obtain ⟨h1, h2⟩ := Prod.mk.inj h
 obtain ⟨h2, -⟩ := Prod.mk.inj h2
 exact Prod.ext (ax0 h1) (ax0 h2)
theorem azR (m : List Int) (negative : Bool) (y) (h : ab7 (m, negative, ()) = some y) : (auS m negative).toO = some y := by
 injection h with h
 subst h
 cases negative
 ·rfl
 ·exact uT rfl (uC (len m == 0, ()) rfl rfl)
theorem adV {n : Nat} {b : Bool} {w : Int} (hn : n = w.natAbs) (hb : w = 0 ∨ b = decide (w < 0)) : ab7 (mag n, b, ()) = some (sg w, ()) := by
 subst hn
 unfold ab7 sg
 rcases hb with rfl | rfl
 ·simp [mag_zero, len]
 ·by_cases h0 : w = 0
  ·subst h0; simp
  ·have : (len (mag w.natAbs) == 0) = false := by
    have h1 : mag w.natAbs ≠ [] := fun h2 => by have := mag_nil_iff.1 h2; omega
    have h3 : (mag w.natAbs).length ≠ 0 := fun h2 => h1 (zW.1 h2)
    rw [aaN, beq_eq_false_iff_ne]; omega
   simp only [this, Bool.not_false, Bool.and_true]
theorem axK {a : Int} (h1 : Bd 8 a.natAbs) : afV (sg a, ()) = some (sg (-a), ()) := aaZ (enc := fun x : Int => (sg x, ())) a h1 (fun b hb => anT (Prod.mk.inj hb).1)
theorem aDa {a b : Int} (h1 : Bd 7 a.natAbs) (h2 : Bd 7 b.natAbs) : amE (sg a, sg b, ()) = some (sg (a + b), ()) := aaZ (enc := fun x : Int × Int => (sg x.1, sg x.2, ())) (a, b) ⟨h1, h2⟩ (fun b hb => aB9 hb)
theorem arG (n : SgT) (y) (h : afV (n, ()) = some y) : (alX n).toO = some y := by
 obtain ⟨a, hp, hx, rfl⟩ := aaP h
 obtain ⟨rfl, -⟩ := Prod.mk.inj hx
 refine uC (sg (-a), ()) (adV zc ?_) rfl
 by_cases h0 : a = 0
 ·left; omega
 ·right
  show (!decide (a < 0)) = decide (-a < 0)
  by_cases h1 : a < 0
  ·rw [zp h1, zn zc]; rfl
  ·rw [zn h1, zp zc]; rfl
theorem aEc (n o : SgT) (y) (h : amE (n, o, ()) = some y) : (awL n o).toO = some y := by
 obtain ⟨⟨a, b⟩, hp, hx, rfl⟩ := aaP h
 obtain ⟨rfl, hx2⟩ := Prod.mk.inj hx; obtain ⟨rfl, -⟩ := Prod.mk.inj hx2; dsimp only
 obtain ⟨l1, l2⟩ := hp
 simp only at l1 l2
 unfold awL
 dsimp only
 by_cases hs : (decide (a < 0) == decide (b < 0)) = true
 ·refine uT hs ?_
  have hs' : (a < 0 ↔ b < 0) := by simpa using hs
  refine uC _ (aH8 (aaS l1 zc) (aaS l2 zc)) ?_
  refine uC (sg (a + b), ()) (adV zc (Or.inr ?_)) rfl
  exact decide_eq_decide.2 zc
 ·have hs' : ¬ (a < 0 ↔ b < 0) := by simpa using hs
  refine uF (by simpa using hs) ?_
  refine uC _ (aoP (aaS l1 zc) (aaS l2 zc)) ?_
  by_cases hc : a.natAbs < b.natAbs
  ·refine uT ?_ ?_
   ·unfold atH; rw [if_pos zc]; rfl
   ·refine uC _ (avC (aaS l2 zc) zc) ?_
    refine uC (sg (a + b), ()) (adV zc (Or.inr ?_)) rfl
    exact decide_eq_decide.2 zc
  ·refine uF ?_ ?_
   ·unfold atH
    rw [if_neg zc]
    split <;> rfl
   ·refine uC _ (avC (aaS l1 zc) zc) ?_
    refine uC (sg (a + b), ()) (adV zc ?_) rfl
    by_cases h0 : a + b = 0
    ·exact Or.inl h0
    ·exact Or.inr (decide_eq_decide.2 zc)
theorem aAy {a : Int} (h1 : Bd 8 a.natAbs) : ai6 (sg a, ()) = some (a.sign, ()) := aaZ (enc := fun x : Int => (sg x, ())) a h1 (fun b hb => anT (Prod.mk.inj hb).1)
theorem aBt (n : SgT) (y) (h : ai6 (n, ()) = some y) : (arF n).toO = some y := by
 obtain ⟨a, hp, hx, rfl⟩ := aaP h
 obtain ⟨rfl, -⟩ := Prod.mk.inj hx
 unfold arF
 dsimp only
 refine uC _ (asO _) ?_
 rcases Int.lt_trichotomy a 0 with h0 | h0 | h0
 ·refine uF zg (uT zg ?_)
  rw [xu h0]; rfl
 ·subst h0; exact uT zh rfl
 ·refine uF zg (uF zg ?_)
  rw [xK h0]; rfl
theorem aH9 {a : Int} (h1 : Bd 0 a.natAbs) : amD (sg a, ()) = some (dec a, ()) := aaZ (enc := fun x : Int => (sg x, ())) a h1 (fun b hb => anT (Prod.mk.inj hb).1)
theorem aJ9 {n : Nat} (h : Bd 0 n) : (acG n).length ≤ 9000001 := by
 have := ag1 (k := 1000000 * 4 ^ 0) h
 omega
theorem aBr (n : SgT) (y) (h : amD (n, ()) = some y) : (arE n).toO = some y := by
 obtain ⟨a, hp, hx, rfl⟩ := aaP h
 obtain ⟨rfl, -⟩ := Prod.mk.inj hx
 unfold arE
 dsimp only
 have hl := aJ9 hp
 by_cases h0 : a < 0
 ·refine uT zg (uC _ (ak9 hp) (uN ?_ ?_))
  ·show 1 + (acG a.natAbs).length ≤ lim
   unfold lim; omega
  ·rw [ah4 h0]; rfl
 ·refine uF zg (uC _ (ak9 hp) ?_)
  rw [adE zc]; rfl
theorem aiE {a : Int} {b : Nat} (h1 : Bd 7 a.natAbs) (h2 : Bd 7 b) : ad9 (sg a, mag b, ()) = some (sg (a * b), ()) := aaZ (enc := fun x : Int × Nat => (sg x.1, mag x.2, ())) (a, b) ⟨h1, h2⟩ (fun b hb => aE8 hb)
theorem awM (n : SgT) (m : List Int) (y) (h : ad9 (n, m, ()) = some y) : (akY n m).toO = some y := by
 obtain ⟨⟨a, b⟩, hp, hx, rfl⟩ := aaP h
 obtain ⟨rfl, hx2⟩ := Prod.mk.inj hx; obtain ⟨rfl, -⟩ := Prod.mk.inj hx2; dsimp only
 obtain ⟨l1, l2⟩ := hp
 simp only at l1 l2
 unfold akY
 dsimp only
 refine uC _ (ajW (aaS l1 zc) (aaS l2 zc)) ?_
 refine uC (sg (a * b), ()) (adV (by rw [yH]; rfl) ?_) rfl
 rcases zC b with h0 | h0
 ·left; subst h0; simp
 ·right
  refine decide_eq_decide.2 ⟨fun h => wi h zc, fun h => ?_⟩
  rcases zL a 0 with h2 | h2
  ·exact h2
  ·have := xg h2 (show (0 : Int) ≤ b by omega); omega
theorem aLY : mag 1 = [1] := aqQ zc zc
theorem aw1 (s p : List UInt8) (hs : s.length ≤ 4611686018427387904) (y) (h : ac9 (s, p, ()) = some y) : (ak3 s p).toO = some y := by
 injection h with h
 subst h
 unfold ak3
 dsimp only
 rcases zx s.length p.length with hl | hl
 ·repeat refine za ?_
  have : p.isPrefixOf s = false := by
   cases hp : p.isPrefixOf s with
   | false => rfl
   | true => have := (xV.1 hp).length_le; omega
  simp [this, aaT]
 ·refine uV (uV (uV (uV (uT sd (uN sd ?_)))))
  simp only [aaN, zk]
  by_cases hp : p.isPrefixOf s = true
  ·have h2 := List.prefix_iff_eq_take.1 (xV.1 hp)
   refine uF (by rw [← h2]; simp) (uN sd ?_)
   rw [if_pos hp, zr zh]; rfl
  ·refine uT ?_ ?_
   ·simp only [zX, beq_eq_false_iff_ne]
    intro h2
    exact hp (xV.2 (List.prefix_iff_eq_take.2 h2.symm))
   ·rw [if_neg hp]; rfl
theorem aAz (z : Int) : ac9 (dec z, #[45].toList, ()) = some (acG z.natAbs, decide (z < 0), ()) := by
 unfold ac9
 show some (if [45].isPrefixOf (dec z) = true then _ else _) = _
 by_cases h : z < 0
 ·rw [ah4 h, zp h]
  simp [List.isPrefixOf]
 ·rw [adE zc, zn h]
  have : [45].isPrefixOf (acG z.natAbs) = false := by
   have := aeS z.natAbs
   cases hd : acG z.natAbs with
   | nil => rfl
   | cons a l =>
    rw [hd] at this
    simp only [wP, ne_eq, Option.some.injEq] at this
    simp [List.isPrefixOf, Ne.symm this]
  rw [this]; simp
theorem ajY {z : Int} (h : Bd 7 z.natAbs) : ae9 (dec z, ()) = some (sg z, ()) := aaZ (enc := fun x : Int => (dec x, ())) z h (fun b hb => arW (Prod.mk.inj hb).1)
theorem azS (a : List UInt8) (y) (h : ae9 (a, ()) = some y) : (auT a).toO = some y := by
 obtain ⟨z, hp, hx, rfl⟩ := aaP h
 obtain ⟨rfl, -⟩ := Prod.mk.inj hx
 exact uC _ (aAz z) (uC _ (aEP (aaS hp zc)) rfl)
end Go.Vs
