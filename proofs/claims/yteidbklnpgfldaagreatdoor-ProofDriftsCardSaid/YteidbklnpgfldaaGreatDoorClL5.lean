/-
  Trees of what the functions compute, and their laws. Own work; no condition.
-/
import Derived.Test.YteidbklnpgfldaaGreatDoorClL4
import Derived.Test.YteidbklnpgfldaaGreatDoorProg
set_option linter.unusedVariables false
set_option linter.unusedSimpArgs false
set_option maxRecDepth 100000
namespace Go.Vs
open Go Go.Vg Go.Proofs
noncomputable section
abbrev clm (lo hi e : Int) : Int := if hi < if lo > e then lo else e then hi else if lo > e then lo else e
abbrev qd0 (t : DrT × Int × List (List Int) × Int × Int × Unit) : Prop := Qq (27 : TypeId) ∧ Qq t.1.1 ∧ Qq t.1.2.1 ∧ Qq t.2.1 ∧ Qq t.2.2.1 ∧ Qq t.2.2.2.1 ∧ Qq t.2.2.2.2.1 ∧ True
abbrev qd1 (t : DrT × Int × List (List Int) × Int × Int × Unit) (y : List PtT × Unit) (i : Int × List PtT × Unit) : Prop := Qq (3 : TypeId) ∧ Qq (List.take 0 [] ++ (gP y.1 (Int.tmod (w64 (i.1 + w64 t.2.1)) (len y.1))).2.1 : List Int)
abbrev qd2 (t : DrT × Int × List (List Int) × Int × Int × Unit) (y : List PtT × Unit) (i : Int × List PtT × Unit) : Prop := Qq 37 ∧ Qq 0 ∧ Qq (0 + List.length (gP y.1 (Int.tmod (w64 (i.1 + w64 t.2.1)) (len y.1))).2.1) ∧ Qq true
def aCz : LTab := [(5, 122, 14338, ⟨0, (Int) × (List PtT) × Unit, .dat (.s 18) vC <| .app (.s 5) 14 36 aMf <| .nil, [17, 4, 3, 2, 1], [0], 1⟩), (5, 31335, 39938, ⟨1, (Int) × (Int) × (Int) × Unit, .dat (.c 29 2) vC <| .dat (.c 29 3) vC <| .dat (.c 29 4) vC <| .nil, [7, 6, 5, 18, 17, 4, 3, 2, 1], [35, 29, 14, 0], 0⟩), (5, 62671, 39938, ⟨2, (List UInt8) × Unit, .dat (.c 29 0) (Ty.str) <| .nil, [7, 6, 5, 18, 17, 4, 3, 2, 1], [35, 29, 14, 0], 0⟩), (5, 31335, 40962, ⟨3, (Int) × (Int) × (Int) × Unit, .dat (.c 29 2) vC <| .dat (.c 29 3) vC <| .dat (.c 29 4) vC <| .nil, [7, 6, 5, 18, 17, 4, 3, 2, 1], [37, 35, 29, 14, 0], 0⟩), (5, 62671, 40962, ⟨4, (List UInt8) × Unit, .dat (.c 29 0) (Ty.str) <| .nil, [7, 6, 5, 18, 17, 4, 3, 2, 1], [37, 35, 29, 14, 0], 0⟩), (5, 4010922, 888888888, uS), (10, 16042, 888888888, uS), (10, 16378, 888888888, uS), (11, 260682, 888888888, uS), (1000017, 106, 888888888, uS)]
def aAk (t : DrT × Int × List (List Int) × Int × Int × Unit) (y : List PtT × Unit) (i : Int × List PtT × Unit) (j : Int × Int × Int × Unit) (j1 : (List UInt8) × Unit) : TT (((Int) × (List PtT) × Unit) ⊕ (List PtT × List PtT × Unit)) :=
 .need ((List.length i.2.1 + 1) * 64 ≤ 140737488355328) <| .tt <| .lt (w64 (i.1 + 1) : Int) fun z9 => .lt (List.take (List.length i.2.1) i.2.1 ++ [(j1.1, List.take 0 [], [j.1, j.2.1, j.2.2.1], ())] : List PtT) fun z10 => .need ((((14) = (14)) ∧ (((0) = (0)) ∧ ((List.length i.2.1 + 1 = List.length z10) ∧ ((true) = (true))))) ∧ ((z9 : Int) = z9) ∧ ((len y.1 : Int) = len y.1) ∧ ((y.1 : List PtT) = y.1) ∧ True ∧ True ∧ (((0) = (0)) ∧ (((0) = (0)) ∧ ((true) = (true)))) ∧ True) <| .wV (wU (vq 36 z10) <| wU (qd0 t) True) <| .ok (.inl ((z9, z10, ())))
def aAl (t : DrT × Int × List (List Int) × Int × Int × Unit) (y : List PtT × Unit) (i : Int × List PtT × Unit) (j : (Int) × (Int) × (Int) × Unit) : TT (((Int) × (List PtT) × Unit) ⊕ (List PtT × List PtT × Unit)) :=
 .join 2 (ι := (List UInt8) × Unit) (.ite (i.1 == w64 t.2.2.2.1)
 (.tt <| .lt (#[111, 116, 104, 101, 114].toList : List UInt8) fun z7 => .wV (ut ∧ (wY i.1 <| (vo 14 0 (List.length i.2.1) true) ∧ (ve i.1 (len y.1) y.1 <| True ∧ True ∧ vM ∧ True))) <| .wV (wU (vq 3 ([] : List Int)) <| wU (vt 36 z7 <| (vo 35 0 0 true) ∧ vj j.1 j.2.1 j.2.2.1) <| wU (vq 36 i.2.1) <| wU (qd0 t) True) <| .ok (.inl ((z7, ()))))
 (.tt <| .lt ((gP y.1 (Int.tmod (w64 (i.1 + w64 t.2.1)) (len y.1))).1 : List UInt8) fun z8 => .wV (ut ∧ (wY i.1 <| (vo 14 0 (List.length i.2.1) true) ∧ (ve i.1 (len y.1) y.1 <| True ∧ True ∧ vM ∧ True))) <| .wV (wU (vq 3 ([] : List Int)) <| wU (vt 36 z8 <| (vo 35 0 0 true) ∧ vj j.1 j.2.1 j.2.2.1) <| wU (vq 36 i.2.1) <| wU (qd0 t) True) <| .ok (.inl ((z8, ()))))) (aAk t y i j)
def ao5 (t : DrT × Int × List (List Int) × Int × Int × Unit) (y : List PtT × Unit) (i : Int × List PtT × Unit) (j2 : Int × Int × Int × Unit) (j3 : (List UInt8) × Unit) : TT (((Int) × (List PtT) × Unit) ⊕ (List PtT × List PtT × Unit)) :=
 .need ((List.length i.2.1 + 1) * 64 ≤ 140737488355328) <| .tt <| .lt (w64 (i.1 + 1) : Int) fun z19 => .lt (List.take (List.length i.2.1) i.2.1 ++ [(j3.1, List.take (0 + List.length (gP y.1 (Int.tmod (w64 (i.1 + w64 t.2.1)) (len y.1))).2.1) (List.take 0 [] ++ (gP y.1 (Int.tmod (w64 (i.1 + w64 t.2.1)) (len y.1))).2.1), [j2.1, j2.2.1, j2.2.2.1], ())] : List PtT) fun z20 => .need ((((14) = (14)) ∧ (((0) = (0)) ∧ ((List.length i.2.1 + 1 = List.length z20) ∧ ((true) = (true))))) ∧ ((z19 : Int) = z19) ∧ ((len y.1 : Int) = len y.1) ∧ ((y.1 : List PtT) = y.1) ∧ True ∧ True ∧ (((0) = (0)) ∧ (((0) = (0)) ∧ ((true) = (true)))) ∧ True) <| .wV (wU (vq 36 z20) <| wU (qd0 t) True) <| .ok (.inl ((z19, z20, ())))
def ao6 (t : DrT × Int × List (List Int) × Int × Int × Unit) (y : List PtT × Unit) (i : Int × List PtT × Unit) (j2 : (Int) × (Int) × (Int) × Unit) : TT (((Int) × (List PtT) × Unit) ⊕ (List PtT × List PtT × Unit)) :=
 .join 4 (ι := (List UInt8) × Unit) (.ite (i.1 == w64 t.2.2.2.1)
 (.tt <| .lt (#[111, 116, 104, 101, 114].toList : List UInt8) fun z17 => .wV (ut ∧ (wY i.1 <| (vo 14 0 (List.length i.2.1) true) ∧ (ve i.1 (len y.1) y.1 <| True ∧ True ∧ vM ∧ True))) <| .wV (wU (qd1 t y i) <| wU (vq 3 ([] : List Int)) <| wU (vt 36 z17 <| (qd2 t y i) ∧ vj j2.1 j2.2.1 j2.2.2.1) <| wU (vq 36 i.2.1) <| wU (qd0 t) True) <| .ok (.inl ((z17, ()))))
 (.tt <| .lt ((gP y.1 (Int.tmod (w64 (i.1 + w64 t.2.1)) (len y.1))).1 : List UInt8) fun z18 => .wV (ut ∧ (wY i.1 <| (vo 14 0 (List.length i.2.1) true) ∧ (ve i.1 (len y.1) y.1 <| True ∧ True ∧ vM ∧ True))) <| .wV (wU (qd1 t y i) <| wU (vq 3 ([] : List Int)) <| wU (vt 36 z18 <| (qd2 t y i) ∧ vj j2.1 j2.2.1 j2.2.2.1) <| wU (vq 36 i.2.1) <| wU (qd0 t) True) <| .ok (.inl ((z18, ()))))) (ao5 t y i j2)
def ao7 (t : DrT × Int × List (List Int) × Int × Int × Unit) (y : List PtT × Unit) (i : (Int) × (List PtT) × Unit) : TT (((Int) × (List PtT) × Unit) ⊕ (List PtT × List PtT × Unit)) :=
 .ite (decide (i.1 < len y.1))
 (.need (len y.1 ≠ 0) <| .need (inb (Int.tmod (w64 (i.1 + w64 t.2.1)) (len y.1)) (len y.1)) <| .tt <| .tt <| .need (0 < List.length (gP y.1 (Int.tmod (w64 (i.1 + w64 t.2.1)) (len y.1))).2.1) <| .need ((0 + List.length (gP y.1 (Int.tmod (w64 (i.1 + w64 t.2.1)) (len y.1))).2.1) * 8 ≤ 140737488355328) <| .ite (List.isEmpty (gP y.1 (Int.tmod (w64 (i.1 + w64 t.2.1)) (len y.1))).2.1)
 (.join 1 (ι := (Int) × (Int) × (Int) × Unit) (.ite (decide (len t.2.2.1 > 0))
 (.need (len t.2.2.1 ≠ 0) <| .need (inb (Int.tmod i.1 (len t.2.2.1)) (len t.2.2.1)) <| .triv (asT Int 0 ≤ 0 ∧ 0 < (↑3 : Int)) zc <| .triv (asT Int 0 ≤ 0 ∧ 0 < (↑3 : Int)) zc <| .triv (asT Int 0 ≤ 0 ∧ 0 < (↑3 : Int)) zc <| .triv (inb (w64 (0 + 1)) (↑3 : Int)) zc <| .triv (inb (w64 (0 + 1)) (↑3 : Int)) zc <| .triv (inb (w64 (0 + 1)) (↑3 : Int)) zc <| .triv (inb (w64 (w64 (0 + 1) + 1)) (↑3 : Int)) zc <| .triv (inb (w64 (w64 (0 + 1) + 1)) (↑3 : Int)) zc <| .triv (inb (w64 (w64 (0 + 1) + 1)) (↑3 : Int)) zc <| .triv (asT Int 0 ≤ 0 ∧ 0 < (↑3 : Int)) zc <| .triv (asT Int 0 ≤ 0 ∧ 0 < (↑3 : Int)) zc <| .triv (asT Int 0 ≤ 1 ∧ 1 < (↑3 : Int)) zc <| .triv (asT Int 0 ≤ 2 ∧ 2 < (↑3 : Int)) zc <| .triv (asT Int 0 ≤ 1 ∧ 1 < (↑3 : Int)) zc <| .triv (asT Int 0 ≤ 2 ∧ 2 < (↑3 : Int)) zc <| .tt <| .lt (clm 0 10000 (w64 (List.headD (gP y.1 (Int.tmod (w64 (i.1 + w64 t.2.1)) (len y.1))).2.2.1 0 + w64 (List.headD (gi t.2.2.1 (Int.tmod i.1 (len t.2.2.1)) (List.replicate 3 0)) 0))) : Int) fun z1 => .lt (clm (-12800) 12700 (w64 (List.headD (List.tail (gP y.1 (Int.tmod (w64 (i.1 + w64 t.2.1)) (len y.1))).2.2.1) 0 + w64 (List.headD (List.tail (gi t.2.2.1 (Int.tmod i.1 (len t.2.2.1)) (List.replicate 3 0))) 0))) : Int) fun z2 => .lt (clm (-12800) 12700 (w64 (List.headD (List.tail (List.tail (gP y.1 (Int.tmod (w64 (i.1 + w64 t.2.1)) (len y.1))).2.2.1)) 0 + w64 (List.headD (List.tail (List.tail (gi t.2.2.1 (Int.tmod i.1 (len t.2.2.1)) (List.replicate 3 0)))) 0))) : Int) fun z3 => .wV (ut ∧ (wY i.1 <| (vo 14 0 (List.length i.2.1) true) ∧ (ve i.1 (len y.1) y.1 <| True ∧ True ∧ vM ∧ True))) <| .wV (wU (vq 3 ([] : List Int)) <| wU (vt 36 ((gP y.1 (Int.tmod (w64 (i.1 + w64 t.2.1)) (len y.1))).1 : List UInt8) <| (vo 35 0 0 true) ∧ vj z1 z2 z3) <| wU (vq 36 i.2.1) <| wU (qd0 t) True) <| .ok (.inl ((z1, z2, z3, ()))))
 (.tt <| .lt (List.headD (gP y.1 (Int.tmod (w64 (i.1 + w64 t.2.1)) (len y.1))).2.2.1 0 : Int) fun z4 => .lt (List.headD (List.tail (gP y.1 (Int.tmod (w64 (i.1 + w64 t.2.1)) (len y.1))).2.2.1) 0 : Int) fun z5 => .lt (List.headD (List.tail (List.tail (gP y.1 (Int.tmod (w64 (i.1 + w64 t.2.1)) (len y.1))).2.2.1)) 0 : Int) fun z6 => .wV (ut ∧ (wY i.1 <| (vo 14 0 (List.length i.2.1) true) ∧ (ve i.1 (len y.1) y.1 <| True ∧ True ∧ vM ∧ True))) <| .wV (wU (vq 3 ([] : List Int)) <| wU (vt 36 ((gP y.1 (Int.tmod (w64 (i.1 + w64 t.2.1)) (len y.1))).1 : List UInt8) <| (vo 35 0 0 true) ∧ vj z4 z5 z6) <| wU (vq 36 i.2.1) <| wU (qd0 t) True) <| .ok (.inl ((z4, z5, z6, ()))))) (aAl t y i))
 (.join 3 (ι := (Int) × (Int) × (Int) × Unit) (.ite (decide (len t.2.2.1 > 0))
 (.need (len t.2.2.1 ≠ 0) <| .need (inb (Int.tmod i.1 (len t.2.2.1)) (len t.2.2.1)) <| .triv (asT Int 0 ≤ 0 ∧ 0 < (↑3 : Int)) zc <| .triv (asT Int 0 ≤ 0 ∧ 0 < (↑3 : Int)) zc <| .triv (asT Int 0 ≤ 0 ∧ 0 < (↑3 : Int)) zc <| .triv (inb (w64 (0 + 1)) (↑3 : Int)) zc <| .triv (inb (w64 (0 + 1)) (↑3 : Int)) zc <| .triv (inb (w64 (0 + 1)) (↑3 : Int)) zc <| .triv (inb (w64 (w64 (0 + 1) + 1)) (↑3 : Int)) zc <| .triv (inb (w64 (w64 (0 + 1) + 1)) (↑3 : Int)) zc <| .triv (inb (w64 (w64 (0 + 1) + 1)) (↑3 : Int)) zc <| .triv (asT Int 0 ≤ 0 ∧ 0 < (↑3 : Int)) zc <| .triv (asT Int 0 ≤ 0 ∧ 0 < (↑3 : Int)) zc <| .triv (asT Int 0 ≤ 1 ∧ 1 < (↑3 : Int)) zc <| .triv (asT Int 0 ≤ 2 ∧ 2 < (↑3 : Int)) zc <| .triv (asT Int 0 ≤ 1 ∧ 1 < (↑3 : Int)) zc <| .triv (asT Int 0 ≤ 2 ∧ 2 < (↑3 : Int)) zc <| .tt <| .lt (clm 0 10000 (w64 (List.headD (gP y.1 (Int.tmod (w64 (i.1 + w64 t.2.1)) (len y.1))).2.2.1 0 + w64 (List.headD (gi t.2.2.1 (Int.tmod i.1 (len t.2.2.1)) (List.replicate 3 0)) 0))) : Int) fun z11 => .lt (clm (-12800) 12700 (w64 (List.headD (List.tail (gP y.1 (Int.tmod (w64 (i.1 + w64 t.2.1)) (len y.1))).2.2.1) 0 + w64 (List.headD (List.tail (gi t.2.2.1 (Int.tmod i.1 (len t.2.2.1)) (List.replicate 3 0))) 0))) : Int) fun z12 => .lt (clm (-12800) 12700 (w64 (List.headD (List.tail (List.tail (gP y.1 (Int.tmod (w64 (i.1 + w64 t.2.1)) (len y.1))).2.2.1)) 0 + w64 (List.headD (List.tail (List.tail (gi t.2.2.1 (Int.tmod i.1 (len t.2.2.1)) (List.replicate 3 0)))) 0))) : Int) fun z13 => .wV (ut ∧ (wY i.1 <| (vo 14 0 (List.length i.2.1) true) ∧ (ve i.1 (len y.1) y.1 <| True ∧ True ∧ vM ∧ True))) <| .wV (wU (qd1 t y i) <| wU (vq 3 ([] : List Int)) <| wU (vt 36 ((gP y.1 (Int.tmod (w64 (i.1 + w64 t.2.1)) (len y.1))).1 : List UInt8) <| (qd2 t y i) ∧ vj z11 z12 z13) <| wU (vq 36 i.2.1) <| wU (qd0 t) True) <| .ok (.inl ((z11, z12, z13, ()))))
 (.tt <| .lt (List.headD (gP y.1 (Int.tmod (w64 (i.1 + w64 t.2.1)) (len y.1))).2.2.1 0 : Int) fun z14 => .lt (List.headD (List.tail (gP y.1 (Int.tmod (w64 (i.1 + w64 t.2.1)) (len y.1))).2.2.1) 0 : Int) fun z15 => .lt (List.headD (List.tail (List.tail (gP y.1 (Int.tmod (w64 (i.1 + w64 t.2.1)) (len y.1))).2.2.1)) 0 : Int) fun z16 => .wV (ut ∧ (wY i.1 <| (vo 14 0 (List.length i.2.1) true) ∧ (ve i.1 (len y.1) y.1 <| True ∧ True ∧ vM ∧ True))) <| .wV (wU (qd1 t y i) <| wU (vq 3 ([] : List Int)) <| wU (vt 36 ((gP y.1 (Int.tmod (w64 (i.1 + w64 t.2.1)) (len y.1))).1 : List UInt8) <| (qd2 t y i) ∧ vj z14 z15 z16) <| wU (vq 36 i.2.1) <| wU (qd0 t) True) <| .ok (.inl ((z14, z15, z16, ()))))) (ao6 t y i)))
 (.ok (.inr ((y.1, List.take (List.length i.2.1) i.2.1, ()))))
def afY (t : DrT × Int × List (List Int) × Int × Int × Unit) : TT (List PtT × List PtT × Unit) :=
 .call (adA ((t.1.1, t.1.2.1, ()), ())) Df9 fun y =>
 .need (asT Int 0 ≤ 0 ∧ 0 ≤ len y.1 ∧ len y.1 * (↑64 : Int) ≤ 140737488355328) <| .loop 0 (.tt <| .lt (List.replicate (Int.toNat 0) ([], [], [0, 0, 0], ()) : List PtT) fun z => .wV ((vo 14 0 0 true) ∧ (ve (0 : Int) (len y.1) y.1 <| True ∧ True ∧ vM ∧ True)) <| .wV (wU (vq 36 z) <| wU (qd0 t) True) <| .ok ((0, z, ()))) (ao7 t y)
end
open Go Go.Vg
noncomputable def aiX (x : TwT × Unit) : Option (List PtT × List PtT × Unit) := (afY x.1).toO
def dnP (p : PtT) : Prop := p.1.length ≤ 1000 ∧ 1 ≤ p.2.1.length ∧ p.2.1.length ≤ 4 ∧ p.2.2.1.length = 3
theorem aNJ {i : Int} (h0 : 0 ≤ i) (h2 : i < 12) : (wrW i).1.length ≤ 2 := by
 unfold wrW
 split
 ·unfold dec
  rw [if_neg zb]
  exact ab9 (k := 1) zb
 ·simp
theorem aNK {d : DrT} {i n : Int} (h0 : 0 ≤ i) (h1 : i < len d.2.1) (h2 : i < 12) (hn : 1 ≤ n ∧ n ≤ 4) : WP (ahD d i n) fun y => dnP y.1 := by
 have hb : Bd 6 i.natAbs := acE (aeP zb) zb
 have hw := aNJ h0 h2
 unfold ahD
 refine aaI (aaI (aqL _ (ae2 ⟨by omega, by omega⟩) (aqL _ (ayQ hb) (acG ?_ (acG ⟨h0, h1⟩ ?_)))))
 ·simp only [lim]; simp; omega
 refine aBA (fun i1 => ∃ k : Nat, i1.1 = (k : Int) ∧ (k : Int) ≤ n ∧ (i1.2.1 = true → k = 0) ∧ (i1.2.1 = false → i1.2.2.1.length = k)) (fun i1 => (n - i1.1).toNat) ?_ ?_
 ·exact aaI (aaI (aaI (agD ⟨0, rfl, by simp; omega, fun _ => rfl, fun h => by cases h⟩)))
 ·rintro ⟨i1, b, l, u⟩ ⟨k, e, hk, hb1, hb2⟩
  dsimp only at e hb1 hb2 ⊢
  subst e
  unfold aq9
  cases b
  ·have hl := hb2 rfl
   refine ad4 (fun h => by cases h) (fun _ => ad4 (fun hc => ?_) (fun hc => ?_))
   ·have hc := of_decide_eq_true hc
    dsimp only at hc
    refine anE (fun _ => True) ?_ (fun j _ => ?_)
    ·refine acG ⟨by dsimp only; omega, by dsimp only; omega⟩ ?_
     repeat (refine ad4 (fun _ => aaI (ag9 (aaI (aaI (agD trivial))))) (fun _ => ?_))
     exfalso
     simp only [yO, beq_eq_false_iff_ne, zz, zO, ne_eq] at *
     omega
    ·unfold aq6
     refine anE (fun _ => True) ?_ (fun j _ => ?_)
     ·exact ad4 (fun _ => aaI (ag9 (aaI (aaI (agD trivial))))) (fun _ => aaI (aaI (aaI (agD trivial))))
     ·unfold aq5
      refine aaI (acG zh (aaI (ag9 (ag9 (aaI (acG zf (agD ?_)))))))
      refine ⟨⟨k + 1, by dsimp only; exact abC zb, by omega, (fun h => by cases h), fun _ => ?_⟩, ?_⟩
      ·dsimp only; simp [hl]
      ·dsimp only; rw [abC (k := k) zb]; omega
   ·have hc := of_decide_eq_false hc
    dsimp only at hc
    refine aaI (aaI (aaI (aaI (aaI (aaI (aaI (aaI (aaI (agD ?_)))))))))
    refine ⟨?_, ?_, ?_, rfl⟩
    ·simp; omega
    ·simp; omega
    ·simp; omega
  ·have hl := hb1 rfl
   subst hl
   refine ad4 (fun _ => ad4 (fun hc => ?_) (fun hc => ?_)) (fun h => by cases h)
   ·have hc := of_decide_eq_true hc
    dsimp only at hc
    refine anE (fun _ => True) ?_ (fun j _ => ?_)
    ·refine acG ⟨by dsimp only; omega, by dsimp only; omega⟩ ?_
     repeat (refine ad4 (fun _ => aaI (ag9 (aaI (aaI (agD trivial))))) (fun _ => ?_))
     exfalso
     simp only [yO, beq_eq_false_iff_ne, zz, zO, ne_eq] at *
     omega
    ·unfold aq8
     refine anE (fun _ => True) ?_ (fun j _ => ?_)
     ·exact ad4 (fun _ => aaI (ag9 (aaI (aaI (agD trivial))))) (fun _ => aaI (aaI (aaI (agD trivial))))
     ·unfold aq7
      refine aaI (acG zb (aaI (ag9 (ag9 (aaI (aaI (agD ?_)))))))
      exact ⟨⟨1, rfl, by omega, (fun h => by cases h), fun _ => rfl⟩, by dsimp only; rw [abC (k := 0) zb]; omega⟩
   ·have hc := of_decide_eq_false hc
    dsimp only at hc
    exfalso; omega
theorem aIP {d : DrT} {i n : Int} (h0 : 0 ≤ i) (h1 : i < len d.2.1) (h2 : i < 12) (hn : 1 ≤ n ∧ n ≤ 4) : ∃ y, ahQ ((d.1, d.2.1, ()), i, n, ()) = some y ∧ dnP y.1 := aNK h0 h1 h2 hn
def dnL (l : List PtT) : Prop := 1 ≤ l.length ∧ l.length ≤ 12 ∧ ∀ p ∈ l, dnP p
theorem aOK {l : List PtT} {p : PtT} (h : l.length ≤ 11) (hl : ∀ q ∈ l, dnP q) (hp : dnP p) : dnL (l ++ [p]) :=
 ⟨by simp, by simp; omega, fun q hq => by
  rcases zE.1 hq with h | h
  ·exact hl q h
  ·rw [ye.1 h]; exact hp⟩
theorem aEl {d : DrT} (hd : 0 ≤ d.1) (hl : d.2.1.length ≤ 140737488355328) : WP (ad7 d) fun y => dnL y.1 := by
 have hm : 0 ≤ Int.tmod d.1 4 ∧ Int.tmod d.1 4 < 4 := ⟨xi _ hd, wE _ zb⟩
 have hn : w64 (1 + w64 (Int.tmod d.1 4)) = 1 + Int.tmod d.1 4 := by rw [aaC (x := Int.tmod d.1 4) ⟨by omega, by omega⟩, aaC ⟨by omega, by omega⟩]
 have hN : 1 ≤ 1 + Int.tmod d.1 4 ∧ 1 + Int.tmod d.1 4 ≤ 4 := zb
 unfold ad7
 obtain ⟨n, e1⟩ : ∃ n, 1 + Int.tmod d.1 4 = n := ⟨_, rfl⟩
 rw [e1] at hn hN
 have nN : 0 ≤ n ∧ n ≤ n ∧ n * 8 ≤ 140737488355328 := ⟨by omega, by omega, by omega⟩
 have hone : dnL [(#[112].toList, List.take (Int.toNat n) (List.replicate (Int.toNat n) (0 : Int)), [0, 0, 0], ())] := ⟨by simp, by simp, fun q hq => by
  rw [ye.1 hq]
  exact ⟨by simp, by simp; omega, by simp; omega, rfl⟩⟩
 refine aBA (fun i => ∃ k : Nat, i.1 = (k : Int) ∧ k ≤ 12 ∧ (k : Int) ≤ len d.2.1 ∧ (i.2.1 = true → k = 0) ∧ (i.2.1 = false → i.2.2.1.length = k ∧ 1 ≤ k ∧ ∀ q ∈ i.2.2.1, dnP q)) (fun i => (12 - i.1).toNat) ?_ ?_
 ·exact aaI (ag9 (aaI (aaI (agD ⟨0, rfl, by omega, by rw [aaB]; omega, (fun _ => rfl), fun h => by cases h⟩))))
 ·rintro ⟨i1, b, l, u⟩ ⟨k, e, hk, hkl, hb1, hb2⟩
  dsimp only at e hb1 hb2 ⊢
  subst e
  unfold akW acH
  simp only [hn]
  cases b
  ·obtain ⟨g1, g2, g3⟩ := hb2 rfl
   refine ad4 (fun h => by cases h) (fun _ => ad4 (fun hc => ad4 (fun h12 => ?_) (fun _ => ?_)) (fun _ => ?_))
   ·have hc := of_decide_eq_true hc
    have h12 := of_decide_eq_true h12
    obtain ⟨y, hy, hp⟩ := aIP (d := d) (i := (k : Int)) (n := n) zb hc h12 hN
    refine aqL _ hy (acG zb (aaI (ag9 (ag9 (acG zf (aaI (agD ?_)))))))
    have ep : (y.1.1, y.1.2.1, l3 y.1.2.2.1, ()) = y.1 := by rw [aLB hp.2.2.2]
    refine ⟨⟨k + 1, abC (k := k) zb, by omega, by omega, (fun h => by cases h), fun _ => ⟨by simp [g1], by omega, ?_⟩⟩, ?_⟩
    ·show ∀ q ∈ List.take l.length l ++ [(y.1.1, y.1.2.1, l3 y.1.2.2.1, ())], dnP q
     rw [zv, ep]
     exact (aOK zb g3 hp).2.2
    ·dsimp only; rw [abC (k := k) zb]; omega
   all_goals
    refine ad4 (fun hz => ?_) (fun _ => agD (show dnL (List.take l.length l) from by rw [zv]; exact ⟨by omega, by omega, g3⟩))
    rw [yO, aaB] at hz
    exfalso; omega
  ·have hl := hb1 rfl
   subst hl
   refine ad4 (fun _ => ad4 (fun hc => ad4 (fun h12 => ?_) (fun h12 => ?_)) (fun _ => ?_)) (fun h => by cases h)
   ·have hc := of_decide_eq_true hc
    have h12 := of_decide_eq_true h12
    obtain ⟨y, hy, hp⟩ := aIP (d := d) (i := ((0 : Nat) : Int)) (n := n) zb hc h12 hN
    refine aqL _ hy (acG zb (aaI (ag9 (ag9 (aaI (aaI (agD ?_)))))))
    have ep : (y.1.1, y.1.2.1, l3 y.1.2.2.1, ()) = y.1 := by rw [aLB hp.2.2.2]
    refine ⟨⟨1, rfl, by omega, by omega, (fun h => by cases h), fun _ => ⟨rfl, by omega, ?_⟩⟩, ?_⟩
    ·show ∀ q ∈ [(y.1.1, y.1.2.1, l3 y.1.2.2.1, ())], dnP q
     rw [ep]
     intro q hq
     rw [ye.1 hq]; exact hp
    ·dsimp only; rw [abC (k := 0) zb]; omega
   all_goals exact acG nN (agD hone)
theorem avS {d : DrT} (hd : 0 ≤ d.1) (hl : d.2.1.length ≤ 140737488355328) : ∃ y, adA ((d.1, d.2.1, ()), ()) = some y ∧ dnL y.1 := aEl hd hl
theorem aJ0 {t : TwT} (h0 : 0 ≤ t.1.1) (h1 : t.1.2.1.length ≤ 140737488355328) (h2 : 0 ≤ t.2.1 ∧ t.2.1 ≤ 255) : WP (afY t) fun y => dnL y.1 ∧ dnL y.2.1 := by
 obtain ⟨y, hy, hl⟩ := avS h0 h1
 obtain ⟨l1, l2, l3'⟩ := hl
 unfold afY
 refine aqL _ hy (acG ⟨by simp [asT], by rw [aaB]; omega, by rw [aaB]; omega⟩ ?_)
 refine aBA (fun i => ∃ k : Nat, i.1 = (k : Int) ∧ k ≤ y.1.length ∧ i.2.1.length = k ∧ ∀ q ∈ i.2.1, dnP q) (fun i => ((y.1.length : Int) - i.1).toNat) ?_ ?_
 ·skip
  repeat (first | refine aaI ?_ | refine ag9 ?_)
  refine agD ⟨0, rfl, by omega, by simp, fun q hq => by simp at hq⟩
 ·rintro ⟨i1, l, u⟩ ⟨k, e, hk, hlen, hq⟩
  dsimp only at e hlen hq ⊢
  subst e
  unfold ao7
  refine ad4 (fun hc => ?_) (fun hc => ?_)
  ·have hc := of_decide_eq_true hc
   rw [aaB] at hc
   have hw : w64 ((k : Int) + w64 t.2.1) = (k : Int) + t.2.1 := by rw [aaC (x := t.2.1) ⟨by omega, by omega⟩, aaC ⟨by omega, by omega⟩]
   have hm : 0 ≤ Int.tmod ((k : Int) + t.2.1) (len y.1) ∧ Int.tmod ((k : Int) + t.2.1) (len y.1) < len y.1 := ⟨xi _ zb, wE _ (by rw [aaB]; omega)⟩
   obtain ⟨q, hqe⟩ : ∃ q : Nat, Int.tmod ((k : Int) + t.2.1) (len y.1) = (q : Int) := ⟨_, (Int.toNat_of_nonneg hm.1).symm⟩
   have hql : q < y.1.length := by rw [hqe, aaB] at hm; omega
   have hp : dnP (y.1.getD q p0) := by rw [zP, zx hql]; exact l3' _ (yC hql)
   simp only [hw, hqe, ap7 hql]
   refine acG (by rw [aaB]; omega) (acG (abJ zb (by rw [aaB]; omega)) (acG hp.2.1 (acG (by have := hp.2.2.1; omega) (ad4 (fun he => ?_) (fun he => ?_)))))
   ·exfalso
    have := hp.2.1
    rw [List.isEmpty_iff] at he
    rw [he] at this; simp at this
   ·refine anE (fun _ => True) ?_ (fun j _ => ?_)
    ·refine ad4 (fun hx => ?_) (fun _ => ?_)
     ·have hx : len t.2.2.1 > 0 := of_decide_eq_true hx
      refine acG zb (acG (abJ (xi _ zb) (wE _ zb)) ?_)
      repeat (first | refine aaI ?_ | refine ag9 ?_)
      exact agD trivial
     ·skip
      repeat (first | refine aaI ?_ | refine ag9 ?_)
      exact agD trivial
    ·unfold ao6
     refine anE (fun j => j.1.length ≤ 1000) ?_ (fun j2 hj => ?_)
     ·refine ad4 (fun _ => ?_) (fun _ => ?_)
      ·skip
       repeat (first | refine aaI ?_ | refine ag9 ?_)
       exact agD zf
      ·skip
       repeat (first | refine aaI ?_ | refine ag9 ?_)
       refine agD ?_
       show (gP y.1 (Int.tmod (w64 ((k : Int) + w64 t.2.1)) (len y.1))).1.length ≤ 1000
       rw [hw, hqe, ap7 hql]; exact hp.1
     ·unfold ao5
      simp only [hw, hqe, ap7 hql]
      refine acG zb (aaI (ag9 (ag9 (acG zf (aaI (agD ?_))))))
      refine ⟨⟨k + 1, abC (k := k) zb, by omega, by simp [hlen], ?_⟩, ?_⟩
      ·rw [zv]
       intro p hp'
       rcases zE.1 hp' with h | h
       ·exact hq p h
       ·rw [ye.1 h]
        exact ⟨hj, by simpa using hp.2.1, by simpa using hp.2.2.1, rfl⟩
      ·dsimp only; rw [abC (k := k) zb]; omega
  ·have hc := of_decide_eq_false hc
   rw [aaB] at hc
   refine agD ⟨⟨l1, l2, l3'⟩, ?_⟩
   show dnL (List.take l.length l)
   rw [zv]
   exact ⟨by omega, by omega, hq⟩
theorem aLP {t : TwT} (h0 : 0 ≤ t.1.1) (h1 : t.1.2.1.length ≤ 140737488355328) (h2 : 0 ≤ t.2.1 ∧ t.2.1 ≤ 255) : ∃ y, aiX (((t.1.1, t.1.2.1, ()), t.2.1, t.2.2.1, t.2.2.2.1, t.2.2.2.2.1, ()), ()) = some y ∧ dnL y.1 ∧ dnL y.2.1 := aJ0 h0 h1 h2
theorem azD (d : DrT) (i n : Int) (y) (h : ahQ (d, i, n, ()) = some y) : (ahD d i n).toO = some y := h
theorem arA (d : DrT) (y) (h : adA (d, ()) = some y) : (ad7 d).toO = some y := h
theorem axG (t : TwT) (y) (h : aiX (t, ()) = some y) : (afY t).toO = some y := h
set_option maxRecDepth 100000
open Go Go.Vg Go.Proofs
noncomputable section
abbrev eF (a b : FxT) : Bool := a.1 == b.1 && (a.2.1 == b.2.1 && true)
abbrev eS (s u : ShT) : Bool := s.1 == u.1 && ((eF (List.headD s.2.1 zF) (List.headD u.2.1 zF) && (eF (List.headD (List.tail s.2.1) zF) (List.headD (List.tail u.2.1) zF) && (eF (List.headD (List.tail (List.tail s.2.1)) zF) (List.headD (List.tail (List.tail u.2.1)) zF) && true))) && (eF s.2.2.1 u.2.2.1 && (eF s.2.2.2.1 u.2.2.2.1 && (s.2.2.2.2.1 == u.2.2.2.2.1 && true))))
abbrev qe0 (t : DrT × Int × List (List Int) × Int × Int × Unit) : Prop := Qq (27 : TypeId) ∧ Qq t.1.1 ∧ Qq t.1.2.1 ∧ Qq t.2.1 ∧ Qq t.2.2.1 ∧ Qq t.2.2.2.1 ∧ Qq t.2.2.2.2.1 ∧ True
abbrev qe1 (other : DrT) : Prop := Qq (24 : TypeId) ∧ Qq other.1 ∧ Qq other.2.1 ∧ True
def ayN : LTab := [(3, 31, 20480, ⟨0, (List PtT) × Unit, .dat (.s 7) (Ty.sl aMf) <| .nil, [6, 5, 4, 3, 2], [1, 0], 0⟩), (3, 506, 38912, ⟨1, (Int) × Unit, .dat (.s 60) vC <| .nil, [59], [], 0⟩), (3, 31, 21504, ⟨2, (List PtT) × Unit, .dat (.s 7) (Ty.sl aMf) <| .nil, [6, 5, 4, 3, 2], [16, 1, 0], 0⟩), (3, 506, 39936, ⟨3, (Int) × Unit, .dat (.s 60) vC <| .nil, [59], [], 0⟩), (5, 4010922, 888888888, uS), (10, 16042, 888888888, uS), (10, 16378, 888888888, uS), (11, 260682, 888888888, uS), (1000017, 106, 888888888, uS), (10, 4192870, 777777777, uS)]
def ag7 (t : DrT × Int × List (List Int) × Int × Int × Unit) (other : DrT) (y : Bool × Unit) (y1 : List PtT × List PtT × Unit) (j : List PtT × Unit) (y2 : List PtT × Unit) (i : (Int) × Unit) : TT vK :=
 .ite (decide (i.1 < 5))
 (.need (inb i.1 (↑5 : Int)) <| .triv (asT Int 0 ≤ 0 ∧ 0 < (↑2 : Int)) zc <| .triv (asT Int 0 ≤ 1 ∧ 1 < (↑2 : Int)) zc <| .call (aeL (List.headD (gX y1.1 y1.2.1 y2.1 j.1 i.1) [], List.headD (List.tail (gX y1.1 y1.2.1 y2.1 j.1 i.1)) [], ())) Df5 fun y3 =>
 .triv (asT Int 0 ≤ 0 ∧ 0 < (↑2 : Int)) zc <| .triv (asT Int 0 ≤ 1 ∧ 1 < (↑2 : Int)) zc <| .call (af6 (List.headD (gX y1.1 y1.2.1 y2.1 j.1 i.1) [], List.headD (List.tail (gX y1.1 y1.2.1 y2.1 j.1 i.1)) [], ())) Df5 fun y4 =>
 .triv (asT Int 0 ≤ 0 ∧ 0 < (↑2 : Int)) zc <| .triv (asT Int 0 ≤ 1 ∧ 1 < (↑2 : Int)) zc <| .call (afL (List.headD (gX y1.1 y1.2.1 y2.1 j.1 i.1) [], List.headD (List.tail (gX y1.1 y1.2.1 y2.1 j.1 i.1)) [], ())) aQY fun y5 =>
 .triv (asT Int 0 ≤ 0 ∧ 0 < (↑2 : Int)) zc <| .triv (asT Int 0 ≤ 1 ∧ 1 < (↑2 : Int)) zc <| .call (aiV (List.headD (gX y1.1 y1.2.1 y2.1 j.1 i.1) [], List.headD (List.tail (gX y1.1 y1.2.1 y2.1 j.1 i.1)) [], ())) aQY fun y6 =>
 .ite (y3.2.1 != y4.2.1)
 (.ok (.inr ((false, ()))))
 (.ite (y5.2.1 != y6.2.1)
 (.ok (.inr ((false, ()))))
 (.ite (!eS y5.1 y6.1)
 (.ok (.inr ((false, ()))))
 (.call (aoM (y3.1, y4.1, ())) Df0 fun y7 =>
 .ite (!y7.1)
 (.ok (.inr ((false, ()))))
 (.tt <| .lt (w64 (i.1 + 1) : Int) fun z2 => .wV (vu z2 ((p5 y1.1 y1.2.1 y2.1 j.1) : List (List (List PtT)))) <| .tr <| .ok (.inl ((z2, ()))))))))
 (.ok (.inr ((true, ()))))
def auK (t : DrT × Int × List (List Int) × Int × Int × Unit) (other : DrT) (y : Bool × Unit) (y1 : List PtT × List PtT × Unit) (j : (List PtT) × Unit) : TT vW :=
 .call (adA ((other.1, other.2.1, ()), ())) Df9 fun y2 =>
 .loop 1 (.tt <| .wV (vu (0 : Int) ((p5 y1.1 y1.2.1 y2.1 j.1) : List (List (List PtT)))) <| .tr <| .ok ((0, ()))) (ag7 t other y y1 j y2)
def ag6 (t : DrT × Int × List (List Int) × Int × Int × Unit) (other : DrT) (y : Bool × Unit) (y1 : List PtT × List PtT × Unit) (j1 : List PtT × Unit) (y8 : List PtT × Unit) (i1 : (Int) × Unit) : TT vK :=
 .ite (decide (i1.1 < 5))
 (.need (inb i1.1 (↑5 : Int)) <| .triv (asT Int 0 ≤ 0 ∧ 0 < (↑2 : Int)) zc <| .triv (asT Int 0 ≤ 1 ∧ 1 < (↑2 : Int)) zc <| .call (aeL (List.headD (gX y1.1 y1.2.1 y8.1 j1.1 i1.1) [], List.headD (List.tail (gX y1.1 y1.2.1 y8.1 j1.1 i1.1)) [], ())) Df5 fun y9 =>
 .triv (asT Int 0 ≤ 0 ∧ 0 < (↑2 : Int)) zc <| .triv (asT Int 0 ≤ 1 ∧ 1 < (↑2 : Int)) zc <| .call (af6 (List.headD (gX y1.1 y1.2.1 y8.1 j1.1 i1.1) [], List.headD (List.tail (gX y1.1 y1.2.1 y8.1 j1.1 i1.1)) [], ())) Df5 fun y10 =>
 .triv (asT Int 0 ≤ 0 ∧ 0 < (↑2 : Int)) zc <| .triv (asT Int 0 ≤ 1 ∧ 1 < (↑2 : Int)) zc <| .call (afL (List.headD (gX y1.1 y1.2.1 y8.1 j1.1 i1.1) [], List.headD (List.tail (gX y1.1 y1.2.1 y8.1 j1.1 i1.1)) [], ())) aQY fun y11 =>
 .triv (asT Int 0 ≤ 0 ∧ 0 < (↑2 : Int)) zc <| .triv (asT Int 0 ≤ 1 ∧ 1 < (↑2 : Int)) zc <| .call (aiV (List.headD (gX y1.1 y1.2.1 y8.1 j1.1 i1.1) [], List.headD (List.tail (gX y1.1 y1.2.1 y8.1 j1.1 i1.1)) [], ())) aQY fun y12 =>
 .ite (y9.2.1 != y10.2.1)
 (.ok (.inr ((false, ()))))
 (.ite (y11.2.1 != y12.2.1)
 (.ok (.inr ((false, ()))))
 (.ite (!eS y11.1 y12.1)
 (.ok (.inr ((false, ()))))
 (.call (aoM (y9.1, y10.1, ())) Df0 fun y13 =>
 .ite (!y13.1)
 (.ok (.inr ((false, ()))))
 (.tt <| .lt (w64 (i1.1 + 1) : Int) fun z5 => .wV (vu z5 ((p5 y1.1 y1.2.1 y8.1 j1.1) : List (List (List PtT)))) <| .tr <| .ok (.inl ((z5, ()))))))))
 (.ok (.inr ((true, ()))))
def ak5 (t : DrT × Int × List (List Int) × Int × Int × Unit) (other : DrT) (y : Bool × Unit) (y1 : List PtT × List PtT × Unit) (j1 : (List PtT) × Unit) : TT vW :=
 .call (adA ((other.1, other.2.1, ()), ())) Df9 fun y8 =>
 .loop 3 (.tt <| .wV (vu (0 : Int) ((p5 y1.1 y1.2.1 y8.1 j1.1) : List (List (List PtT)))) <| .tr <| .ok ((0, ()))) (ag6 t other y y1 j1 y8)
def anA (t : DrT × Int × List (List Int) × Int × Int × Unit) (other : DrT) : TT vW :=
 .call (aBk ()) Df0 fun y =>
 .ite (!y.1)
 (.ok ((false, ())))
 (.call (aiX (((t.1.1, t.1.2.1, ()), t.2.1, t.2.2.1, t.2.2.2.1, t.2.2.2.2.1, ()), ())) aSk fun y1 =>
 .tt <| .tt <| .need (0 < List.length y1.2.1) <| .need ((0 + List.length y1.2.1) * 64 ≤ 140737488355328) <| .ite (List.isEmpty y1.2.1)
 (.join 0 (ι := (List PtT) × Unit) (.triv (asT Int 2 ≠ 0) zc <| .ite (Int.tmod t.2.2.2.2.1 2 == 0)
 (.need ((↑0 : Int) ≠ 0) <| .need (inb (Int.tmod (w64 t.2.2.2.2.1) (↑0 : Int)) (↑0 : Int)) <| .triv (asT Int 0 ≤ 0 ∧ 0 < (↑3 : Int)) zc <| .tt <| .lt (List.take 0 (List.set [] (0 + Int.toNat (Int.tmod (w64 t.2.2.2.2.1) (↑0 : Int))) ((List.getD (asT (List PtT) []) (0 + Int.toNat (Int.tmod (w64 t.2.2.2.2.1) (↑0 : Int))) ([], [], List.replicate 3 0, ())).1, (List.getD (asT (List PtT) []) (0 + Int.toNat (Int.tmod (w64 t.2.2.2.2.1) (↑0 : Int))) ([], [], List.replicate 3 0, ())).2.1, List.set (List.getD (asT (List PtT) []) (0 + Int.toNat (Int.tmod (w64 t.2.2.2.2.1) (↑0 : Int))) ([], [], List.replicate 3 0, ())).2.2.1 0 (-1), (List.getD (asT (List PtT) []) (0 + Int.toNat (Int.tmod (w64 t.2.2.2.2.1) (↑0 : Int))) ([], [], List.replicate 3 0, ())).2.2.2)) : List PtT) fun z => .wV (wW z y1.2.1 y1.1 false <| vO ∧ vM ∧ True) <| .wV (wU (qe1 other) <| wU (qe0 t) True) <| .ok (.inl ((z, ()))))
 (.triv (asT Int 0 ≤ 0 ∧ 0 ≤ (↑0 : Int)) zc <| .tt <| .lt (List.take (Int.toNat 0) [] : List PtT) fun z1 => .wV (wW z1 y1.2.1 y1.1 false <| vO ∧ vM ∧ True) <| .wV (wU (qe1 other) <| wU (qe0 t) True) <| .ok (.inl ((z1, ()))))) (auK t other y y1))
 (.join 2 (ι := (List PtT) × Unit) (.triv (asT Int 2 ≠ 0) zc <| .ite (Int.tmod t.2.2.2.2.1 2 == 0)
 (.need ((↑(0 + List.length y1.2.1) : Int) ≠ 0) <| .need (inb (Int.tmod (w64 t.2.2.2.2.1) (↑(0 + List.length y1.2.1) : Int)) (↑(0 + List.length y1.2.1) : Int)) <| .triv (asT Int 0 ≤ 0 ∧ 0 < (↑3 : Int)) zc <| .tt <| .lt (List.take (0 + List.length y1.2.1) (List.set (List.take 0 [] ++ y1.2.1) (0 + Int.toNat (Int.tmod (w64 t.2.2.2.2.1) (↑(0 + List.length y1.2.1) : Int))) ((List.getD (List.take 0 [] ++ y1.2.1) (0 + Int.toNat (Int.tmod (w64 t.2.2.2.2.1) (↑(0 + List.length y1.2.1) : Int))) ([], [], List.replicate 3 0, ())).1, (List.getD (List.take 0 [] ++ y1.2.1) (0 + Int.toNat (Int.tmod (w64 t.2.2.2.2.1) (↑(0 + List.length y1.2.1) : Int))) ([], [], List.replicate 3 0, ())).2.1, List.set (List.getD (List.take 0 [] ++ y1.2.1) (0 + Int.toNat (Int.tmod (w64 t.2.2.2.2.1) (↑(0 + List.length y1.2.1) : Int))) ([], [], List.replicate 3 0, ())).2.2.1 0 (-1), (List.getD (List.take 0 [] ++ y1.2.1) (0 + Int.toNat (Int.tmod (w64 t.2.2.2.2.1) (↑(0 + List.length y1.2.1) : Int))) ([], [], List.replicate 3 0, ())).2.2.2)) : List PtT) fun z3 => .wV (wW z3 y1.2.1 y1.1 false <| vO ∧ vM ∧ True) <| .wV (wU (vq 36 ([] : List PtT)) <| wU (qe1 other) <| wU (qe0 t) True) <| .ok (.inl ((z3, ()))))
 (.need (asT Int 0 ≤ 0 ∧ 0 ≤ (↑(0 + List.length y1.2.1) : Int)) <| .tt <| .lt (List.take (Int.toNat 0) (List.take 0 [] ++ y1.2.1) : List PtT) fun z4 => .wV (wW z4 y1.2.1 y1.1 false <| vO ∧ vM ∧ True) <| .wV (wU (vq 36 ([] : List PtT)) <| wU (qe1 other) <| wU (qe0 t) True) <| .ok (.inl ((z4, ()))))) (ak5 t other y y1)))
end
theorem aOJ {l : List PtT} (h : dnL l) : ag8 l := ⟨by have := h.2.1; omega, fun p hp => by
 obtain ⟨h1, _, h3, h4⟩ := h.2.2 p hp
 exact ⟨by omega, by omega, h4⟩⟩
theorem aQd {a b c d : List PtT} (ha : ag8 a) (hb : ag8 b) (hc : ag8 c) (hd : ag8 d) : ∀ k : Nat, k < 5 → ∃ x y, gX a b c d (k : Int) = [x, y] ∧ ag8 x ∧ ag8 y
 | 0, _ => ⟨a, b, rfl, ha, hb⟩
 | 1, _ => ⟨b, a, rfl, hb, ha⟩
 | 2, _ => ⟨a, c, rfl, ha, hc⟩
 | 3, _ => ⟨a, d, rfl, ha, hd⟩
 | 4, _ => ⟨d, a, rfl, hd, ha⟩
theorem aI1 (s : ShT) : eS s s = true := by simp [eS]
theorem aGN {x y : List PtT} {p : List (List Int) × Int × Unit} (hx : ag8 x) (hy : ag8 y) (h : aeL (x, y, ()) = some p) : aoM (p.1, p.1, ()) = some (true, ()) := by
 have hL := aoP hx hy
 rw [h] at hL
 injection hL with hL
 have key : p.1.length ≤ 1000000 ∧ ∀ q ∈ p.1, q.length = 2 := by
  rw [hL]
  cases c1 : ah0 x
  ·exact ⟨by simp, fun q hq => by simp at hq⟩
  ·cases c2 : ah0 y
   ·exact ⟨by simp, fun q hq => by simp at hq⟩
   ·rw [if_pos (show (true && true) = true from rfl)]
    refine ⟨?_, fun q hq => ?_⟩
    ·have := aGM x y; have := ae9 c1
     rw [zS]; omega
    ·obtain ⟨z, _, rfl⟩ := zH.1 hq
     rfl
 unfold aoM
 rw [if_pos ⟨key.1, key.1, key.2, key.2⟩, ap9 rfl]
theorem aSd (t : TwT) (other : DrT) (y : Bool × Unit) (y1 : List PtT × List PtT × Unit) (j y2 : List PtT × Unit) (ha : ag8 y1.1) (hb : ag8 y1.2.1) (hc : ag8 y2.1) (hd : ag8 j.1) : acD (fun i => (ag7 t other y y1 j y2 i).toO) (0, ()) = some (true, ()) := by
 refine acO (n := 5) (fun k => ((k : Int), ())) (fun k hk => ?_) ?_
 ·unfold ag7
  obtain ⟨u, v, e, hu, hv⟩ := aQd ha hb hc hd k hk
  simp only [e, abC (show k ≤ 1000000 by omega)]
  have h1 := aoP hu hv
  have h2 := aJP hu hv
  refine uT (zm zb) (uN (abJ zb zb) ?_)
  refine uC _ h1 (uC _ h1 (uC _ h2 (uC _ h2 ?_)))
  refine uF zf (uF zf (uF (by rw [aI1]; rfl) (uC _ (aGN hu hv h1) (uF rfl rfl))))
 ·rfl
theorem aRt (t : TwT) (other : DrT) (y : Bool × Unit) (y1 : List PtT × List PtT × Unit) (j y2 : List PtT × Unit) (ha : ag8 y1.1) (hb : ag8 y1.2.1) (hc : ag8 y2.1) (hd : ag8 j.1) : acD (fun i => (ag6 t other y y1 j y2 i).toO) (0, ()) = some (true, ()) := by
 refine acO (n := 5) (fun k => ((k : Int), ())) (fun k hk => ?_) ?_
 ·unfold ag6
  obtain ⟨u, v, e, hu, hv⟩ := aQd ha hb hc hd k hk
  simp only [e, abC (show k ≤ 1000000 by omega)]
  have h1 := aoP hu hv
  have h2 := aJP hu hv
  refine uT (zm zb) (uN (abJ zb zb) ?_)
  refine uC _ h1 (uC _ h1 (uC _ h2 (uC _ h2 ?_)))
  refine uF zf (uF zf (uF (by rw [aI1]; rfl) (uC _ (aGN hu hv h1) (uF rfl rfl))))
 ·rfl
def wfD (t : TwT) (o : DrT) : Prop := (0 ≤ t.1.1 ∧ t.1.2.1.length ≤ 140737488355328) ∧ (0 ≤ t.2.1 ∧ t.2.1 ≤ 255) ∧ (0 ≤ t.2.2.2.2.1 ∧ t.2.2.2.2.1 ≤ 255) ∧ 0 ≤ o.1 ∧ o.2.1.length ≤ 140737488355328
abbrev aRP : Ty := .pair (.int .u8) (.pair (.sl (.arr 7 (.int .i16))) .unit)
theorem aF9 {x : TwT × DrT × Unit} (h : Wf (.pair (.pair aRP (.pair (.int .u8) (.pair (.sl (.arr 3 (.int .i8))) (.pair (.int .u8) (.pair (.int .u8) .unit))))) (.pair aRP .unit)) x) : wfD x.1 x.2.1 :=
 ⟨⟨h.1.1.1.1, h.1.1.2.1.1⟩, h.1.2.1, h.1.2.2.2.2.1, h.2.1.1.1, h.2.1.2.1.1⟩
theorem atQ (t : TwT) (other : DrT) (hw : wfD t other) (y) (h : aiZ (t, other, ()) = some y) : (anA t other).toO = some y := by
 injection h with h
 subst h
 obtain ⟨⟨w1, w2⟩, w3, w4, w5, w6⟩ := hw
 obtain ⟨z, hz, z1, z2⟩ := aLP w1 w2 w3
 obtain ⟨o, ho, o1⟩ := avS w5 w6
 have s1 := aOJ z1
 have s2 := aOJ z2
 have s3 := aOJ o1
 have hp := z2.1
 have hq := z2.2.1
 refine uC (true, ()) rfl (uF rfl (uC _ hz (uN hp (uN zb (uF ?_ ?_)))))
 ·cases hl : z.2.1 with
  | nil => rw [hl] at hp; simp at hp
  | cons x l => rfl
 ·have fin : ∀ j1 : List PtT × Unit, ag8 j1.1 → (ak5 t other (true, ()) z j1).toO = some (true, ()) := fun j1 hj => by
   refine uC _ ho (uO (0, ()) rfl ?_)
   exact aRt t other _ z j1 o s1 s2 s3 hj
  refine abO (adF (fun _ => ?_) (fun _ => ?_))
  ·have hm : 0 ≤ Int.tmod (w64 t.2.2.2.2.1) ((0 + List.length z.2.1 : Nat) : Int) ∧ Int.tmod (w64 t.2.2.2.2.1) ((0 + List.length z.2.1 : Nat) : Int) < ((0 + List.length z.2.1 : Nat) : Int) := by
    rw [aaC ⟨by omega, by omega⟩]
    exact ⟨xi _ w4.1, wE _ zb⟩
   refine aAm zb (aAm hm ?_)
   repeat (first | refine abO ?_ | refine aJZ ?_)
   refine akS (fin _ ?_)
   have hk : 0 + Int.toNat (Int.tmod (w64 t.2.2.2.2.1) ((0 + List.length z.2.1 : Nat) : Int)) < z.2.1.length := zb
   generalize 0 + Int.toNat (Int.tmod (w64 t.2.2.2.2.1) ((0 + List.length z.2.1 : Nat) : Int)) = q at hk
   have hx := ah1 s2 hk
   refine ⟨?_, fun p hp => ?_⟩
   ·refine zt (List.length_take_le _ _) ?_
    have := s2.1; omega
   ·rcases List.mem_or_eq_of_mem_set (yI hp) with h | h
    ·exact s2.2 p h
    ·subst h
     exact ⟨hx.1, hx.2.1, (wy ..).trans hx.2.2⟩
  ·refine aAm ⟨by simp [asT], by omega⟩ ?_
   repeat (first | refine abO ?_ | refine aJZ ?_)
   refine akS (fin _ ?_)
   exact ⟨by simp, fun p hp => by simp at hp⟩
theorem aCG (m : List Int) (y) (h : adO (m, ()) = some y) : (asB m).toO = some y := by
 simpa [adO, asB, TT.toO] using h
theorem asD (m : List Int) (y) (h : acK (m, ()) = some y) : (asC m).toO = some y := by
 unfold acK at h
 split at h
 ·rename_i hp
  obtain ⟨hd, hl⟩ := hp
  simp only at hd hl
  injection h with h
  subst h
  refine uO (m, ()) rfl ?_
  refine aa2 (fun i => Dg 1000000000 i.1 ∧ i.1.length ≤ 2000000000000 ∧ V 1000000000 i.1 = V 1000000000 m) (fun i => i.1.length) (fun _ => (mag (V 1000000000 m).toNat, ())) ?_ _ ⟨hd, hl, rfl⟩
  rintro ⟨l, u⟩ ⟨h1, h2, h3⟩
  simp only at h1 h2 h3
  have hfin : Cn l → l = mag (V 1000000000 m).toNat := fun hc => aDN h1 hc (by rw [h3]; have := aaH zb hd; omega)
  unfold avL
  by_cases hz : l = []
  ·subst hz
   right
   repeat refine za ?_
   rw [← hfin awF]; rfl
  ·have hlen : 0 < l.length := zN.2 hz
   have hw : w64 (len l - 1) = ((l.length - 1 : Nat) : Int) := by rw [aaB]; simp (disch := omega) only [aaC]; omega
   have hg : gi l ((l.length - 1 : Nat) : Int) 0 = l[l.length - 1] := aRC rfl zb
   simp only [hw, hg]
   by_cases h0 : l[l.length - 1] = 0
   ·left
    refine ⟨(l.take (l.length - 1), ()), ?_, ⟨abZ h1 _, ?_, ?_⟩, ?_, trivial⟩
    ·repeat refine za ?_
     rfl
    ·simp; omega
    ·have := al3 1000000000 (l := l) (i := l.length - 1) zb
     rw [h0, show l.length - 1 + 1 = l.length by omega, zv] at this
     rw [← h3, this]; simp
    ·simp; omega
   ·right
    repeat refine za ?_
    rw [← hfin (by unfold Cn; rw [xd, zx zb]; simpa using h0)]; rfl
 ·cases h
theorem aAA (m : List Int) (y) (h : akN (m, ()) = some y) : (avM m).toO = some y := by
 obtain ⟨n, hn, hx, rfl⟩ := aaP h
 injection hx with hx
 subst hx
 have hl : (mag n).length ≤ 2 := mag_length_le_iff.2 zb
 have hd := ajM n
 have hV := atN n
 refine uO (((mag n).length : Int) - 1, 0, ()) ?_ ?_
 ·repeat refine za ?_
  show some (w64 ((mag n).length - 1), (0 : Int), ()) = _
  rw [aaC (x := ((mag n).length : Int) - 1) zb]
 refine aa2 (fun i => ∃ k : Nat, k ≤ (mag n).length ∧ i.1 = (k : Int) - 1 ∧ i.2.1 = V 1000000000 ((mag n).drop k)) (fun i => (i.1 + 1).toNat) (fun _ => ((n : Int), ())) ?_ _ ⟨_, zj _, rfl, by simp [V]⟩
 rintro ⟨i, v, u⟩ ⟨k, h1, h2, h3⟩
 simp only at h2 h3
 subst h2 h3
 unfold asF
 rcases zL k with h0 | h0
 ·subst h0
  right
  repeat refine za ?_
  simp only [yz, hV]
  rfl
 ·left
  obtain ⟨j, rfl⟩ : ∃ j, k = j + 1 := ⟨k - 1, by omega⟩
  have e1 := aaJ 1000000000 (mag n) j
  have e2 := aaU zb hd j
  have e3 := aaH zb (acB hd j)
  have e4 := aaH zb (acB hd (j + 1))
  have e5 := aJE zb hd j
  have e6 : ((j + 1 : Nat) : Int) - 1 = (j : Int) := zb
  rw [e6]
  refine ⟨((j : Int) - 1, V 1000000000 ((mag n).drop j), ()), ?_, ⟨j, by omega, rfl, rfl⟩, by simp only; omega, rfl⟩
  repeat refine za ?_
  simp only [aaQ]
  rw [aaC (x := (j : Int) - 1) zb, aaL (x := V 1000000000 ((mag n).drop (j + 1)) * 1000000000) zb, aaL (x := (mag n).getD j 0) zb, aaL zb, e1, aaM]
  rw [Int.add_comm, xe]
theorem auC (m o : List Int) (y) (h : ad0 (m, o, ()) = some y) : (ajS m o).toO = some y := by
 obtain ⟨⟨a, b⟩, hn, hx, rfl⟩ := aaP h
 obtain ⟨rfl, hx2⟩ := Prod.mk.inj hx
 obtain ⟨rfl, -⟩ := Prod.mk.inj hx2
 dsimp only
 obtain ⟨l1, l2⟩ := hn
 simp only at l1 l2
 unfold ajS
 have hda := ajM a
 have hdb := ajM b
 have hVa := atN a
 have hVb := atN b
 rcases Nat.lt_trichotomy (mag a).length (mag b).length with hl | hl | hl
 ·have := ak1 hl
  repeat refine za ?_
  simp only [aaM, aBx]
  rw [if_pos (show (a : Int) < b by omega)]
 ·refine uF sd ?_
  refine uO (((mag a).length : Int) - 1, ()) ?_ ?_
  ·repeat refine za ?_
   show some (w64 ((mag a).length - 1), ()) = _
   rw [aaC (x := ((mag a).length : Int) - 1) zb]
  refine aa2 (fun i => ∃ k : Nat, k ≤ (mag a).length ∧ i.1 = (k : Int) - 1 ∧ V 1000000000 ((mag a).drop k) = V 1000000000 ((mag b).drop k)) (fun i => (i.1 + 1).toNat) (fun _ => (aBx a b, ())) ?_ _ ⟨_, zj _, rfl, by rw [acJ _ (zj _), acJ _ zb]⟩
  rintro ⟨i, u⟩ ⟨k, h1, h2, h3⟩
  simp only at h2 h3
  subst h2
  unfold amS
  rcases zL k with h0 | h0
  ·subst h0
   right
   repeat refine za ?_
   simp only [yz, hVa, hVb] at h3
   simp only [aaM, aBx]
   rw [if_neg zb, if_pos h3]
  ·obtain ⟨j, rfl⟩ : ∃ j, k = j + 1 := ⟨k - 1, by omega⟩
   have e6 : ((j + 1 : Nat) : Int) - 1 = (j : Int) := zb
   simp only [e6, aaQ]
   have a1 := ab0 1000000000 (mag a) j
   have b1 := ab0 1000000000 (mag b) j
   have a2 := aaJ 1000000000 (mag a) j
   have b2 := aaJ 1000000000 (mag b) j
   have a3 := ac4 zb hda j
   have b3 := ac4 zb hdb j
   have a4 := aaH zb (abZ hda j)
   have b4 := aaH zb (abZ hdb j)
   have hp : (1 : Int) ≤ 1000000000 ^ j := aw9 zb j
   rcases Int.lt_trichotomy ((mag a).getD j 0) ((mag b).getD j 0) with hc | hc | hc
   ·right
    repeat refine za ?_
    have h5 : (1000000000 : Int) ^ j * (V 1000000000 ((mag a).drop j) + 1) ≤ 1000000000 ^ j * V 1000000000 ((mag b).drop j) := zy zb zb
    rw [xS] at h5
    simp only [aaM, aBx]
    rw [if_pos (show (a : Int) < b by omega)]
   ·left
    refine ⟨((j : Int) - 1, ()), ?_, ⟨j, by omega, rfl, by omega⟩, by simp only; omega, trivial⟩
    repeat refine za ?_
    rw [aaC (x := (j : Int) - 1) zb]; rfl
   ·right
    repeat refine za ?_
    have h5 : (1000000000 : Int) ^ j * (V 1000000000 ((mag b).drop j) + 1) ≤ 1000000000 ^ j * V 1000000000 ((mag a).drop j) := zy zb zb
    rw [xS] at h5
    simp only [aaM, aBx]
    rw [if_neg (show ¬ (a : Int) < b by omega), if_neg (show ¬ (a : Int) = b by omega)]
 ·have := ak1 hl
  repeat refine za ?_
  simp only [aaM, aBx]
  rw [if_neg (show ¬ (a : Int) < b by omega), if_neg (show ¬ (a : Int) = b by omega)]
theorem aH6 {a b B : Int} (ha : 0 ≤ a ∧ a < B) (hb : 0 ≤ b ∧ b < B) : 0 ≤ a * b ∧ a * b ≤ (B - 1) * (B - 1) := by
 refine ⟨xK ha.1 hb.1, ?_⟩
 have h1 : a * b ≤ a * (B - 1) := zy zb ha.1
 have h2 : a * (B - 1) ≤ (B - 1) * (B - 1) := zI zb zb
 omega
theorem aJA (Vs P c A K x T X Y d e Q B : Int) (h : Vs + P * c = A + K * (x * T)) (h2 : X + B * Y = c + (d + x * e)) (hP : P = K * Q) : Vs + P * (X - d) + P * B * Y = A + K * (x * (T + Q * e)) := by
 subst hP
 have h3 : K * Q * (X + B * Y) = K * Q * (c + (d + x * e)) := by rw [h2]
 grind
theorem aAz (m o : List Int) (y) (h : ahV (m, o, ()) = some y) : (an6 m o).toO = some y := by
 obtain ⟨⟨a, b⟩, hn, hx, rfl⟩ := aaP h
 obtain ⟨rfl, hx2⟩ := Prod.mk.inj hx; obtain ⟨rfl, -⟩ := Prod.mk.inj hx2; dsimp only
 obtain ⟨la, lb⟩ := hn
 simp only at la lb
 have hda := ajM a
 have hdb := ajM b
 have hVa := atN a
 have hVb := atN b
 have hw : w64 (len (mag a) + len (mag b)) = (((mag a).length + (mag b).length : Nat) : Int) := by
  simp only [aaB]; rw [aaC (x := ((mag a).length : Int) + (mag b).length) zb]; omega
 unfold an6
 simp only [hw]
 refine uN zb ?_
 refine uO (0, List.replicate ((mag a).length + (mag b).length) 0, ()) ?_ ?_
 ·repeat refine za ?_
  simp (disch := omega) only [aaM, aaC, aaL, aa5, ad3, aaQ, zp, zn, aaB, zv]
 have hBb : V 1000000000 (mag b) < 1000000000 ^ (mag b).length := aF6 zb hdb
 refine aa2 (fun i => ∃ k : Nat, k ≤ (mag a).length ∧ i.1 = (k : Int) ∧ i.2.1.length = (mag a).length + (mag b).length ∧ Dg 1000000000 i.2.1 ∧ V 1000000000 i.2.1 = V 1000000000 ((mag a).take k) * b) (fun i => (((mag a).length : Int) - i.1).toNat) (fun _ => (mag (a * b), ())) ?_ _ ⟨0, ya _, rfl, by simp, agY zb _, by simp [V, atM]⟩
 rintro ⟨i, s, u⟩ ⟨k, h1, h2, h3, h4, h5⟩
 simp only at h2 h3 h4 h5
 subst h2
 simp only [asE, aaQ, hw]
 have ea := abA 1000000000 (mag a) k
 have da := aaU zb hda k
 rcases zD k (mag a).length with hk | hk
 ·left
  have hs : V 1000000000 s < 1000000000 ^ (k + (mag b).length) := by
   rw [h5, xI]
   have e1 := ac4 zb hda k
   have e2 := aaH zb (abZ hda k)
   rw [hVb] at hBb
   have e3 : V 1000000000 ((mag a).take k) * b ≤ V 1000000000 ((mag a).take k) * 1000000000 ^ (mag b).length := zy zb e2
   have e4 : V 1000000000 ((mag a).take k) * 1000000000 ^ (mag b).length < 1000000000 ^ k * 1000000000 ^ (mag b).length := Int.mul_lt_mul_of_pos_right e1 (yG zb)
   omega
  have hz := ajQ zb h4 hs
  -- the inner loop
  obtain ⟨r, hin, s', rfl, q1, q2, q3⟩ : ∃ r : ((Int × List Int × Unit) ⊕ (List Int × Unit)), acD (fun i1 => (alP (mag a) (mag b) ((k : Int), s, ()) i1).toO) (0, 0, s, ()) = some r ∧ ∃ s', r = Sum.inl (((k + 1 : Nat) : Int), s', ()) ∧ s'.length = (mag a).length + (mag b).length ∧ Dg 1000000000 s' ∧ V 1000000000 s' = V 1000000000 ((mag a).take (k + 1)) * b := by
   refine afV (fun j => ∃ q : Nat, q ≤ (mag b).length ∧ j.1 = (q : Int) ∧ 0 ≤ j.2.1 ∧ j.2.1 < 1000000000 ∧ j.2.2.1.length = (mag a).length + (mag b).length ∧ Dg 1000000000 j.2.2.1 ∧ (∀ t, k + (mag b).length ≤ t → j.2.2.1.getD t 0 = 0) ∧ V 1000000000 j.2.2.1 + 1000000000 ^ (k + q) * j.2.1 = V 1000000000 ((mag a).take k) * b + 1000000000 ^ k * ((mag a).getD k 0 * V 1000000000 ((mag b).take q))) (fun j => (((mag b).length : Int) - j.1).toNat) _ ?_ _ ⟨0, ya _, rfl, by simp, by simp, h3, h4, hz, by simp [V, h5]⟩
   rintro ⟨j, c, s1, u1⟩ ⟨q, g1, g2, g3, g4, g5, g6, g7, g8⟩
   simp only at g2 g3 g4 g5 g6 g7 g8
   subst g2
   have hkq : w64 ((k : Int) + q) = ((k + q : Nat) : Int) := by rw [aaC (x := (k : Int) + q) zb]; omega
   have hkl : w64 ((k : Int) + len (mag b)) = ((k + (mag b).length : Nat) : Int) := by rw [aaB, aaC (x := (k : Int) + ((mag b).length : Int)) zb]; omega
   simp only [alP, aaQ, hw, hkq, hkl, zn, zp]
   have eb := abA 1000000000 (mag b) q
   have db := aaU zb hdb q
   have ds := aaU zb g6 (k + q)
   have hm := aH6 da db
   rcases zD q (mag b).length with hq | hq
   ·left
    have hsum : 0 ≤ c + (s1.getD (k + q) 0 + (mag a).getD k 0 * (mag b).getD q 0) := zb
    have e1 := yg (c + (s1.getD (k + q) 0 + (mag a).getD k 0 * (mag b).getD q 0)) 1000000000
    have e2 : 0 ≤ (c + (s1.getD (k + q) 0 + (mag a).getD k 0 * (mag b).getD q 0)) % 1000000000 ∧ (c + (s1.getD (k + q) 0 + (mag a).getD k 0 * (mag b).getD q 0)) % 1000000000 < 1000000000 := zb
    have e3 : 0 ≤ (c + (s1.getD (k + q) 0 + (mag a).getD k 0 * (mag b).getD q 0)) / 1000000000 ∧ (c + (s1.getD (k + q) 0 + (mag a).getD k 0 * (mag b).getD q 0)) / 1000000000 < 1000000000 := zb
    refine ⟨(((q + 1 : Nat) : Int), (c + (s1.getD (k + q) 0 + (mag a).getD k 0 * (mag b).getD q 0)) / 1000000000, s1.set (k + q) ((c + (s1.getD (k + q) 0 + (mag a).getD k 0 * (mag b).getD q 0)) % 1000000000), ()), ?_, ⟨q + 1, by omega, rfl, e3.1, e3.2, by simp; omega, ai4 g6 e2 _, ?_, ?_⟩, by simp only; omega⟩
    ·repeat refine za ?_
     simp (disch := omega) only [aaM, aaC, aaL, aa5, ad3, aaQ, zp, zn, aaB, zv]
     rw [yb hsum, zQ hsum]
     simp (disch := omega) only [aaM, aaC, aaL, aa5, ad3, aaQ, zp, zn, aaB, zv]
     rfl
    ·intro t ht
     rw [alN _ zb]; exact g7 t ht
    ·simp only
     rw [auJ _ zb, eb, show k + (q + 1) = k + q + 1 by omega, yE]
     exact aJA _ _ _ _ _ _ _ _ _ _ _ _ _ g8 e1 (xI _ _ _)
   ·right
    have hqq : q = (mag b).length := zb
    subst hqq
    rw [ab7 _ (zj _), hVb] at g8
    refine ⟨.inl (((k + 1 : Nat) : Int), s1.set (k + (mag b).length) c, ()), ?_, _, rfl, by simp; omega, ai4 g6 ⟨g3, g4⟩ _, ?_⟩
    ·repeat refine za ?_
     simp (disch := omega) only [aaM, aaC, aaL, aa5, ad3, aaQ, zp, zn, aaB, zv]
     rfl
    ·rw [auJ _ zb, g7 _ zb, ea, wo]
     simp only [wD]
     rw [g8]
     grind
  refine ⟨(((k + 1 : Nat) : Int), s', ()), ?_, ⟨k + 1, by omega, rfl, q1, q2, q3⟩, by simp only; omega, trivial⟩
  refine uT sd ?_
  refine uN sd ?_
  refine uO (0, 0, s, ()) ?_ ?_
  ·repeat refine za ?_
   rfl
  ·exact hin
 ·right
  have hkk : k = (mag a).length := zb
  rw [hkk, ab7 _ (zj _), hVa] at h5
  refine uF sd ?_
  refine uC (mag (a * b), ()) ?_ ?_
  ·rw [zr zg]
   exact awO h4 zb (by rw [h5]; simp)
  ·rfl
theorem aJB (Vm Vq P d R m X Y B W : Int) (h : Vm = Vq * d + R) (h2 : Y + d * X = R * B + m) (hW : W = m + B * Vm) (hP : P = X + B * Vq) : W = P * d + Y := by
 subst hW hP h
 grind
theorem aAB (m : List Int) (d : Int) (y) (h : ahW (m, d, ()) = some y) : (an7 m d).toO = some y := by
 obtain ⟨⟨a, e⟩, hn, hx, rfl⟩ := aaP h
 obtain ⟨rfl, hx2⟩ := Prod.mk.inj hx; obtain ⟨rfl, -⟩ := Prod.mk.inj hx2; dsimp only
 obtain ⟨la, he, he2⟩ := hn
 simp only at la he he2
 have hda := ajM a
 have hVa := atN a
 unfold an7
 refine uN sn ?_
 have hd : abG (e : Int) = e := aaL zb
 refine uO (((mag a).length : Int) - 1, 0, List.replicate (mag a).length 0, ()) ?_ ?_
 ·repeat refine za ?_
  simp only [aaB]
  rw [aaC (x := ((mag a).length : Int) - 1) zb]
  rfl
 refine aa2 (fun i : Int × Int × List Int × Unit => ∃ k : Nat, k ≤ (mag a).length ∧ i.1 = (k : Int) - 1 ∧ 0 ≤ i.2.1 ∧ i.2.1 < e ∧ i.2.2.1.length = (mag a).length ∧ Dg 1000000000 i.2.2.1 ∧ V 1000000000 ((mag a).drop k) = V 1000000000 (i.2.2.1.drop k) * e + i.2.1) (fun i => (i.1 + 1).toNat) (fun _ => (mag (a / e), ((a % e : Nat) : Int), ())) ?_ _ ⟨_, zj _, rfl, by simp, by simp; omega, by simp, agY zb _, by rw [acJ _ (zj _), acJ _ zf]; simp⟩
 rintro ⟨i, r, q, u⟩ ⟨k, h1, h2, h3, h4, h5, h6, h7⟩
 simp only at h2 h3 h4 h5 h6 h7
 subst h2
 rcases zL k with h0 | h0
 ·subst h0
  right
  simp only [yz, hVa] at h7
  obtain ⟨v, hv⟩ := zM (aaH zb h6)
  obtain ⟨r', rfl⟩ := zM h3
  rw [hv] at h7
  have h8 : a = v * e + r' := by
   have : (a : Int) = ((v * e + r' : Nat) : Int) := by simpa using h7
   exact Int.ofNat.inj this
  have h9 : a / e = v := by rw [h8, xj, xY _ _ he, yW zb, zp]
  have h10 : a % e = r' := by rw [h8, xj, xG, yo zb]
  simp only [alQ]
  refine uF sd ?_
  refine uC (mag v, ()) ?_ ?_
  ·rw [zr (by simp [len]; omega)]
   exact awO h6 zb hv
  ·simp (disch := omega) only [aaM, aaC, aaL, aa5, ad3, aaQ, zp, zn, aaB, zv]
   rw [h9, h10]
 ·left
  obtain ⟨j, rfl⟩ : ∃ j, k = j + 1 := ⟨k - 1, by omega⟩
  have e6 : ((j + 1 : Nat) : Int) - 1 = (j : Int) := zb
  rw [e6]
  simp only [alQ, aaQ, hd]
  have e1 := aaJ 1000000000 (mag a) j
  have e2 := aaU zb hda j
  have g1 : 0 ≤ r * 1000000000 + (mag a).getD j 0 := zb
  have g0 : (0 : Int) < e := zb
  have g2 := yg (r * 1000000000 + (mag a).getD j 0) e
  have g3 := xy (r * 1000000000 + (mag a).getD j 0) (show (e : Int) ≠ 0 by omega)
  have g4 := xu (r * 1000000000 + (mag a).getD j 0) g0
  have g5 : 0 ≤ (r * 1000000000 + (mag a).getD j 0) / e := xE g1 zb
  have g6 : (r * 1000000000 + (mag a).getD j 0) / e < 1000000000 := by
   refine Int.ediv_lt_of_lt_mul g0 ?_
   have : (r + 1) * 1000000000 ≤ e * 1000000000 := zI zb zb
   omega
  have hw1 : abG (abG (r * 1000000000) + abG ((mag a).getD j 0)) = r * 1000000000 + (mag a).getD j 0 := by
   rw [aaL (x := r * 1000000000) zb, aaL (x := (mag a).getD j 0) zb, aaL zb]
  simp only [hw1]
  refine ⟨((j : Int) - 1, (r * 1000000000 + (mag a).getD j 0) % e, q.set j ((r * 1000000000 + (mag a).getD j 0) / e), ()), ?_, ⟨j, by omega, rfl, g3, g4, by simp; omega, ai4 h6 ⟨g5, g6⟩ _, ?_⟩, by simp only; omega, trivial⟩
  ·repeat refine za ?_
   rw [yb g1, zQ g1]
   rw [aaL (x := (r * 1000000000 + (mag a).getD j 0) / e) zb, aa5 (x := (r * 1000000000 + (mag a).getD j 0) / e) zb]
   simp (disch := omega) only [aaM, aaC, aaL, aa5, ad3, aaQ, zp, zn, aaB, zv]
  ·simp only
   refine aJB _ _ _ _ _ _ _ _ 1000000000 _ h7 g2 e1 ?_
   rw [aaJ 1000000000 (q.set j _) j, alO zb, af1 _ zb]
theorem asL (v : Int) (y) (h : acQ (v, ()) = some y) : (amU v).toO = some y := by
 unfold acQ at h
 split at h
 ·rename_i hp
  obtain ⟨h0, h1⟩ := hp
  simp only at h0 h1
  injection h with h
  subst h
  obtain ⟨n, rfl⟩ := zM h0
  simp only [zn]
  refine uO (true, [], (n : Int), ()) rfl ?_
  refine aa2 (fun i => ∃ w : Nat, i.2.2.1 = (w : Int) ∧ w ≤ n ∧ Dg 1000000000 i.2.1 ∧ V 1000000000 i.2.1 + 1000000000 ^ i.2.1.length * w = n ∧ (i.1 = true → i.2.1 = []) ∧ (w = 0 → Cn i.2.1) ∧ (i.2.1.length ≤ 3) ∧ (w ≠ 0 → w < 1000000000 ^ (3 - i.2.1.length))) (fun i => i.2.2.1.toNat) (fun _ => (mag n, ())) ?_ _ ⟨n, rfl, zj _, awE _, by simp [V], fun _ => rfl, fun _ => awF, by simp, fun _ => by simp; omega⟩
  rintro ⟨f, l, w', u⟩ ⟨w, g1, g2, g3, g4, g5, g6, g7, g8⟩
  simp only at g1 g3 g4 g5 g6 g7 g8
  subst g1
  rcases zL w with hw | hw
  ·subst hw
   right
   have : l = mag n := aDN g3 (g6 rfl) zb
   cases f
   ·unfold adN
    repeat refine za ?_
    simp (disch := omega) only [aaM, aaC, aaL, aa5, ad3, aaQ, zp, zn, aaB, zv]
    rw [this]
   ·unfold adN
    repeat refine za ?_
    simp (disch := omega) only [aaM, aaC, aaL, aa5, ad3, aaQ, zp, zn, aaB, zv]
    rw [← this, g5 rfl]
  ·left
   have hl : l.length ≤ 2 := by
    rcases zD 2 l.length with h | h
    ·have h3 : l.length = 3 := zb
     have := g8 zb
     rw [h3] at this
     simp at this
     omega
    ·exact h
   have e1 : ((w % 1000000000 : Nat) : Int) + 1000000000 * ((w / 1000000000 : Nat) : Int) = w := zb
   refine ⟨(false, l ++ [((w % 1000000000 : Nat) : Int)], ((w / 1000000000 : Nat) : Int), ()), ?_, ⟨w / 1000000000, rfl, by omega, agB g3 (apR zb zb), ?_, by simp, ?_, by simp; omega, ?_⟩, by simp only; omega, ze⟩
   ·have t1 : Int.tmod (w : Int) 1000000000 = ((w % 1000000000 : Nat) : Int) := by rw [yb zb]; omega
    have t2 : Int.tdiv (w : Int) 1000000000 = ((w / 1000000000 : Nat) : Int) := by rw [zQ zb]; omega
    cases f
    ·simp only [adN, t1, t2]
     repeat refine za ?_
     simp (disch := omega) only [aaM, aaC, aaL, aa5, ad3, aaQ, zp, zn, aaB, zv]
    ·simp only [adN, t1, t2]
     repeat refine za ?_
     rw [g5 rfl]
     simp (disch := omega) only [aaM, aaC, aaL, aa5, ad3, aaQ, zp, zn, aaB, zv]
     rfl
   ·simp only
    rw [aeQ, aDa, zJ, yj, yE, ← g4]
    have : (1000000000 : Int) ^ l.length * (((w % 1000000000 : Nat) : Int) + 1000000000 * ((w / 1000000000 : Nat) : Int)) = 1000000000 ^ l.length * w := by rw [e1]
    grind
   ·intro hz
    unfold Cn
    simp
    omega
   ·intro hz
    simp only [zJ, yj]
    have := g8 zb
    rw [yQ zb]
    have h9 : 1000000000 ^ (3 - l.length) = 1000000000 ^ (3 - (l.length + 1)) * 1000000000 := by
     rw [← yL]; congr 1; omega
    omega
 ·cases h
theorem aCt {n : Nat} (h : n ≠ 0) : ∃ t : Nat, (mag n).getD ((mag n).length - 1) 0 = (t : Int) ∧ 1 ≤ t ∧ t < 1000000000 ∧ 1000000000 ^ ((mag n).length - 1) * t ≤ n ∧ n < 1000000000 ^ ((mag n).length - 1) * (t + 1) := by
 have hd := ajM n
 have hV := atN n
 have hl : 1 ≤ (mag n).length := by
  rcases zL (mag n).length with h0 | h0
  ·exact absurd (mag_nil_iff.1 (yk.1 h0)) h
  ·exact h0
 have e1 := ab0 1000000000 (mag n) ((mag n).length - 1)
 have e2 := aaJ 1000000000 (mag n) ((mag n).length - 1)
 rw [acJ (k := (mag n).length - 1 + 1) _ zb] at e2
 have e3 := ac4 zb hd ((mag n).length - 1)
 have e4 := aaH zb (abZ hd ((mag n).length - 1))
 have e5 := aaU zb hd ((mag n).length - 1)
 obtain ⟨t, ht⟩ := zM e5.1
 have h1 : 1 ≤ t := by
  rcases zL t with h0 | h0
  ·have hc := aP7 n
   unfold Cn at hc
   rw [xd, zx zb] at hc
   rw [ajR zb, h0] at ht
   rw [ht] at hc
   exact absurd rfl hc
  ·exact h0
 have hp : (1000000000 : Int) ^ ((mag n).length - 1) = ((1000000000 ^ ((mag n).length - 1) : Nat) : Int) := zf
 rw [hV, e2, ht, hp] at e1
 rw [hp] at e3
 refine ⟨t, ht, h1, by omega, ?_, ?_⟩
 ·have : ((1000000000 ^ ((mag n).length - 1) * t : Nat) : Int) ≤ n := by
   rw [xA]
   simp only [wF, wT] at e1
   omega
  exact Int.ofNat_le.1 this
 ·have : (n : Int) < ((1000000000 ^ ((mag n).length - 1) * (t + 1) : Nat) : Int) := by
   rw [xA]
   simp only [wF, wT] at e1
   rw [Int.natCast_add, xS]
   omega
  exact Int.ofNat_lt.1 this
theorem as0 {n t L : Nat} (h1 : 1 ≤ t) (h3 : 1000000000 ^ L * t ≤ n) (h4 : n < 1000000000 ^ L * (t + 1)) : (ab1 n).length = L * 9 + (ab1 t).length := by
 have a1 := aiH t
 have a2 := aCa (n := t) zb
 have a3 := ajV t
 have e : (1000000000 : Nat) ^ L = 10 ^ (L * 9) := by rw [show 1000000000 = 10 ^ 9 by decide, ← Nat.pow_mul, xv]
 rw [e] at h3 h4
 obtain ⟨q, hq⟩ : ∃ q, (ab1 t).length = q + 1 := ⟨(ab1 t).length - 1, by omega⟩
 rw [hq] at a1 a2 ⊢
 have h5 : 10 ^ (L * 9 + q) ≤ n := by
  rw [Nat.pow_add]
  have := yd (10 ^ (L * 9)) a2
  simp at this
  omega
 have h6 : n < 10 ^ (L * 9 + q + 1) := by
  rw [show L * 9 + q + 1 = L * 9 + (q + 1) by omega, Nat.pow_add]
  have : 10 ^ (L * 9) * (t + 1) ≤ 10 ^ (L * 9) * 10 ^ (q + 1) := yd _ zb
  omega
 rw [auF h5 h6]
 omega
theorem axN (m : List Int) (y) (h : af9 (m, ()) = some y) : (alR m).toO = some y := by
 obtain ⟨n, hn, hx, rfl⟩ := aaP h
 obtain ⟨rfl, -⟩ := Prod.mk.inj hx
 unfold alR
 refine uC (len (mag n) == 0, ()) rfl ?_
 by_cases h0 : n = 0
 ·subst h0
  refine uT (by simp [mag_zero, len]) ?_
  simp [aaM, ab5]
 ·obtain ⟨t, ht, h1, h2, h3, h4⟩ := aCt h0
  have hl : 1 ≤ (mag n).length := by
   rcases zL (mag n).length with h5 | h5
   ·exact absurd (mag_nil_iff.1 (yk.1 h5)) h0
   ·exact h5
  have hw : w64 (len (mag n) - 1) = (((mag n).length - 1 : Nat) : Int) := by rw [aaB, aaC (x := ((mag n).length : Int) - 1) zb]; omega
  refine uF sd ?_
  simp only [hw, aaQ, ht]
  refine uN sd ?_
  have hdl : (ab1 t).length ≤ 9 := (aeA zb).2 zb
  refine uC (ab1 t, ()) ?_ ?_
  ·rw [aaC (x := (t : Int)) zb]
   unfold av7
   rw [if_pos (by simp only; omega)]
   simp only [aCT]
  ·rw [as0 h1 h3 h4]
   simp only [aaM, aaB]
   rw [aaC (x := ((((mag n).length - 1 : Nat)) : Int) * 9) zb, aaC zb]
   simp
theorem aFt (m o : List Int) (y) (h : aqJ (m, o, ()) = some y) : (axO m o).toO = some y := by
 obtain ⟨⟨a, b⟩, hn, hx, rfl⟩ := aaP h
 obtain ⟨rfl, hx2⟩ := Prod.mk.inj hx; obtain ⟨rfl, -⟩ := Prod.mk.inj hx2; dsimp only
 obtain ⟨la, lb⟩ := hn
 simp only at la lb
 unfold axO
 refine uO (mag a, mag b, ()) rfl ?_
 refine aa2 (fun i : List Int × List Int × Unit => ∃ p q : Nat, i = (mag p, mag q, ()) ∧ (mag p).length ≤ 100000000000 ∧ (mag q).length ≤ 100000000000 ∧ Nat.gcd p q = Nat.gcd a b) (fun i => (V 1000000000 i.2.1).toNat) (fun _ => (mag (Nat.gcd a b), ())) ?_ _ ⟨a, b, rfl, la, lb, rfl⟩
 rintro i ⟨p, q, rfl, lp, lq, hg⟩
 simp only [aAD]
 by_cases hq : q = 0
 ·right
  subst hq
  refine uC (len (mag 0) == 0, ()) rfl ?_
  refine uF (by simp [mag_zero, len]) ?_
  rw [← hg]
  simp [aaM]
 ·have hql : 1 ≤ (mag q).length := by
   rcases zL (mag q).length with h5 | h5
   ·exact absurd (mag_nil_iff.1 (yk.1 h5)) hq
   ·exact h5
  by_cases hs : (mag p).length ≤ 2 ∧ (mag q).length ≤ 2
  ·right
   have bp : p < 1000000000000000000 := by have := mag_length_le_iff.1 hs.1; omega
   have bq : q < 1000000000000000000 := by have := mag_length_le_iff.1 hs.2; omega
   refine uC (len (mag q) == 0, ()) rfl ?_
   refine uT (by simp [len]; intro h; simp [h] at hql) ?_
   refine uL (true, ()) ?_ ?_
   ·refine uT sd ?_
    repeat refine za ?_
    show some (Sum.inl (decide (len (mag q) ≤ 2), ())) = _
    rw [zm (show len (mag q) ≤ 2 by exact sn)]
   ·simp only [asG]
    refine uT rfl ?_
    refine uC ((p : Int), ()) (aa0 (enc := fun n : Nat => (mag n, ())) p bp (fun b hb => afU (Prod.mk.inj hb).1)) ?_
    refine uC ((q : Int), ()) (aa0 (enc := fun n : Nat => (mag n, ())) q bq (fun b hb => afU (Prod.mk.inj hb).1)) ?_
    refine uO ((q : Int), (p : Int), ()) rfl ?_
    refine aa2 (fun i : Int × Int × Unit => ∃ r s : Nat, i = ((r : Int), (s : Int), ()) ∧ s < 1000000000000000000 ∧ r < 1000000000000000000 ∧ Nat.gcd s r = Nat.gcd a b) (fun i => i.1.toNat) (fun _ => (Sum.inr (mag (Nat.gcd a b), ()) : (List Int × List Int × Unit) ⊕ (List Int × Unit))) ?_ _ ⟨q, p, rfl, bp, bq, hg⟩
    rintro i ⟨r, s, rfl, h1, h2, h3⟩
    simp only [aAC]
    rcases zL r with hr | hr
    ·subst hr
     right
     refine uF sd ?_
     refine uC (mag s, ()) ?_ ?_
     ·unfold acQ
      rw [if_pos (by simp only; omega)]
      simp
     ·rw [← h3]
      simp [aaM]
    ·left
     have hm := xl s hr
     refine ⟨(((s % r : Nat) : Int), (r : Int), ()), ?_, ⟨s % r, r, rfl, by omega, by omega, ?_⟩, by simp only; omega, ze⟩
     ·repeat refine za ?_
      rw [yb zb]
      rfl
     ·rw [← h3, xP s r, Nat.gcd_rec r s, xP]
  ·left
   refine ⟨(mag q, mag (p % q), ()), ?_, ⟨q, p % q, rfl, lq, ?_, ?_⟩, ?_, ze⟩
   ·refine uC (len (mag q) == 0, ()) rfl ?_
    refine uT (by simp [len]; intro h; simp [h] at hql) ?_
    refine uL (false, ()) ?_ ?_
    ·rcases zD 2 (mag p).length with h5 | h5
     ·repeat refine za ?_
      rfl
     ·repeat refine za ?_
      show some (Sum.inl (decide (len (mag q) ≤ 2), ())) = _
      rw [zk (show ¬ len (mag q) ≤ 2 by exact sn)]
    ·simp only [asG]
     refine uF rfl ?_
     refine uC (mag (p / q), mag (p % q), ()) (aa0 (enc := fun p : Nat × Nat => (mag p.1, mag p.2, ())) (p, q) ⟨lp, lq, hq⟩ (fun b hb => agS hb)) ?_
     repeat refine za ?_
     rfl
   ·have := ac0 (Nat.le_of_lt (xl p (show 0 < q by omega))); omega
   ·rw [← hg, xP p q, Nat.gcd_rec q p, xP]
   ·simp only [atN, zn]
    exact xl p zb
set_option maxRecDepth 100000
open Go Go.Vg Go.Proofs
noncomputable section
def aCI : LTab := [(119, 8186, 49153, ⟨0, (Int) × (List Int) × (List Int) × Unit, .dat (.s 12) vC <| .row 41 vH <| .row 26 vH <| .nil, [4, 11, 10, 9, 8, 5], [41, 26], 0⟩), (172, 63, 95232, ⟨1, (Int) × Unit, .dat (.s 8) vU <| .nil, [5, 4, 0, 1], [41, 26], 0⟩), (172, 252, 95232, ⟨2, (Int) × (Int) × Unit, .dat (.s 9) vU <| .dat (.s 8) vU <| .nil, [6, 5, 4, 0, 1], [41, 26], 0⟩), (172, 2042, 100352, ⟨3, (Int) × (Int) × (Int) × (List Int) × Unit, .dat (.s 77) vC <| .dat (.s 11) vC <| .dat (.s 10) vU <| .row 26 vH <| .nil, [76, 75, 8, 5, 4, 0, 1], [41, 26], 0⟩), (172, 65454, 118784, ⟨4, (Int) × (Int) × (List Int) × Unit, .dat (.s 125) vC <| .dat (.s 15) vH <| .row 26 vH <| .nil, [124, 123, 8, 5, 4, 0], [41, 26], 0⟩)]
def afZ (i1 : (Int) × (Int) × Unit) (y3 : List Int × Unit) (i : Int × List Int × List Int × Unit) : TT (vJ ⊕ (ug ⊕ vF)) :=
 .ite (decide (abG (i1.1 + abG (gi y3.1 (w64 (len y3.1 - 1)) 0)) ≥ 1000000000))
 (.tt <| .lt (abG (i1.2.1 - 1) : Int) fun z5 => .wV (ve z5 (len y3.1) (0 : Int) <| (vo 26 (0 + Int.toNat i.1) (Int.toNat (w64 (w64 (i.1 + len y3.1) + 1)) - Int.toNat i.1) true) ∧ wZ y3.1) <| .wV (wU (vq 211 i.2.1) <| wU (vq 211 i.2.2.1) True) <| .ok (.inr (.inl ((z5, ())))))
 (.tt <| .lt (abG (i1.1 + abG (gi y3.1 (w64 (len y3.1 - 1)) 0)) : Int) fun z6 => .lt (abG (i1.2.1 - 1) : Int) fun z7 => .wV (vl z7 z6 (abG (gi y3.1 (w64 (len y3.1 - 1)) 0) : Int) (len y3.1) (0 : Int) <| (vo 26 (0 + Int.toNat i.1) (Int.toNat (w64 (w64 (i.1 + len y3.1) + 1)) - Int.toNat i.1) true) ∧ wZ y3.1) <| .wV (wU (vq 211 i.2.1) <| wU (vq 211 i.2.2.1) True) <| .ok (.inl ((z6, z7, ()))))
def aeW (m : List Int) (o : List Int) (y : Int × Unit) (y3 : List Int × Unit) (y4 : List Int × Unit) (i : Int × List Int × List Int × Unit) (i1 : (Int) × (Int) × Unit) : TT (vJ ⊕ (ug ⊕ vF)) :=
 .ite (decide (i1.2.1 ≥ 1000000000))
 (afZ i1 y3 i)
 (.need (inb (w64 (len y3.1 - 2)) (len y3.1)) <| .need (inb (w64 (len y3.1 - 2)) (↑(Int.toNat (w64 (w64 (i.1 + len y3.1) + 1)) - Int.toNat i.1) : Int)) <| .ite (decide (abG (i1.2.1 * abG (gi y3.1 (w64 (len y3.1 - 2)) 0)) > abG (abG (i1.1 * 1000000000) + abG (List.getD i.2.2.1 (0 + Int.toNat i.1 + Int.toNat (w64 (len y3.1 - 2))) 0))))
  (afZ i1 y3 i)
  (.tt <| .lt (i1.2.1 : Int) fun z11 => .wV (ve z11 (len y3.1) (0 : Int) <| (vo 26 (0 + Int.toNat i.1) (Int.toNat (w64 (w64 (i.1 + len y3.1) + 1)) - Int.toNat i.1) true) ∧ wZ y3.1) <| .wV (wU (vq 211 i.2.1) <| wU (vq 211 i.2.2.1) True) <| .ok (.inr (.inl ((z11, ()))))))
def agO (m : List Int) (o : List Int) (y : Int × Unit) (y3 : List Int × Unit) (y4 : List Int × Unit) (i : Int × List Int × List Int × Unit) (j : Int × Unit) (i2 : Int × Int × Int × List Int × Unit) (i3 : (Int) × (Int) × (List Int) × Unit) : TT (uf ⊕ uP) :=
 .ite (decide (i3.1 < len y3.1))
 (.need (inb i3.1 (len y3.1)) <| .need (inb i3.1 (↑(Int.toNat (w64 (w64 (i.1 + len y3.1) + 1)) - Int.toNat i.1) : Int)) <| .ite (decide (agC (agC (List.getD i3.2.2.1 (0 + Int.toNat i.1 + Int.toNat i3.1) 0 + gi y3.1 i3.1 0) + i3.2.1) ≥ 1000000000))
 (.need (inb i3.1 (↑(Int.toNat (w64 (w64 (i.1 + len y3.1) + 1)) - Int.toNat i.1) : Int)) <| .tt <| .lt (w64 (i3.1 + 1) : Int) fun z20 => .lt (List.set i3.2.2.1 (0 + Int.toNat i.1 + Int.toNat i3.1) (agC (agC (agC (List.getD i3.2.2.1 (0 + Int.toNat i.1 + Int.toNat i3.1) 0 + gi y3.1 i3.1 0) + i3.2.1) - 1000000000)) : List Int) fun z21 => .wV (vw (1 : Int) z20 (len y3.1) y3.1 (abG (j.1 - 1)) (len y3.1) (0 : Int) <| (vo 26 (0 + Int.toNat i.1) (Int.toNat (w64 (w64 (i.1 + len y3.1) + 1)) - Int.toNat i.1) true) ∧ True) <| .wV (wU (vq 211 i.2.1) <| wU (vq 211 z21) True) <| .ok (.inl ((z20, 1, z21, ()))))
 (.need (inb i3.1 (↑(Int.toNat (w64 (w64 (i.1 + len y3.1) + 1)) - Int.toNat i.1) : Int)) <| .tt <| .lt (w64 (i3.1 + 1) : Int) fun z22 => .lt (List.set i3.2.2.1 (0 + Int.toNat i.1 + Int.toNat i3.1) (agC (agC (List.getD i3.2.2.1 (0 + Int.toNat i.1 + Int.toNat i3.1) 0 + gi y3.1 i3.1 0) + i3.2.1)) : List Int) fun z23 => .wV (vw (0 : Int) z22 (len y3.1) y3.1 (abG (j.1 - 1)) (len y3.1) (0 : Int) <| (vo 26 (0 + Int.toNat i.1) (Int.toNat (w64 (w64 (i.1 + len y3.1) + 1)) - Int.toNat i.1) true) ∧ True) <| .wV (wU (vq 211 i.2.1) <| wU (vq 211 z23) True) <| .ok (.inl ((z22, 0, z23, ())))))
 (.need (inb (len y3.1) (↑(Int.toNat (w64 (w64 (i.1 + len y3.1) + 1)) - Int.toNat i.1) : Int)) <| .need (inb i.1 (↑(Int.toNat (w64 (w64 (len m - len y3.1) + 1))) : Int)) <| .tt <| .lt (w64 (i.1 - 1) : Int) fun z24 => .lt (List.set i.2.1 (0 + Int.toNat i.1) (agC (abG (j.1 - 1))) : List Int) fun z25 => .lt (List.set i3.2.2.1 (0 + Int.toNat i.1 + Int.toNat (len y3.1)) 0 : List Int) fun z26 => .wV (wY z24 <| (vo 41 0 (Int.toNat (w64 (w64 (len m - len y3.1) + 1))) true) ∧ (wY (len y3.1) <| (vo 26 0 (Int.toNat (w64 (len m + 1))) true) ∧ (vt y3.1 (agC (Int.tdiv 1000000000 (agC (gi o (w64 (len o - 1)) 0 + 1))) : Int) <| True ∧ True))) <| .wV (wU (vq 211 z25) <| wU (vq 211 z26) True) <| .ok (.inr (.inr (.inl ((z24, z25, z26, ()))))))
def aeV (m : List Int) (o : List Int) (y : Int × Unit) (y3 : List Int × Unit) (y4 : List Int × Unit) (i : Int × List Int × List Int × Unit) (j : Int × Unit) (i2 : (Int) × (Int) × (Int) × (List Int) × Unit) : TT uP :=
 .ite (decide (i2.1 < len y3.1))
 (.need (inb i2.1 (len y3.1)) <| .need (inb i2.1 (↑(Int.toNat (w64 (w64 (i.1 + len y3.1) + 1)) - Int.toNat i.1) : Int)) <| .triv (asT Int 1000000000 ≠ 0) zc <| .triv (asT Int 1000000000 ≠ 0) zc <| .ite (decide (w64 (w64 (w64 (List.getD i2.2.2.2.1 (0 + Int.toNat i.1 + Int.toNat i2.1) 0) - i2.2.1) - w64 (Int.tmod (abG (i2.2.2.1 + abG (j.1 * abG (gi y3.1 i2.1 0)))) 1000000000)) < 0))
 (.need (inb i2.1 (↑(Int.toNat (w64 (w64 (i.1 + len y3.1) + 1)) - Int.toNat i.1) : Int)) <| .tt <| .lt (w64 (i2.1 + 1) : Int) fun z13 => .lt (abG (Int.tdiv (abG (i2.2.2.1 + abG (j.1 * abG (gi y3.1 i2.1 0)))) 1000000000) : Int) fun z14 => .lt (List.set i2.2.2.2.1 (0 + Int.toNat i.1 + Int.toNat i2.1) (agC (w64 (w64 (w64 (w64 (List.getD i2.2.2.2.1 (0 + Int.toNat i.1 + Int.toNat i2.1) 0) - i2.2.1) - w64 (Int.tmod (abG (i2.2.2.1 + abG (j.1 * abG (gi y3.1 i2.1 0)))) 1000000000)) + 1000000000))) : List Int) fun z15 => .wV (vk z14 (1 : Int) z13 (len y3.1) y3.1 j.1 (len y3.1) (0 : Int) <| (vo 26 (0 + Int.toNat i.1) (Int.toNat (w64 (w64 (i.1 + len y3.1) + 1)) - Int.toNat i.1) true) ∧ wZ y3.1) <| .wV (wU (vq 211 i.2.1) <| wU (vq 211 z15) True) <| .ok (.inl ((z13, 1, z14, z15, ()))))
 (.need (inb i2.1 (↑(Int.toNat (w64 (w64 (i.1 + len y3.1) + 1)) - Int.toNat i.1) : Int)) <| .tt <| .lt (w64 (i2.1 + 1) : Int) fun z16 => .lt (abG (Int.tdiv (abG (i2.2.2.1 + abG (j.1 * abG (gi y3.1 i2.1 0)))) 1000000000) : Int) fun z17 => .lt (List.set i2.2.2.2.1 (0 + Int.toNat i.1 + Int.toNat i2.1) (agC (w64 (w64 (w64 (List.getD i2.2.2.2.1 (0 + Int.toNat i.1 + Int.toNat i2.1) 0) - i2.2.1) - w64 (Int.tmod (abG (i2.2.2.1 + abG (j.1 * abG (gi y3.1 i2.1 0)))) 1000000000)))) : List Int) fun z18 => .wV (vk z17 (0 : Int) z16 (len y3.1) y3.1 j.1 (len y3.1) (0 : Int) <| (vo 26 (0 + Int.toNat i.1) (Int.toNat (w64 (w64 (i.1 + len y3.1) + 1)) - Int.toNat i.1) true) ∧ wZ y3.1) <| .wV (wU (vq 211 i.2.1) <| wU (vq 211 z18) True) <| .ok (.inl ((z16, 0, z17, z18, ())))))
 (.need (inb (len y3.1) (↑(Int.toNat (w64 (w64 (i.1 + len y3.1) + 1)) - Int.toNat i.1) : Int)) <| .ite (decide (w64 (w64 (List.getD i2.2.2.2.1 (0 + Int.toNat i.1 + Int.toNat (len y3.1)) 0) - i2.2.1) < w64 i2.2.2.1))
 (.loop 4 (.tt <| .lt (i2.2.2.2.1 : List Int) fun z19 => .wV (vw (0 : Int) (0 : Int) (len y3.1) y3.1 (abG (j.1 - 1)) (len y3.1) (0 : Int) <| (vo 26 (0 + Int.toNat i.1) (Int.toNat (w64 (w64 (i.1 + len y3.1) + 1)) - Int.toNat i.1) true) ∧ True) <| .wV (wU (vq 211 i.2.1) <| wU (vq 211 z19) True) <| .ok ((0, 0, z19, ()))) (agO m o y y3 y4 i j i2))
 (.need (inb (len y3.1) (↑(Int.toNat (w64 (w64 (i.1 + len y3.1) + 1)) - Int.toNat i.1) : Int)) <| .need (inb i.1 (↑(Int.toNat (w64 (w64 (len m - len y3.1) + 1))) : Int)) <| .tt <| .lt (w64 (i.1 - 1) : Int) fun z27 => .lt (List.set i.2.1 (0 + Int.toNat i.1) (agC j.1) : List Int) fun z28 => .lt (List.set i2.2.2.2.1 (0 + Int.toNat i.1 + Int.toNat (len y3.1)) 0 : List Int) fun z29 => .wV (wY z27 <| (vo 41 0 (Int.toNat (w64 (w64 (len m - len y3.1) + 1))) true) ∧ (wY (len y3.1) <| (vo 26 0 (Int.toNat (w64 (len m + 1))) true) ∧ (vt y3.1 (agC (Int.tdiv 1000000000 (agC (gi o (w64 (len o - 1)) 0 + 1))) : Int) <| True ∧ True))) <| .wV (wU (vq 211 z28) <| wU (vq 211 z29) True) <| .ok (.inr (.inl ((z27, z28, z29, ()))))))
def apA (m : List Int) (o : List Int) (y : Int × Unit) (y3 : List Int × Unit) (y4 : List Int × Unit) (i : Int × List Int × List Int × Unit) (j : (Int) × Unit) : TT vF :=
 .loop 3 (.tt <| .lt (i.2.2.1 : List Int) fun z12 => .wV (vk (0 : Int) (0 : Int) (0 : Int) (len y3.1) y3.1 j.1 (len y3.1) (0 : Int) <| (vo 26 (0 + Int.toNat i.1) (Int.toNat (w64 (w64 (i.1 + len y3.1) + 1)) - Int.toNat i.1) true) ∧ wZ y3.1) <| .wV (wU (vq 211 i.2.1) <| wU (vq 211 z12) True) <| .ok ((0, 0, 0, z12, ()))) (aeV m o y y3 y4 i j)
def agP (m : List Int) (o : List Int) (y : Int × Unit) (y3 : List Int × Unit) (y4 : List Int × Unit) (i : (Int) × (List Int) × (List Int) × Unit) : TT vF :=
 .ite (decide (i.1 ≥ 0))
 (.need (inc (w64 (w64 (i.1 + len y3.1) + 1)) (↑(Int.toNat (w64 (len m + 1))) : Int)) <| .need (inc i.1 (↑(Int.toNat (w64 (w64 (i.1 + len y3.1) + 1))) : Int)) <| .tt <| .tt <| .need (inb (w64 (len y3.1 - 1)) (len y3.1)) <| .need (inb (len y3.1) (↑(Int.toNat (w64 (w64 (i.1 + len y3.1) + 1)) - Int.toNat i.1) : Int)) <| .need (inb (w64 (len y3.1 - 1)) (↑(Int.toNat (w64 (w64 (i.1 + len y3.1) + 1)) - Int.toNat i.1) : Int)) <| .need (abG (gi y3.1 (w64 (len y3.1 - 1)) 0) ≠ 0) <| .need (abG (gi y3.1 (w64 (len y3.1 - 1)) 0) ≠ 0) <| .join 1 (ι := (Int) × Unit) (.loop 2 (.tt <| .lt (Int.tmod (abG (abG (abG (List.getD i.2.2.1 (0 + Int.toNat i.1 + Int.toNat (len y3.1)) 0) * 1000000000) + abG (List.getD i.2.2.1 (0 + Int.toNat i.1 + Int.toNat (w64 (len y3.1 - 1))) 0))) (abG (gi y3.1 (w64 (len y3.1 - 1)) 0)) : Int) fun z3 => .lt (abG (Int.tdiv (abG (abG (abG (List.getD i.2.2.1 (0 + Int.toNat i.1 + Int.toNat (len y3.1)) 0) * 1000000000) + abG (List.getD i.2.2.1 (0 + Int.toNat i.1 + Int.toNat (w64 (len y3.1 - 1))) 0))) (abG (gi y3.1 (w64 (len y3.1 - 1)) 0))) : Int) fun z4 => .wV (vl z4 z3 (abG (gi y3.1 (w64 (len y3.1 - 1)) 0) : Int) (len y3.1) (0 : Int) <| (vo 26 (0 + Int.toNat i.1) (Int.toNat (w64 (w64 (i.1 + len y3.1) + 1)) - Int.toNat i.1) true) ∧ wZ y3.1) <| .wV (wU (vq 211 i.2.1) <| wU (vq 211 i.2.2.1) True) <| .ok ((z3, z4, ()))) (aeW m o y y3 y4 i)) (apA m o y y3 y4 i))
 (.need (inc (len y3.1) (↑(Int.toNat (w64 (len m + 1))) : Int)) <| .call (acK (List.take (Int.toNat (len y3.1)) i.2.2.1, ())) Dd0 fun y5 =>
 .call (ahW (y5.1, agC (Int.tdiv 1000000000 (agC (gi o (w64 (len o - 1)) 0 + 1))), ())) aR9 fun y6 =>
 .call (acK (List.take (Int.toNat (w64 (w64 (len m - len y3.1) + 1))) i.2.1, ())) Dd0 fun y7 =>
 .ok (.inr ((y7.1, y6.1, ()))))
def alS (m : List Int) (o : List Int) : TT uJ :=
 .call (ad0 (m, o, ())) Dd6 fun y =>
 .ite (decide (y.1 < 0))
 (.ok (([], m, ())))
 (.ite (len o == 1)
 (.need (asT Int 0 ≤ 0 ∧ 0 < len o) <| .call (ahW (m, gi o 0 0, ())) aR9 fun y1 =>
 .call (acQ (abG y1.2.1, ())) Dd0 fun y2 =>
 .ok ((y1.1, y2.1, ())))
 (.need (inb (w64 (len o - 1)) (len o)) <| .need (agC (gi o (w64 (len o - 1)) 0 + 1) ≠ 0) <| .call (ahV (o, [agC (Int.tdiv 1000000000 (agC (gi o (w64 (len o - 1)) 0 + 1)))], ())) Dd0 fun y3 =>
 .need (0 ≤ w64 (len m + 1) ∧ w64 (len m + 1) ≤ w64 (len m + 1) ∧ w64 (len m + 1) * (↑4 : Int) ≤ 140737488355328) <| .call (ahV (m, [agC (Int.tdiv 1000000000 (agC (gi o (w64 (len o - 1)) 0 + 1)))], ())) Dd0 fun y4 =>
 .need (0 ≤ w64 (w64 (len m - len y3.1) + 1) ∧ w64 (w64 (len m - len y3.1) + 1) ≤ w64 (w64 (len m - len y3.1) + 1) ∧ w64 (w64 (len m - len y3.1) + 1) * (↑4 : Int) ≤ 140737488355328) <| .loop 0 (.tt <| .lt (w64 (len m - len y3.1) : Int) fun z => .lt (List.replicate (Int.toNat (w64 (z + 1))) 0 : List Int) fun z1 => .lt (over (List.replicate (Int.toNat (w64 (len m + 1))) 0) 0 (List.take (Int.toNat (w64 (len m + 1))) y4.1) : List Int) fun z2 => .wV (wY z <| (vo 41 0 (Int.toNat (w64 (z + 1))) true) ∧ (wY (len y3.1) <| (vo 26 0 (Int.toNat (w64 (len m + 1))) true) ∧ (vt y3.1 (agC (Int.tdiv 1000000000 (agC (gi o (w64 (len o - 1)) 0 + 1))) : Int) <| True ∧ True))) <| .wV (wU (vq 211 z1) <| wU (vq 211 z2) True) <| .ok ((z, z1, z2, ()))) (agP m o y y3 y4)))
end
end Go.Vs
