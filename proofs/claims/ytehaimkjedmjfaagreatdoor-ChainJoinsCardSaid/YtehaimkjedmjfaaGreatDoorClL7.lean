/-
  Trees of what the functions compute, and their laws. Own work; no condition.
-/
import Derived.Test.YtehaimkjedmjfaaGreatDoorClL6
import Derived.Test.YtehaimkjedmjfaaGreatDoorProg
import Derived.KernelRfl
set_option linter.unusedVariables false
set_option linter.unusedSimpArgs false
set_option maxRecDepth 100000
namespace Go.Vs
open Go Go.Vg Go.Proofs
noncomputable section
abbrev gC (l : List ChT) (i : Int) : ChT := gi l i (0, [], ())
abbrev prC (c s f : ChT) : List (List ChT) := [[rC c, rC s], [rC c, rC f], [rC s, rC c], [rC c, rC c]]
abbrev pG (c s f : ChT) (i : Int) : List ChT := gi (asT (List (List ChT)) (prC c s f)) i (List.replicate 2 (0, [], ()))
abbrev pA (c s f : ChT) (i : Int) : ChT := rC (List.headD (pG c s f i) (0, [], ()))
abbrev pB (c s f : ChT) (i : Int) : ChT := rC (List.headD (List.tail (pG c s f i)) (0, [], ()))
abbrev qB2 (b : List BcT) : Prop := Qq (43 : TypeId) ∧ Qq ((List.headD b b0D).1 : Int) ∧ Qq ((List.headD b b0D).2.1 : Int) ∧ Qq ((List.headD b b0D).2.2.1 : Int) ∧ Qq ((List.headD b b0D).2.2.2.1.1 : Int) ∧ Qq ((List.headD b b0D).2.2.2.1.2.1 : Int) ∧ Qq ((List.headD (List.headD b b0D).2.2.2.1.2.2.1 c0D).1 : Int) ∧ Qq ((List.headD (List.headD b b0D).2.2.2.1.2.2.1 c0D).2.1 : List Int) ∧ Qq ((List.headD (List.headD b b0D).2.2.2.1.2.2.1 c0D).2.2.1 : List (Int × Int × Int × Int × Int × Int × Unit)) ∧ Qq ((List.headD (List.headD b b0D).2.2.2.1.2.2.1 c0D).2.2.2.1) ∧ Qq ((List.headD (List.headD b b0D).2.2.2.1.2.2.1 c0D).2.2.2.2.1) ∧ Qq ((List.headD (List.tail (List.headD b b0D).2.2.2.1.2.2.1) c0D).1 : Int) ∧ Qq ((List.headD (List.tail (List.headD b b0D).2.2.2.1.2.2.1) c0D).2.1 : List Int) ∧ Qq ((List.headD (List.tail (List.headD b b0D).2.2.2.1.2.2.1) c0D).2.2.1 : List (Int × Int × Int × Int × Int × Int × Unit)) ∧ Qq ((List.headD (List.tail (List.headD b b0D).2.2.2.1.2.2.1) c0D).2.2.2.1) ∧ Qq ((List.headD (List.tail (List.headD b b0D).2.2.2.1.2.2.1) c0D).2.2.2.2.1) ∧ Qq ((List.headD (List.tail (List.tail (List.headD b b0D).2.2.2.1.2.2.1)) c0D).1 : Int) ∧ Qq ((List.headD (List.tail (List.tail (List.headD b b0D).2.2.2.1.2.2.1)) c0D).2.1 : List Int) ∧ Qq ((List.headD (List.tail (List.tail (List.headD b b0D).2.2.2.1.2.2.1)) c0D).2.2.1 : List (Int × Int × Int × Int × Int × Int × Unit)) ∧ Qq ((List.headD (List.tail (List.tail (List.headD b b0D).2.2.2.1.2.2.1)) c0D).2.2.2.1) ∧ Qq ((List.headD (List.tail (List.tail (List.headD b b0D).2.2.2.1.2.2.1)) c0D).2.2.2.2.1) ∧ Qq ((List.headD (List.tail (List.tail (List.tail (List.headD b b0D).2.2.2.1.2.2.1))) c0D).1 : Int) ∧ Qq ((List.headD (List.tail (List.tail (List.tail (List.headD b b0D).2.2.2.1.2.2.1))) c0D).2.1 : List Int) ∧ Qq ((List.headD (List.tail (List.tail (List.tail (List.headD b b0D).2.2.2.1.2.2.1))) c0D).2.2.1 : List (Int × Int × Int × Int × Int × Int × Unit)) ∧ Qq ((List.headD (List.tail (List.tail (List.tail (List.headD b b0D).2.2.2.1.2.2.1))) c0D).2.2.2.1) ∧ Qq ((List.headD (List.tail (List.tail (List.tail (List.headD b b0D).2.2.2.1.2.2.1))) c0D).2.2.2.2.1) ∧ Qq (List.headD (List.headD (List.headD b b0D).2.2.2.1.2.2.2.1 (List.replicate 4 0)) 0 : Int) ∧ Qq (List.headD (List.tail (List.headD (List.headD b b0D).2.2.2.1.2.2.2.1 (List.replicate 4 0))) 0 : Int) ∧ Qq (List.headD (List.tail (List.tail (List.headD (List.headD b b0D).2.2.2.1.2.2.2.1 (List.replicate 4 0)))) 0 : Int) ∧ Qq (List.headD (List.tail (List.tail (List.tail (List.headD (List.headD b b0D).2.2.2.1.2.2.2.1 (List.replicate 4 0))))) 0 : Int) ∧ Qq (List.headD (List.headD (List.tail (List.headD b b0D).2.2.2.1.2.2.2.1) (List.replicate 4 0)) 0 : Int) ∧ Qq (List.headD (List.tail (List.headD (List.tail (List.headD b b0D).2.2.2.1.2.2.2.1) (List.replicate 4 0))) 0 : Int) ∧ Qq (List.headD (List.tail (List.tail (List.headD (List.tail (List.headD b b0D).2.2.2.1.2.2.2.1) (List.replicate 4 0)))) 0 : Int) ∧ Qq (List.headD (List.tail (List.tail (List.tail (List.headD (List.tail (List.headD b b0D).2.2.2.1.2.2.2.1) (List.replicate 4 0))))) 0 : Int) ∧ Qq (List.headD (List.headD (List.tail (List.tail (List.headD b b0D).2.2.2.1.2.2.2.1)) (List.replicate 4 0)) 0 : Int) ∧ Qq (List.headD (List.tail (List.headD (List.tail (List.tail (List.headD b b0D).2.2.2.1.2.2.2.1)) (List.replicate 4 0))) 0 : Int) ∧ Qq (List.headD (List.tail (List.tail (List.headD (List.tail (List.tail (List.headD b b0D).2.2.2.1.2.2.2.1)) (List.replicate 4 0)))) 0 : Int) ∧ Qq (List.headD (List.tail (List.tail (List.tail (List.headD (List.tail (List.tail (List.headD b b0D).2.2.2.1.2.2.2.1)) (List.replicate 4 0))))) 0 : Int) ∧ Qq (List.headD (List.headD (List.tail (List.tail (List.tail (List.headD b b0D).2.2.2.1.2.2.2.1))) (List.replicate 4 0)) 0 : Int) ∧ Qq (List.headD (List.tail (List.headD (List.tail (List.tail (List.tail (List.headD b b0D).2.2.2.1.2.2.2.1))) (List.replicate 4 0))) 0 : Int) ∧ Qq (List.headD (List.tail (List.tail (List.headD (List.tail (List.tail (List.tail (List.headD b b0D).2.2.2.1.2.2.2.1))) (List.replicate 4 0)))) 0 : Int) ∧ Qq (List.headD (List.tail (List.tail (List.tail (List.headD (List.tail (List.tail (List.tail (List.headD b b0D).2.2.2.1.2.2.2.1))) (List.replicate 4 0))))) 0 : Int) ∧ Qq (List.headD (List.headD b b0D).2.2.2.1.2.2.2.2.1 0) ∧ Qq (List.headD (List.tail (List.headD b b0D).2.2.2.1.2.2.2.2.1) 0) ∧ Qq (List.headD (List.tail (List.tail (List.headD b b0D).2.2.2.1.2.2.2.2.1)) 0 : Int) ∧ Qq (List.headD (List.tail (List.tail (List.tail (List.headD b b0D).2.2.2.1.2.2.2.2.1))) 0 : Int) ∧ Qq ((List.headD b b0D).2.2.2.1.2.2.2.2.2.1.1 : List Int) ∧ Qq ((List.headD b b0D).2.2.2.1.2.2.2.2.2.1.2.1 : Int) ∧ Qq ((List.headD b b0D).2.2.2.1.2.2.2.2.2.1.2.2.1 : List Int) ∧ Qq ((List.headD b b0D).2.2.2.1.2.2.2.2.2.1.2.2.2.1) ∧ Qq ((List.headD b b0D).2.2.2.1.2.2.2.2.2.2.1.1 : Int) ∧ Qq ((List.headD b b0D).2.2.2.1.2.2.2.2.2.2.1.2.1 : Int) ∧ Qq ((List.headD b b0D).2.2.2.1.2.2.2.2.2.2.1.2.2.1 : List (Int × Int × Unit)) ∧ Qq ((List.headD (List.tail b) b0D).1 : Int) ∧ Qq ((List.headD (List.tail b) b0D).2.1 : Int) ∧ Qq ((List.headD (List.tail b) b0D).2.2.1 : Int) ∧ Qq ((List.headD (List.tail b) b0D).2.2.2.1.1 : Int) ∧ Qq ((List.headD (List.tail b) b0D).2.2.2.1.2.1 : Int) ∧ Qq ((List.headD (List.headD (List.tail b) b0D).2.2.2.1.2.2.1 c0D).1 : Int) ∧ Qq ((List.headD (List.headD (List.tail b) b0D).2.2.2.1.2.2.1 c0D).2.1 : List Int) ∧ Qq ((List.headD (List.headD (List.tail b) b0D).2.2.2.1.2.2.1 c0D).2.2.1 : List (Int × Int × Int × Int × Int × Int × Unit)) ∧ Qq ((List.headD (List.headD (List.tail b) b0D).2.2.2.1.2.2.1 c0D).2.2.2.1) ∧ Qq ((List.headD (List.headD (List.tail b) b0D).2.2.2.1.2.2.1 c0D).2.2.2.2.1) ∧ Qq ((List.headD (List.tail (List.headD (List.tail b) b0D).2.2.2.1.2.2.1) c0D).1 : Int) ∧ Qq ((List.headD (List.tail (List.headD (List.tail b) b0D).2.2.2.1.2.2.1) c0D).2.1 : List Int) ∧ Qq ((List.headD (List.tail (List.headD (List.tail b) b0D).2.2.2.1.2.2.1) c0D).2.2.1 : List (Int × Int × Int × Int × Int × Int × Unit)) ∧ Qq ((List.headD (List.tail (List.headD (List.tail b) b0D).2.2.2.1.2.2.1) c0D).2.2.2.1) ∧ Qq ((List.headD (List.tail (List.headD (List.tail b) b0D).2.2.2.1.2.2.1) c0D).2.2.2.2.1) ∧ Qq ((List.headD (List.tail (List.tail (List.headD (List.tail b) b0D).2.2.2.1.2.2.1)) c0D).1 : Int) ∧ Qq ((List.headD (List.tail (List.tail (List.headD (List.tail b) b0D).2.2.2.1.2.2.1)) c0D).2.1 : List Int) ∧ Qq ((List.headD (List.tail (List.tail (List.headD (List.tail b) b0D).2.2.2.1.2.2.1)) c0D).2.2.1 : List (Int × Int × Int × Int × Int × Int × Unit)) ∧ Qq ((List.headD (List.tail (List.tail (List.headD (List.tail b) b0D).2.2.2.1.2.2.1)) c0D).2.2.2.1) ∧ Qq ((List.headD (List.tail (List.tail (List.headD (List.tail b) b0D).2.2.2.1.2.2.1)) c0D).2.2.2.2.1) ∧ Qq ((List.headD (List.tail (List.tail (List.tail (List.headD (List.tail b) b0D).2.2.2.1.2.2.1))) c0D).1 : Int) ∧ Qq ((List.headD (List.tail (List.tail (List.tail (List.headD (List.tail b) b0D).2.2.2.1.2.2.1))) c0D).2.1 : List Int) ∧ Qq ((List.headD (List.tail (List.tail (List.tail (List.headD (List.tail b) b0D).2.2.2.1.2.2.1))) c0D).2.2.1 : List (Int × Int × Int × Int × Int × Int × Unit)) ∧ Qq ((List.headD (List.tail (List.tail (List.tail (List.headD (List.tail b) b0D).2.2.2.1.2.2.1))) c0D).2.2.2.1) ∧ Qq ((List.headD (List.tail (List.tail (List.tail (List.headD (List.tail b) b0D).2.2.2.1.2.2.1))) c0D).2.2.2.2.1) ∧ Qq (List.headD (List.headD (List.headD (List.tail b) b0D).2.2.2.1.2.2.2.1 (List.replicate 4 0)) 0 : Int) ∧ Qq (List.headD (List.tail (List.headD (List.headD (List.tail b) b0D).2.2.2.1.2.2.2.1 (List.replicate 4 0))) 0 : Int) ∧ Qq (List.headD (List.tail (List.tail (List.headD (List.headD (List.tail b) b0D).2.2.2.1.2.2.2.1 (List.replicate 4 0)))) 0 : Int) ∧ Qq (List.headD (List.tail (List.tail (List.tail (List.headD (List.headD (List.tail b) b0D).2.2.2.1.2.2.2.1 (List.replicate 4 0))))) 0 : Int) ∧ Qq (List.headD (List.headD (List.tail (List.headD (List.tail b) b0D).2.2.2.1.2.2.2.1) (List.replicate 4 0)) 0 : Int) ∧ Qq (List.headD (List.tail (List.headD (List.tail (List.headD (List.tail b) b0D).2.2.2.1.2.2.2.1) (List.replicate 4 0))) 0 : Int) ∧ Qq (List.headD (List.tail (List.tail (List.headD (List.tail (List.headD (List.tail b) b0D).2.2.2.1.2.2.2.1) (List.replicate 4 0)))) 0 : Int) ∧ Qq (List.headD (List.tail (List.tail (List.tail (List.headD (List.tail (List.headD (List.tail b) b0D).2.2.2.1.2.2.2.1) (List.replicate 4 0))))) 0 : Int) ∧ Qq (List.headD (List.headD (List.tail (List.tail (List.headD (List.tail b) b0D).2.2.2.1.2.2.2.1)) (List.replicate 4 0)) 0 : Int) ∧ Qq (List.headD (List.tail (List.headD (List.tail (List.tail (List.headD (List.tail b) b0D).2.2.2.1.2.2.2.1)) (List.replicate 4 0))) 0 : Int) ∧ Qq (List.headD (List.tail (List.tail (List.headD (List.tail (List.tail (List.headD (List.tail b) b0D).2.2.2.1.2.2.2.1)) (List.replicate 4 0)))) 0 : Int) ∧ Qq (List.headD (List.tail (List.tail (List.tail (List.headD (List.tail (List.tail (List.headD (List.tail b) b0D).2.2.2.1.2.2.2.1)) (List.replicate 4 0))))) 0 : Int) ∧ Qq (List.headD (List.headD (List.tail (List.tail (List.tail (List.headD (List.tail b) b0D).2.2.2.1.2.2.2.1))) (List.replicate 4 0)) 0 : Int) ∧ Qq (List.headD (List.tail (List.headD (List.tail (List.tail (List.tail (List.headD (List.tail b) b0D).2.2.2.1.2.2.2.1))) (List.replicate 4 0))) 0 : Int) ∧ Qq (List.headD (List.tail (List.tail (List.headD (List.tail (List.tail (List.tail (List.headD (List.tail b) b0D).2.2.2.1.2.2.2.1))) (List.replicate 4 0)))) 0 : Int) ∧ Qq (List.headD (List.tail (List.tail (List.tail (List.headD (List.tail (List.tail (List.tail (List.headD (List.tail b) b0D).2.2.2.1.2.2.2.1))) (List.replicate 4 0))))) 0 : Int) ∧ Qq (List.headD (List.headD (List.tail b) b0D).2.2.2.1.2.2.2.2.1 0) ∧ Qq (List.headD (List.tail (List.headD (List.tail b) b0D).2.2.2.1.2.2.2.2.1) 0 : Int) ∧ Qq (List.headD (List.tail (List.tail (List.headD (List.tail b) b0D).2.2.2.1.2.2.2.2.1)) 0 : Int) ∧ Qq (List.headD (List.tail (List.tail (List.tail (List.headD (List.tail b) b0D).2.2.2.1.2.2.2.2.1))) 0 : Int) ∧ Qq ((List.headD (List.tail b) b0D).2.2.2.1.2.2.2.2.2.1.1 : List Int) ∧ Qq ((List.headD (List.tail b) b0D).2.2.2.1.2.2.2.2.2.1.2.1 : Int) ∧ Qq ((List.headD (List.tail b) b0D).2.2.2.1.2.2.2.2.2.1.2.2.1 : List Int) ∧ Qq ((List.headD (List.tail b) b0D).2.2.2.1.2.2.2.2.2.1.2.2.2.1) ∧ Qq ((List.headD (List.tail b) b0D).2.2.2.1.2.2.2.2.2.2.1.1 : Int) ∧ Qq ((List.headD (List.tail b) b0D).2.2.2.1.2.2.2.2.2.2.1.2.1 : Int) ∧ Qq ((List.headD (List.tail b) b0D).2.2.2.1.2.2.2.2.2.2.1.2.2.1 : List (Int × Int × Unit)) ∧ True
def aAx : LTab := [(3, 122, 13312, ⟨0, (Int) × Unit, .dat (.s 40) xX <| .nil, [39, 11, 6, 3, 4], [8, 2, 1, 0], 0⟩), (3, 250682, 44032, ⟨1, (Int) × Unit, .dat (.s 66) xX <| .nil, [65, 64, 63, 62, 61, 60, 59, 58, 57, 56, 55, 54, 53, 16, 52, 51, 50, 49, 48, 14, 47, 46, 43, 45, 44, 13, 42, 41, 40, 39, 11, 6, 3, 4], [28, 15, 8, 2, 1, 0], 0⟩), (3, 501370, 46080, ⟨2, (Int) × Unit, .dat (.s 23) xX <| .nil, [67, 66, 65, 64, 63, 62, 61, 60, 59, 58, 57, 56, 55, 54, 53, 16, 52, 51, 50, 49, 48, 14, 47, 46, 43, 45, 44, 13, 42, 41, 40, 39, 11, 6, 3, 4], [28, 15, 8, 2, 1, 0], 0⟩), (3, 32087698, 54272, ⟨3, (Int) × Unit, .dat (.s 24) xX <| .nil, [101, 100, 99, 98, 97, 96, 95, 23, 67, 66, 65, 64, 63, 62, 61, 60, 59, 58, 57, 56, 55, 54, 53, 16, 52, 51, 50, 49, 48, 14, 47, 46, 43, 45, 44, 13, 42, 41, 40, 39, 11, 6, 3, 4], [28, 15, 8, 2, 1, 0], 0⟩)]
def am3 (d : DcT) (other : DcT) (b : List BcT) (from0 : Int) (to0 : Int) (y : Bool × Unit) (y1 : ChT × Unit) (y2 : List ChT × Unit) (i : Int × Unit) (y3 : Int × Int × Unit) (y4 : ChT × Unit) (i1 : Int × Unit) (i2 : Int × Unit) (i3 : (Int) × Unit) : TT (wv ⊕ (wv ⊕ wO)) :=
 .ite (decide (i3.1 ≤ w64 ((if 9 < len (gC y2.1 i.1).2.1 then 9 else len (gC y2.1 i.1).2.1) + 1)))
 (.call (ag8 ((rC (gC y2.1 i.1)), i2.1, i3.1, ())) aLK fun y8 =>
 .call (ahZ ((rC (gC y2.1 i.1)), i2.1, i3.1, ())) aLK fun y9 =>
 .ite (y8.2.1 != y9.2.1)
 (.ok (.inr (.inr (.inr (.inr ((false, ())))))))
 (.call (aeR ((y8.1.1, y8.1.2.1, ()), (y9.1.1, y9.1.2.1, ()), ())) Dz2 fun y10 =>
 .ite (!y10.1)
 (.ok (.inr (.inr (.inr (.inr ((false, ())))))))
 (.tt <| .lt (w64 (i3.1 + 1) : Int) fun z1 => .xD (xT z1 (decide (i2.1 ≤ w64 ((if 9 < len (gC y2.1 i.1).2.1 then 9 else len (gC y2.1 i.1).2.1) + 1))) (w64 ((if 9 < len (gC y2.1 i.1).2.1 then 9 else len (gC y2.1 i.1).2.1) + 1) : Int) (if 9 < len (gC y2.1 i.1).2.1 then 9 else len (gC y2.1 i.1).2.1 : Int) (len (gC y2.1 i.1).2.1) ((gC y2.1 i.1).2.1 : List ElT) <| (xJ 15 1 true) ∧ (xN i2.1 i2.1 (decide (i1.1 < 4)) i1.1 ((prC (gC y2.1 i.1) y1.1 y4.1) : List (List ChT)) ([(rC (gC y2.1 i.1)), (rC (gC y2.1 i.1))] : List ChT) ((rC (gC y2.1 i.1)) : ChT) ((rC (gC y2.1 i.1)) : ChT) <| xN ([(rC y1.1), (rC (gC y2.1 i.1))] : List ChT) ((rC (gC y2.1 i.1)) : ChT) ((rC y1.1) : ChT) ([(rC (gC y2.1 i.1)), (rC y4.1)] : List ChT) ((rC y4.1) : ChT) ((rC (gC y2.1 i.1)) : ChT) ([(rC (gC y2.1 i.1)), (rC y1.1)] : List ChT) ((rC y1.1) : ChT) <| xL ((rC (gC y2.1 i.1)) : ChT) <| wV ∧ (xN y4.1 (if 4 < if 1 > y3.1 then 1 else y3.1 then 4 else if 1 > y3.1 then 1 else y3.1 : Int) (if 1 > y3.1 then 1 else y3.1 : Int) y3.1 ((other.1, other.2.1, other.2.2.1, ()) : DcT) y3.1 y3.2.1 y3.1 <| (xM y3.1 y3.2.1) ∧ ((xM y3.1 y3.2.1) ∧ (xL ((rC (gC y2.1 i.1)) : ChT) <| wW ∧ (xK (gi y2.1 i.1 (0, [], ())) (decide (i.1 < 3)) i.1 y2.1 <| wN ∧ wb ∧ xM from0 to0)))))) <| .xD (xC (xH 47 y4.1.1 y4.1.2.1) <| xC (xH 47 ((gC y2.1 i.1).1 : Int) ((gC y2.1 i.1).2.1 : List ElT)) <| xC (xH 47 y1.1.1 y1.1.2.1) <| qB2 b ∧ (xL true <| xC (xE 24 other.1 other.2.1 other.2.2.1) <| xC (xE 24 d.1 d.2.1 d.2.2.1) True)) <| .ok (.inl ((z1, ()))))))
 (.tt <| .lt (w64 (i2.1 + 1) : Int) fun z2 => .xD (xN z2 (decide (i1.1 < 4)) i1.1 ((prC (gC y2.1 i.1) y1.1 y4.1) : List (List ChT)) ([(rC (gC y2.1 i.1)), (rC (gC y2.1 i.1))] : List ChT) ((rC (gC y2.1 i.1)) : ChT) ((rC (gC y2.1 i.1)) : ChT) ([(rC y1.1), (rC (gC y2.1 i.1))] : List ChT) <| xN ((rC (gC y2.1 i.1)) : ChT) ((rC y1.1) : ChT) ([(rC (gC y2.1 i.1)), (rC y4.1)] : List ChT) ((rC y4.1) : ChT) ((rC (gC y2.1 i.1)) : ChT) ([(rC (gC y2.1 i.1)), (rC y1.1)] : List ChT) ((rC y1.1) : ChT) ((rC (gC y2.1 i.1)) : ChT) <| wV ∧ (xN y4.1 (if 4 < if 1 > y3.1 then 1 else y3.1 then 4 else if 1 > y3.1 then 1 else y3.1 : Int) (if 1 > y3.1 then 1 else y3.1 : Int) y3.1 ((other.1, other.2.1, other.2.2.1, ()) : DcT) y3.1 y3.2.1 y3.1 <| (xM y3.1 y3.2.1) ∧ ((xM y3.1 y3.2.1) ∧ (xL ((rC (gC y2.1 i.1)) : ChT) <| wW ∧ (xK (gi y2.1 i.1 (0, [], ())) (decide (i.1 < 3)) i.1 y2.1 <| wN ∧ wb ∧ xM from0 to0))))) <| .xD (xC (xH 47 y4.1.1 y4.1.2.1) <| xC (xH 47 ((gC y2.1 i.1).1 : Int) ((gC y2.1 i.1).2.1 : List ElT)) <| xC (xH 47 y1.1.1 y1.1.2.1) <| qB2 b ∧ (xL true <| xC (xE 24 other.1 other.2.1 other.2.2.1) <| xC (xE 24 d.1 d.2.1 d.2.2.1) True)) <| .ok (.inr (.inl ((z2, ())))))
def am4 (d : DcT) (other : DcT) (b : List BcT) (from0 : Int) (to0 : Int) (y : Bool × Unit) (y1 : ChT × Unit) (y2 : List ChT × Unit) (i : Int × Unit) (y3 : Int × Int × Unit) (y4 : ChT × Unit) (i1 : Int × Unit) (i2 : (Int) × Unit) : TT (wv ⊕ wO) :=
 .ite (decide (i2.1 ≤ w64 ((if 9 < len (gC y2.1 i.1).2.1 then 9 else len (gC y2.1 i.1).2.1) + 1)))
 (.loop 3 (.tt <| .xD (xT (-1 : Int) (decide (i2.1 ≤ w64 ((if 9 < len (gC y2.1 i.1).2.1 then 9 else len (gC y2.1 i.1).2.1) + 1))) (w64 ((if 9 < len (gC y2.1 i.1).2.1 then 9 else len (gC y2.1 i.1).2.1) + 1) : Int) (if 9 < len (gC y2.1 i.1).2.1 then 9 else len (gC y2.1 i.1).2.1 : Int) (len (gC y2.1 i.1).2.1) ((gC y2.1 i.1).2.1 : List ElT) <| (xJ 15 1 true) ∧ (xN i2.1 i2.1 (decide (i1.1 < 4)) i1.1 ((prC (gC y2.1 i.1) y1.1 y4.1) : List (List ChT)) ([(rC (gC y2.1 i.1)), (rC (gC y2.1 i.1))] : List ChT) ((rC (gC y2.1 i.1)) : ChT) ((rC (gC y2.1 i.1)) : ChT) <| xN ([(rC y1.1), (rC (gC y2.1 i.1))] : List ChT) ((rC (gC y2.1 i.1)) : ChT) ((rC y1.1) : ChT) ([(rC (gC y2.1 i.1)), (rC y4.1)] : List ChT) ((rC y4.1) : ChT) ((rC (gC y2.1 i.1)) : ChT) ([(rC (gC y2.1 i.1)), (rC y1.1)] : List ChT) ((rC y1.1) : ChT) <| xL ((rC (gC y2.1 i.1)) : ChT) <| wV ∧ (xN y4.1 (if 4 < if 1 > y3.1 then 1 else y3.1 then 4 else if 1 > y3.1 then 1 else y3.1 : Int) (if 1 > y3.1 then 1 else y3.1 : Int) y3.1 ((other.1, other.2.1, other.2.2.1, ()) : DcT) y3.1 y3.2.1 y3.1 <| (xM y3.1 y3.2.1) ∧ ((xM y3.1 y3.2.1) ∧ (xL ((rC (gC y2.1 i.1)) : ChT) <| wW ∧ (xK (gi y2.1 i.1 (0, [], ())) (decide (i.1 < 3)) i.1 y2.1 <| wN ∧ wb ∧ xM from0 to0)))))) <| .xD (xC (xH 47 y4.1.1 y4.1.2.1) <| xC (xH 47 ((gC y2.1 i.1).1 : Int) ((gC y2.1 i.1).2.1 : List ElT)) <| xC (xH 47 y1.1.1 y1.1.2.1) <| qB2 b ∧ (xL true <| xC (xE 24 other.1 other.2.1 other.2.2.1) <| xC (xE 24 d.1 d.2.1 d.2.2.1) True)) <| .ok ((-1, ()))) (am3 d other b from0 to0 y y1 y2 i y3 y4 i1 i2))
 (.call (ag8 ((rC (gC y2.1 i.1)), from0, to0, ())) aLK fun y11 =>
 .call (ahZ ((rC (gC y2.1 i.1)), from0, to0, ())) aLK fun y12 =>
 .ite (y11.2.1 != y12.2.1)
 (.ok (.inr (.inr (.inr ((false, ()))))))
 (.call (aeR ((y11.1.1, y11.1.2.1, ()), (y12.1.1, y12.1.2.1, ()), ())) Dz2 fun y13 =>
 .ite (!y13.1)
 (.ok (.inr (.inr (.inr ((false, ()))))))
 (.tt <| .lt (w64 (i.1 + 1) : Int) fun z3 => .xD (xQ z3 y2.1 <| wN ∧ wb ∧ xM from0 to0) <| .xD (xC (xH 47 y1.1.1 y1.1.2.1) <| qB2 b ∧ (xL true <| xC (xE 24 other.1 other.2.1 other.2.2.1) <| xC (xE 24 d.1 d.2.1 d.2.2.1) True)) <| .ok (.inr (.inr (.inl ((z3, ()))))))))
def am5 (d : DcT) (other : DcT) (b : List BcT) (from0 : Int) (to0 : Int) (y : Bool × Unit) (y1 : ChT × Unit) (y2 : List ChT × Unit) (i : Int × Unit) (y3 : Int × Int × Unit) (y4 : ChT × Unit) (i1 : (Int) × Unit) : TT wO :=
 .ite (decide (i1.1 < 4))
 (.need (inb i1.1 (↑4 : Int)) <| .triv (asT Int 0 ≤ 0 ∧ 0 < (↑2 : Int)) zd <| .triv (asT Int 0 ≤ 1 ∧ 1 < (↑2 : Int)) zd <| .call (agN ((pA (gC y2.1 i.1) y1.1 y4.1 i1.1), (pB (gC y2.1 i.1) y1.1 y4.1 i1.1), ())) aLK fun y5 =>
 .triv (asT Int 0 ≤ 0 ∧ 0 < (↑2 : Int)) zd <| .triv (asT Int 0 ≤ 1 ∧ 1 < (↑2 : Int)) zd <| .call (ahY ((pA (gC y2.1 i.1) y1.1 y4.1 i1.1), (pB (gC y2.1 i.1) y1.1 y4.1 i1.1), ())) aLK fun y6 =>
 .ite (y5.2.1 != y6.2.1)
 (.ok (.inr (.inr ((false, ())))))
 (.call (aeR ((y5.1.1, y5.1.2.1, ()), (y6.1.1, y6.1.2.1, ()), ())) Dz2 fun y7 =>
 .ite (!y7.1)
 (.ok (.inr (.inr ((false, ())))))
 (.tt <| .lt (w64 (i1.1 + 1) : Int) fun z => .xD (xN z ((prC (gC y2.1 i.1) y1.1 y4.1) : List (List ChT)) ([(rC (gC y2.1 i.1)), (rC (gC y2.1 i.1))] : List ChT) ((rC (gC y2.1 i.1)) : ChT) ((rC (gC y2.1 i.1)) : ChT) ([(rC y1.1), (rC (gC y2.1 i.1))] : List ChT) ((rC (gC y2.1 i.1)) : ChT) ((rC y1.1) : ChT) <| xT ([(rC (gC y2.1 i.1)), (rC y4.1)] : List ChT) ((rC y4.1) : ChT) ((rC (gC y2.1 i.1)) : ChT) ([(rC (gC y2.1 i.1)), (rC y1.1)] : List ChT) ((rC y1.1) : ChT) ((rC (gC y2.1 i.1)) : ChT) <| wV ∧ (xN y4.1 (if 4 < if 1 > y3.1 then 1 else y3.1 then 4 else if 1 > y3.1 then 1 else y3.1 : Int) (if 1 > y3.1 then 1 else y3.1 : Int) y3.1 ((other.1, other.2.1, other.2.2.1, ()) : DcT) y3.1 y3.2.1 y3.1 <| (xM y3.1 y3.2.1) ∧ ((xM y3.1 y3.2.1) ∧ (xL ((rC (gC y2.1 i.1)) : ChT) <| wW ∧ (xK (gi y2.1 i.1 (0, [], ())) (decide (i.1 < 3)) i.1 y2.1 <| wN ∧ wb ∧ xM from0 to0))))) <| .xD (xC (xH 47 y4.1.1 y4.1.2.1) <| xC (xH 47 ((gC y2.1 i.1).1 : Int) ((gC y2.1 i.1).2.1 : List ElT)) <| xC (xH 47 y1.1.1 y1.1.2.1) <| qB2 b ∧ (xL true <| xC (xE 24 other.1 other.2.1 other.2.2.1) <| xC (xE 24 d.1 d.2.1 d.2.2.1) True)) <| .ok (.inl ((z, ()))))))
 (.loop 2 (.tt <| .xD (xN (-1 : Int) (decide (i1.1 < 4)) i1.1 ((prC (gC y2.1 i.1) y1.1 y4.1) : List (List ChT)) ([(rC (gC y2.1 i.1)), (rC (gC y2.1 i.1))] : List ChT) ((rC (gC y2.1 i.1)) : ChT) ((rC (gC y2.1 i.1)) : ChT) ([(rC y1.1), (rC (gC y2.1 i.1))] : List ChT) <| xN ((rC (gC y2.1 i.1)) : ChT) ((rC y1.1) : ChT) ([(rC (gC y2.1 i.1)), (rC y4.1)] : List ChT) ((rC y4.1) : ChT) ((rC (gC y2.1 i.1)) : ChT) ([(rC (gC y2.1 i.1)), (rC y1.1)] : List ChT) ((rC y1.1) : ChT) ((rC (gC y2.1 i.1)) : ChT) <| wV ∧ (xN y4.1 (if 4 < if 1 > y3.1 then 1 else y3.1 then 4 else if 1 > y3.1 then 1 else y3.1 : Int) (if 1 > y3.1 then 1 else y3.1 : Int) y3.1 ((other.1, other.2.1, other.2.2.1, ()) : DcT) y3.1 y3.2.1 y3.1 <| (xM y3.1 y3.2.1) ∧ ((xM y3.1 y3.2.1) ∧ (xL ((rC (gC y2.1 i.1)) : ChT) <| wW ∧ (xK (gi y2.1 i.1 (0, [], ())) (decide (i.1 < 3)) i.1 y2.1 <| wN ∧ wb ∧ xM from0 to0))))) <| .xD (xC (xH 47 y4.1.1 y4.1.2.1) <| xC (xH 47 ((gC y2.1 i.1).1 : Int) ((gC y2.1 i.1).2.1 : List ElT)) <| xC (xH 47 y1.1.1 y1.1.2.1) <| qB2 b ∧ (xL true <| xC (xE 24 other.1 other.2.1 other.2.2.1) <| xC (xE 24 d.1 d.2.1 d.2.2.1) True)) <| .ok ((-1, ()))) (am4 d other b from0 to0 y y1 y2 i y3 y4 i1))
def am6 (d : DcT) (other : DcT) (b : List BcT) (from0 : Int) (to0 : Int) (y : Bool × Unit) (y1 : ChT × Unit) (y2 : List ChT × Unit) (i : (Int) × Unit) : TT wi :=
 .ite (decide (i.1 < 3))
 (.need (inb i.1 (↑3 : Int)) <| .call (aeT ((rC (gC y2.1 i.1)), ())) Dz0 fun y3 =>
 .call (afV ((other.1, other.2.1, other.2.2.1, ()), if 4 < if 1 > y3.1 then 1 else y3.1 then 4 else if 1 > y3.1 then 1 else y3.1, ())) aLM fun y4 =>
 .loop 1 (.tt <| .xD (xN (0 : Int) ((prC (gC y2.1 i.1) y1.1 y4.1) : List (List ChT)) ([(rC (gC y2.1 i.1)), (rC (gC y2.1 i.1))] : List ChT) ((rC (gC y2.1 i.1)) : ChT) ((rC (gC y2.1 i.1)) : ChT) ([(rC y1.1), (rC (gC y2.1 i.1))] : List ChT) ((rC (gC y2.1 i.1)) : ChT) ((rC y1.1) : ChT) <| xT ([(rC (gC y2.1 i.1)), (rC y4.1)] : List ChT) ((rC y4.1) : ChT) ((rC (gC y2.1 i.1)) : ChT) ([(rC (gC y2.1 i.1)), (rC y1.1)] : List ChT) ((rC y1.1) : ChT) ((rC (gC y2.1 i.1)) : ChT) <| wV ∧ (xN y4.1 (if 4 < if 1 > y3.1 then 1 else y3.1 then 4 else if 1 > y3.1 then 1 else y3.1 : Int) (if 1 > y3.1 then 1 else y3.1 : Int) y3.1 ((other.1, other.2.1, other.2.2.1, ()) : DcT) y3.1 y3.2.1 y3.1 <| (xM y3.1 y3.2.1) ∧ ((xM y3.1 y3.2.1) ∧ (xL ((rC (gC y2.1 i.1)) : ChT) <| wW ∧ (xK (gi y2.1 i.1 (0, [], ())) (decide (i.1 < 3)) i.1 y2.1 <| wN ∧ wb ∧ xM from0 to0))))) <| .xD (xC (xH 47 y4.1.1 y4.1.2.1) <| xC (xH 47 ((gC y2.1 i.1).1 : Int) ((gC y2.1 i.1).2.1 : List ElT)) <| xC (xH 47 y1.1.1 y1.1.2.1) <| qB2 b ∧ (xL true <| xC (xE 24 other.1 other.2.1 other.2.2.1) <| xC (xE 24 d.1 d.2.1 d.2.2.1) True)) <| .ok ((0, ()))) (am5 d other b from0 to0 y y1 y2 i y3 y4))
 (.ok (.inr ((true, ()))))
def ag9 (d : DcT) (other : DcT) (b : List BcT) (from0 : Int) (to0 : Int) : TT wk :=
 .call (asW ()) Dz2 fun y =>
 .ite (!y.1)
 (.ok ((false, ())))
 (.call (aeU ((other.1, other.2.1, other.2.2.1, ()), ())) aLM fun y1 =>
 .call (aiW ((d.1, d.2.1, d.2.2.1, ()), [(reB (List.headD b b0D)), (reB (List.headD (List.tail b) b0D))], ())) aOq fun y2 =>
 .loop 0 (.tt <| .xD (xQ (0 : Int) y2.1 <| wN ∧ wb ∧ xM from0 to0) <| .xD (xC (xH 47 y1.1.1 y1.1.2.1) <| qB2 b ∧ (xL true <| xC (xE 24 other.1 other.2.1 other.2.2.1) <| xC (xE 24 d.1 d.2.1 d.2.2.1) True)) <| .ok ((0, ()))) (am6 d other b from0 to0 y y1 y2))
end
open Go Go.Vg
noncomputable def jnV (a b : ChT) : ChT × Int × Unit := match acF a with
 | some n => match acF b with
  | some _ => if b.1 = n then (if a.2.1.length + b.2.1.length > 8 then ((0, [], ()), 3, ()) else ((a.1, a.2.1 ++ b.2.1, ()), 0, ())) else ((0, [], ()), 5, ())
  | none => ((0, [], ()), 140, ())
 | none => ((0, [], ()), 140, ())
noncomputable def ctV (c : ChT) (f t : Int) : ChT × Int × Unit := match acF c with
 | some _ => if 0 ≤ f ∧ f ≤ t ∧ t ≤ c.2.1.length then (((adH c.1 (c.2.1.take f.toNat)).getD 0, win c.2.1 f t, ()), 0, ()) else ((0, [], ()), 2, ())
 | none => ((0, [], ()), 140, ())
theorem aDc (n : Int) : as8 (n, [], ()) := ⟨zA _, fun _ h => by cases h⟩
theorem aMs {a b : ChT} (ha : bnd a) (hb : bnd b) : as8 (jnV a b).1 := by
 unfold jnV
 split
 ·split
  ·split
   ·split
    ·exact aDc 0
    ·refine ⟨?_, fun x hx => (zw.1 hx).elim (ha.2 x) (hb.2 x)⟩
     show (a.2.1 ++ b.2.1).length ≤ 1000000000000
     have h1 := ha.1; have h2 := hb.1
     rw [zq]; omega
   ·exact aDc 0
  ·exact aDc 0
 ·exact aDc 0
theorem aKw {c : ChT} (h : bnd c) (f t : Int) : as8 (ctV c f t).1 := by
 unfold ctV
 split
 ·split
  ·refine ⟨?_, fun x hx => h.2 x (yT (zZ hx))⟩
   show (win c.2.1 f t).length ≤ 1000000000000
   have h1 := h.1
   unfold win
   rw [zK, zS]; omega
  ·exact aDc 0
 ·exact aDc 0
theorem J1 {a b : ChT} (ha : bnd a) (hb : bnd b) : agN (a, b, ()) = some (jnV a b) := if_pos ⟨ha.sh, hb.sh⟩
theorem J2 {a b : ChT} (ha : bnd a) (hb : bnd b) : ahY (a, b, ()) = some (jnV a b) := if_pos ⟨ha.sh, hb.sh⟩
theorem C1 {c : ChT} (h : bnd c) (f t : Int) : ag8 (c, f, t, ()) = some (ctV c f t) := if_pos h.sh
theorem C2 {c : ChT} (h : bnd c) (f t : Int) : ahZ (c, f, t, ()) = some (ctV c f t) := if_pos h.sh
theorem aLv {p : ChT} (h : as8 p) : aeR (p, p, ()) = some (true, ()) := (if_pos h).trans (by rw [ac5 rfl])
theorem goodCh.bnd {n : Int} {c : ChT} (h : goodCh n c) : bnd c := ⟨by have := h.2.1; omega, h.2.2.1⟩
theorem pAB (c s f : ChT) (hc : bnd c) (hs : bnd s) (hf : bnd f) (k : Nat) (hk : k < 4) : bnd (pA c s f (k : Int)) ∧ bnd (pB c s f (k : Int)) := by
 have e : pG c s f (k : Int) = (prC c s f).getD k (List.replicate 2 (0, [], ())) := aaJ _ _ _
 show bnd (List.headD (pG c s f (k : Int)) (0, [], ())) ∧ bnd (List.headD (List.tail (pG c s f (k : Int))) (0, [], ()))
 rw [e]
 have : k = 0 ∨ k = 1 ∨ k = 2 ∨ k = 3 := zc
 rcases this with rfl | rfl | rfl | rfl
 ·exact ⟨hc, hs⟩
 ·exact ⟨hc, hf⟩
 ·exact ⟨hs, hc⟩
 ·exact ⟨hc, hc⟩
theorem axF (d other : DcT) (b : List BcT) (from0 to0 : Int) (hd : wfC d) (ho : wfC other) (hb : aLy b) : WP (ag9 d other b from0 to0) fun y => y = (true, ()) := by
 obtain ⟨⟨s, u⟩, es, n, n1, n4, gs⟩ := aoU other ho
 have es : aeU ((other.1, other.2.1, other.2.2.1, ()), ()) = some (s, ()) := es
 have bs : bnd s := gs.bnd
 obtain ⟨⟨l, u2⟩, el, hl3, hl⟩ := aH9 d [reB (List.headD b b0D), reB (List.headD (List.tail b) b0D)] hd (aKM hb)
 have el : aiW ((d.1, d.2.1, d.2.2.1, ()), [reB (List.headD b b0D), reB (List.headD (List.tail b) b0D)], ()) = some (l, ()) := el
 dsimp only at hl3 hl
 unfold ag9
 refine aaM _ (show asW () = some (true, ()) from rfl) (aaI (fun h => by cases h) (fun _ => aaM _ es (aaM _ el ?_)))
 refine ac7 (fun i : Int × Unit => ∃ k : Nat, k ≤ 3 ∧ i.1 = (k : Int)) (fun i => (3 - i.1).toNat) (aaA (aaA (aaA (aaN ⟨0, by omega, rfl⟩)))) ?_
 intro i hi
 obtain ⟨i, ui⟩ := i
 obtain ⟨k, hk3, e⟩ := hi
 dsimp only at e
 subst e
 unfold am6
 dsimp only
 refine aaI (fun a => ?_) (fun a => aaN rfl)
 have hk : k < 3 := by have := of_decide_eq_true a; omega
 have bc : bnd (gC l (k : Int)) := by
  show bnd (gi l (k : Int) (0, [], ()))
  rw [aaJ]; exact hl _ (aa9 zc _)
 have ek : w64 ((k : Int) + 1) = ((k + 1 : Nat) : Int) := (aaD ⟨by omega, by omega⟩).trans zc
 obtain ⟨m, e, hO, hm⟩ : ∃ m e : Int, aeT (gC l (k : Int), ()) = some (m, e, ()) ∧ (m = 0 ∨ 1 ≤ m ∧ m ≤ 4) := by
  have h := aHL (c := gC l (k : Int)) bc.sh
  cases ec : acF (gC l (k : Int)) with
  | none => rw [ec] at h; exact ⟨_, _, h, Or.inl rfl⟩
  | some q => rw [ec] at h; exact ⟨_, _, h, Or.inr (by have h := af8 ec; exact aFt h.2.1 h.2.2)⟩
 refine aaF ⟨by omega, by omega⟩ (aaM _ hO ?_)
 have hmm : 1 ≤ (if 4 < (if 1 > m then 1 else m) then 4 else (if 1 > m then 1 else m) : Int) ∧ (if 4 < (if 1 > m then 1 else m) then 4 else (if 1 > m then 1 else m) : Int) ≤ 4 := by
  split <;> split <;> omega
 obtain ⟨⟨f, uf⟩, ef, gf⟩ := aqO other ho _ hmm
 have bf : bnd f := gf.bnd
 refine aaM _ (show afV ((other.1, other.2.1, other.2.2.1, ()), _, ()) = some (f, ()) from ef) ?_
 -- the four pairs
 refine ac7 (fun i : Int × Unit => ∃ k : Nat, k ≤ 4 ∧ i.1 = (k : Int)) (fun i => (4 - i.1).toNat) (aaA (aaA (aaA (aaN ⟨0, by omega, rfl⟩)))) ?_
 intro i1 hi1
 obtain ⟨i1, ui1⟩ := i1
 obtain ⟨k1, hk4, e⟩ := hi1
 dsimp only at e
 subst e
 unfold am5
 dsimp only
 refine aaI (fun a => ?_) (fun a => ?_)
 ·have hk1 : k1 < 4 := by have := of_decide_eq_true a; omega
  obtain ⟨bA, bB⟩ := pAB (gC l (k : Int)) s f bc bs bf k1 hk1
  have ek1 : w64 ((k1 : Int) + 1) = ((k1 + 1 : Nat) : Int) := (aaD ⟨by omega, by omega⟩).trans zc
  refine aaF ⟨by omega, by omega⟩ (aaA (aaA (aaM _ (J1 bA bB) (aaA (aaA (aaM _ (J2 bA bB) (aaI (fun h => by simp at h) (fun _ => aaM _ (aLv (aMs bA bB)) (aaI (fun h => by cases h) (fun _ => aaA (aaP (aaA (aaA (aaN ?_))))))))))))))
  refine ⟨⟨k1 + 1, by omega, ek1⟩, ?_⟩
  show (4 - w64 ((k1 : Int) + 1)).toNat < (4 - (k1 : Int)).toNat
  rw [ek1]; omega
 ·-- all cuts
  have eM : w64 ((if 9 < len (gC l (k : Int)).2.1 then 9 else len (gC l (k : Int)).2.1) + 1) = (if 9 < len (gC l (k : Int)).2.1 then 9 else len (gC l (k : Int)).2.1) + 1 := by
   rw [aaB]
   exact aaD ⟨by split <;> omega, by split <;> omega⟩
  have hM : 1 ≤ w64 ((if 9 < len (gC l (k : Int)).2.1 then 9 else len (gC l (k : Int)).2.1) + 1) ∧ w64 ((if 9 < len (gC l (k : Int)).2.1 then 9 else len (gC l (k : Int)).2.1) + 1) ≤ 10 := by
   rw [eM, aaB]
   split <;> omega
  refine ac7 (fun i : Int × Unit => -1 ≤ i.1 ∧ i.1 ≤ 11) (fun i => (20 - i.1).toNat) (aaA (aaA (aaA (aaN ⟨by dsimp only; omega, by dsimp only; omega⟩)))) ?_
  intro i2 hi2
  obtain ⟨i2, ui2⟩ := i2
  obtain ⟨l2, h2⟩ := hi2
  dsimp only at l2 h2
  unfold am4
  dsimp only
  refine aaI (fun a => ?_) (fun a => ?_)
  ·have hl2 : i2 ≤ 10 := xx (of_decide_eq_true a) hM.2
   have e2 : w64 (i2 + 1) = i2 + 1 := aaD ⟨by omega, by omega⟩
   refine ac7 (fun i : Int × Unit => -1 ≤ i.1 ∧ i.1 ≤ 11) (fun i => (20 - i.1).toNat) (aaA (aaA (aaA (aaN ⟨by dsimp only; omega, by dsimp only; omega⟩)))) ?_
   intro i3 hi3
   obtain ⟨i3, ui3⟩ := i3
   obtain ⟨l3, h3⟩ := hi3
   dsimp only at l3 h3
   unfold am3
   dsimp only
   refine aaI (fun a => ?_) (fun a => ?_)
   ·have hl3 : i3 ≤ 10 := xx (of_decide_eq_true a) hM.2
    have e3 : w64 (i3 + 1) = i3 + 1 := aaD ⟨by omega, by omega⟩
    refine aaM _ (C1 bc i2 i3) (aaM _ (C2 bc i2 i3) (aaI (fun h => by simp at h) (fun _ => aaM _ (aLv (aKw bc i2 i3)) (aaI (fun h => by cases h) (fun _ => aaA (aaP (aaA (aaA (aaN ?_)))))))))
    refine ⟨⟨?_, ?_⟩, ?_⟩
    ·show -1 ≤ w64 (i3 + 1); rw [e3]; omega
    ·show w64 (i3 + 1) ≤ 11; rw [e3]; omega
    ·show (20 - w64 (i3 + 1)).toNat < (20 - i3).toNat
     rw [e3]; omega
   ·refine aaA (aaP (aaA (aaA (aaN ?_))))
    refine ⟨⟨?_, ?_⟩, ?_⟩
    ·show -1 ≤ w64 (i2 + 1); rw [e2]; omega
    ·show w64 (i2 + 1) ≤ 11; rw [e2]; omega
    ·show (20 - w64 (i2 + 1)).toNat < (20 - i2).toNat
     rw [e2]; omega
  ·refine aaM _ (C1 bc from0 to0) (aaM _ (C2 bc from0 to0) (aaI (fun h => by simp at h) (fun _ => aaM _ (aLv (aKw bc from0 to0)) (aaI (fun h => by cases h) (fun _ => aaA (aaP (aaA (aaA (aaN ?_)))))))))
   refine ⟨⟨k + 1, by omega, ek⟩, ?_⟩
   show (3 - w64 ((k : Int) + 1)).toNat < (3 - (k : Int)).toNat
   rw [ek]; omega
theorem atW (d other : DcT) (b : List BcT) (from0 to0 : Int) (hp : wfC d ∧ wfC other ∧ aLy b) (y) (h : aj7 (d, other, b, from0, to0, ()) = some y) : (ag9 d other b from0 to0).toO = some y := by
 injection h with h
 subst h
 obtain ⟨r, e, q⟩ := axF d other b from0 to0 hp.1 hp.2.1 hp.2.2
 rw [e, q]
theorem awK (d : DcT) (b : List BcT) (y) (h : aiW (d, b, ()) = some y) : (agE d b).toO = some y := h
abbrev aNW : Ty := .pair (.int .u8) (.pair (.int .u8) (.pair (.int .i64) (.pair aNe .unit)))
theorem aKL {x : BcT} (h : Wf aNW x) : wfB x := ⟨h.1, h.2.1, aLN h.2.2.2.1⟩
theorem aNa {x : DcT × DcT × List BcT × Int × Int × Unit} (h : Wf (.pair aNf (.pair aNf (.pair (.arr 2 aNW) (.pair (.int .i64) (.pair (.int .i64) .unit))))) x) : wfC x.1 ∧ wfC x.2.1 ∧ aLy x.2.2.1 :=
 ⟨aLO h.1, aLO h.2.1, ⟨h.2.2.1.1, fun z hz => aKL (h.2.2.1.2 z hz)⟩⟩
set_option maxRecDepth 1000000
open Go Go.Vg Go.Proofs
noncomputable section
def aGi : OkC := ⟨4, _, aDK⟩
def auQ := okT 269 (P3 tI tI tI) (P1 .bool) ac6 aEv [] Tryz.func269 (fun x => aoG x.1 x.2.1 x.2.2.1) fun _ y _ h => aAh _ _ _ y h
def atM := okT 223 (P1 tL) (P1 .bool) ahI atS [auQ] Tryz.func223 (fun x => ahH x.1) fun _ y _ h => apL _ y h
def aD0 := okT 310 (P1 (P3 tS tI .bool)) (P1 .bool) ae0 aEm [auQ] Tryz.func310 (fun x => aoD x.1) fun _ y _ h => az3 _ y h
def anW := okT 224 (P1 tC) (P1 .bool) ae2 aoH [aD0] Tryz.func224 (fun x => aeP x.1) fun _ y _ h => al9 _ y h
def aGq := okT 157 (P1 tC) (P1 tI) am2 aHx [atM, anW] Tryz.func157 (fun x => asK x.1) fun _ y _ h => aBW _ y h
def arC := okT 141 (P1 (.sl tC)) (P1 .bool) ac1 ar4 [aGq] Tryz.func141 (fun x => agH x.1) fun _ y _ h => an9 _ y h
def aIH := okT 212 (P1 tI) (P1 .bool) am0 aJe [] Tryz.func212 (fun x => awV x.1) fun _ y _ h => aEj _ y h
def arB := okT 142 (P2 (.sl tL) tL) (P1 .bool) acI ar3 [aIH] Tryz.func142 (fun x => agG x.1 x.2.1) fun _ y _ h => an8 _ _ y h
def aDZ := okT 213 (P3 tI tI tI) (P1 .bool) aeZ aEc [] Tryz.func213 (fun x => an0 x.1 x.2.1 x.2.2.1) fun _ y _ h => azI _ _ _ y h
def aBi := okT 214 (P1 tL) (P1 tI) adJ aBw [] Tryz.func214 (fun x => al4 x.1) fun _ y _ h => awO _ y h
def aGn := okT 143 (P1 (P3 tL tI tL)) (P1 tI) ah5 aGR [aDZ, aBi] Tryz.func143 (fun x => arO x.1) fun _ y _ h => aBx _ y h
def aDW := okT 306 (P1 tI) (P2 tI .bool) ah4 aDG [] Tryz.func306 (fun x => anR x.1) fun _ y _ h => ayP _ y h
end
set_option maxRecDepth 1000000
open Go Go.Vg Go.Proofs
noncomputable section
def awH := okT 307 (P3 tB tI tI) (P1 .bool) ad9 awC [] Tryz.func307 (fun x => aiE x.1 x.2.1 x.2.2.1) fun _ y _ h => aqY _ _ _ y h
def aBg := okT 215 (P3 (.sl tB) tI tI) tB agM aA6 [aDW, awH] Tryz.func215 (fun x => alS x.1 x.2.1 x.2.2.1) fun _ y _ h => awB _ _ _ y h
def aDX := okT 144 (P3 (.sl tB) tI tI) (P1 tI) afW aDH [aBg] Tryz.func144 (fun x => anS x.1 x.2.1 x.2.2.1) fun _ y _ h => ayQ _ _ _ y h
def auO := okT 101 (P1 (.pair tI (.pair (.sl tC) (.pair (.sl tL) (.pair tL (P4 (P3 tL tI tL) (.sl tB) tI tI)))))) (P1 tI) afY aEl [arC, arB, aGn, aDX] Tryz.func101 (fun x => aoA x.1) fun _ y _ h => az0 _ y h
def aII := okT 59 (P1 (.pair tI (.pair (.sl tC) (.pair (.sl tL) (.pair tL (P4 (P3 tL tI tL) (.sl tB) tI tI)))))) tB aiX aJf [auO] Tryz.func59 (fun x => awW x.1) fun _ y _ h => aEk _ y h
def aGo := okT 60 (P1 (.pair tI (.pair (.sl tC) (.pair (.sl tL) (.pair tL (P4 (P3 tL tI tL) (.sl tB) tI tI)))))) tB ae9 aG7 [auO] Tryz.func60 (fun x => ar5 x.1) fun _ y _ h => aBG _ y h
def ayY := okT 31 (P1 (P1 (P2 tI (.sl (.pair tI (.pair (.sl tC) (.pair (.sl tL) (.pair tL (P4 (P3 tL tI tL) (.sl tB) tI tI))))))))) (P2 tI .bool) afA aHr [aII, aGo] Tryz.func31 (fun x => asI x.1) fun _ y _ h => aBP _ y h
def ayZ := okT 17 (P1 (P2 tI (.sl (.pair tI (.pair (.sl tC) (.pair (.sl tL) (.pair tL (P4 (P3 tL tI tL) (.sl tB) tI tI)))))))) tB afB aHs [ayY] Tryz.func17 (fun x => aAc x.1) fun _ y _ h => aBR _ y h
def auP := okT 23 (P1 (P2 tI (.sl (.pair tI (.pair (.sl tC) (.pair (.sl tL) (.pair tL (P4 (P3 tL tI tL) (.sl tB) tI tI)))))))) (P1 tI) afZ aEp [ayZ] Tryz.func23 (fun x => au5 x.1) fun _ y _ h => aAe _ y h
def arD := okT 28 (P1 (.sl (.sl (.pair tI (.pair (.sl tC) (.pair (.sl tL) (.pair tL (P4 (P3 tL tI tL) (.sl tB) tI tI)))))))) (P1 (.sl (.pair tI (.pair (.sl tC) (.pair (.sl tL) (.pair tL (P4 (P3 tL tI tL) (.sl tB) tI tI))))))) ae1 aBQ [] Tryz.func28 (fun x => al8 x.1) fun _ y _ h => aw7 _ y h
def aIJ := okT 12 (P3 (P2 tI (.sl (.pair tI (.pair (.sl tC) (.pair (.sl tL) (.pair tL (P4 (P3 tL tI tL) (.sl tB) tI tI))))))) tI tI) (P2 (P2 tI (.sl (.pair tI (.pair (.sl tC) (.pair (.sl tL) (.pair tL (P4 (P3 tL tI tL) (.sl tB) tI tI))))))) tI) ag8 aJn [auP, ayY, arD] Tryz.func12 (fun x => aCX x.1 x.2.1 x.2.2.1) fun _ y _ h => aEo _ _ _ y h
def aDQ := okT 96 (P1 (P3 tL tI tL)) (P1 .bool) ah0 aDv [] Tryz.func96 (fun x => anL x.1) fun _ y _ h => ayB _ y h
end
set_option maxRecDepth 1000000
open Go Go.Vg Go.Proofs
noncomputable section
def aq5 := okT 206 (P3 tI tI tI) (P1 .bool) abZ aAO [] Tryz.func206 (fun x => alE x.1 x.2.1 x.2.2.1) fun _ y _ h => avW _ _ _ y h
def aq6 := okT 134 tB (P1 .bool) aa8 aAQ [] Tryz.func134 (fun x => alF x.1 x.2.1) fun _ y _ h => avZ _ _ y h
def ayU := okT 207 (P1 tS) (P1 .bool) ag6 ax0 [aq5, aq6] Tryz.func207 (fun x => ajC x.1) fun _ y _ h => atB _ y h
def aDL := okT 137 (P1 tC) (P1 .bool) afU aDn [aq5, ayU] Tryz.func137 (fun x => anH x.1) fun _ y _ h => ax1 _ y h
def ayV := okT 97 (P1 (.sl tC)) (P1 .bool) acK ayA [aDL] Tryz.func97 (fun x => ajH x.1) fun _ y _ h => atC _ y h
def aBb := okT 138 (P1 tL) (P1 .bool) aeV aAV [] Tryz.func138 (fun x => alI x.1) fun _ y _ h => av2 _ y h
def aDP := okT 98 (P1 (.pair tI (.pair (.sl tC) (.pair (.sl tL) (.pair tL (P4 (P3 tL tI tL) (.sl tB) tI tI)))))) (P1 .bool) aeW aDu [aBb] Tryz.func98 (fun x => anK x.1) fun _ y _ h => ax9 _ y h
def ayX := okT 139 (P3 tI tI tI) (P1 .bool) adU ayI [] Tryz.func139 (fun x => ajL x.1 x.2.1 x.2.2.1) fun _ y _ h => atK _ _ _ y h
def aoZ := okT 135 (P1 tL) (P1 tI) ab5 ayL [] Tryz.func135 (fun x => ajN x.1) fun _ y _ h => atL _ y h
def aBe := okT 99 (P1 (P3 tL tI tL)) (P1 .bool) ac0 aA3 [ayX, aoZ] Tryz.func99 (fun x => alQ x.1) fun _ y _ h => av9 _ y h
def arA := okT 94 (P1 tI) (P1 tI) ab0 aAY [] Tryz.func94 (fun x => alM x.1) fun _ y _ h => av5 _ y h
def ayW := okT 208 (P3 tB tI tI) (P1 .bool) ag7 ayE [] Tryz.func208 (fun x => ajI x.1 x.2.1 x.2.2.1) fun _ y _ h => atD _ _ _ y h
end
set_option maxRecDepth 1000000
open Go Go.Vg Go.Proofs
noncomputable section
def aBc := okT 140 (P3 (.sl tB) tI tI) (P2 tI .bool) agL aAZ [arA, ayW] Tryz.func140 (fun x => alN x.1 x.2.1 x.2.2.1) fun _ y _ h => av6 _ _ _ y h
def aBd := okT 100 (P3 (.sl tB) tI tI) (P1 .bool) acZ aA0 [aBc] Tryz.func100 (fun x => alP x.1 x.2.1 x.2.2.1) fun _ y _ h => av7 _ _ _ y h
def aq9 := okT 53 (P1 (.pair tI (.pair (.sl tC) (.pair (.sl tL) (.pair tL (P4 (P3 tL tI tL) (.sl tB) tI tI)))))) (P1 .bool) aeX aAW [aDQ, ayV, aDP, aBe, aBd] Tryz.func53 (fun x => alK x.1) fun _ y _ h => av3 _ y h
def aGl := okT 48 (P1 (.pair tI (.pair (.sl tC) (.pair (.sl tL) (.pair tL (P4 (P3 tL tI tL) (.sl tB) tI tI)))))) tB aj6 aFk [aq9] Tryz.func48 (fun x => aqR x.1) fun _ y _ h => aAX _ y h
def auL := okT 27 (P1 (.pair tI (.pair (.sl tC) (.pair (.sl tL) (.pair tL (P4 (P3 tL tI tL) (.sl tB) tI tI)))))) tB acT aDx [aq9] Tryz.func27 (fun x => anN x.1) fun _ y _ h => ayD _ y h
def anV := okT 25 (P1 (P2 tI (.sl (.pair tI (.pair (.sl tC) (.pair (.sl tL) (.pair tL (P4 (P3 tL tI tL) (.sl tB) tI tI)))))))) (P2 tI .bool) aeQ aDp [aGl, auL] Tryz.func25 (fun x => anI x.1) fun _ y _ h => ax3 _ y h
def aq7 := okT 29 (P1 (P2 tI (.sl (.pair tI (.pair (.sl tC) (.pair (.sl tL) (.pair tL (P4 (P3 tL tI tL) (.sl tB) tI tI)))))))) (P1 .bool) aeS aAS [anV] Tryz.func29 (fun x => aqQ x.1) fun _ y _ h => av0 _ y h
def aGk := okT 13 (P3 (P2 tI (.sl (.pair tI (.pair (.sl tC) (.pair (.sl tL) (.pair tL (P4 (P3 tL tI tL) (.sl tB) tI tI))))))) tI tI) (P2 (P2 tI (.sl (.pair tI (.pair (.sl tC) (.pair (.sl tL) (.pair tL (P4 (P3 tL tI tL) (.sl tB) tI tI))))))) tI) ahZ aFj [aq7, anV] Tryz.func13 (fun x => ax8 x.1 x.2.1 x.2.2.1) fun _ y _ h => aAT _ _ _ y h
def auN := okT 54 (P2 tL tL) (P1 .bool) adW aDE [] Tryz.func54 (fun x => anQ x.1 x.2.1) fun _ y _ h => ayN _ _ y h
def aGj := okT 57 (P2 tC tC) (P1 .bool) aj5 aFi [] Tryz.func57 (fun x => aqL x.1 x.2.1) fun _ y _ h => aAR _ _ y h
def aDU := okT 55 (P2 (P3 tL tI tL) (P3 tL tI tL)) (P1 .bool) ah3 aDB [auN] Tryz.func55 (fun x => anP x.1 x.2.1) fun _ y _ h => ayK _ _ y h
def aDS := okT 56 (P2 (.sl tB) (.sl tB)) (P1 .bool) ah2 aDy [] Tryz.func56 (fun x => anO x.1 x.2.1) fun _ y _ h => ayF _ _ y h
end
set_option maxRecDepth 1000000
open Go Go.Vg Go.Proofs
noncomputable section
def aDR := okT 30 (P2 (.pair tI (.pair (.sl tC) (.pair (.sl tL) (.pair tL (P4 (P3 tL tI tL) (.sl tB) tI tI))))) (.pair tI (.pair (.sl tC) (.pair (.sl tL) (.pair tL (P4 (P3 tL tI tL) (.sl tB) tI tI)))))) (P1 .bool) ah1 aDw [auN, aGj, aDU, aDS] Tryz.func30 (fun x => anM x.1 x.2.1) fun _ y _ h => ayC _ _ y h
def aDN := okT 11 (P2 (P2 tI (.sl (.pair tI (.pair (.sl tC) (.pair (.sl tL) (.pair tL (P4 (P3 tL tI tL) (.sl tB) tI tI))))))) (P2 tI (.sl (.pair tI (.pair (.sl tC) (.pair (.sl tL) (.pair tL (P4 (P3 tL tI tL) (.sl tB) tI tI)))))))) (P1 .bool) aeR aDr [aDR] Tryz.func11 (fun x => anJ x.1 x.2.1) fun _ y _ h => ax5 _ _ y h
def aGp := okT 9 (P2 (P2 tI (.sl (.pair tI (.pair (.sl tC) (.pair (.sl tL) (.pair tL (P4 (P3 tL tI tL) (.sl tB) tI tI))))))) (P2 tI (.sl (.pair tI (.pair (.sl tC) (.pair (.sl tL) (.pair tL (P4 (P3 tL tI tL) (.sl tB) tI tI)))))))) (P2 (P2 tI (.sl (.pair tI (.pair (.sl tC) (.pair (.sl tL) (.pair tL (P4 (P3 tL tI tL) (.sl tB) tI tI))))))) tI) agN aHt [ayZ, auP, arD] Tryz.func9 (fun x => aAd x.1 x.2.1) fun _ y _ h => aBT _ _ y h
def auK := okT 7 (P1 (P2 tI (.sl (.pair tI (.pair (.sl tC) (.pair (.sl tL) (.pair tL (P4 (P3 tL tI tL) (.sl tB) tI tI)))))))) tB aeT aDs [anV] Tryz.func7 (fun x => auB x.1) fun _ y _ h => ax6 _ y h
def aDO := okT 10 (P2 (P2 tI (.sl (.pair tI (.pair (.sl tC) (.pair (.sl tL) (.pair tL (P4 (P3 tL tI tL) (.sl tB) tI tI))))))) (P2 tI (.sl (.pair tI (.pair (.sl tC) (.pair (.sl tL) (.pair tL (P4 (P3 tL tI tL) (.sl tB) tI tI)))))))) (P2 (P2 tI (.sl (.pair tI (.pair (.sl tC) (.pair (.sl tL) (.pair tL (P4 (P3 tL tI tL) (.sl tB) tI tI))))))) tI) ahY aDt [auK, aq7] Tryz.func10 (fun x => auC x.1 x.2.1) fun _ y _ h => ax7 _ _ y h
def awF := okT 91 (P1 (.pair (.int .u8) (P4 (.sl (.int .u16)) (.sl (.pair (.int .u8) (.pair (.int .i16) (P4 (.int .i16) (.int .i16) (.int .u8) (.int .u8))))) .bool .bool))) (P1 tC) ad8 avY [aq6] Tryz.func91 (fun x => afI x.1) fun _ y _ h => aqK _ y h
def aBa := okT 92 (P1 (.pair (.int .u8) (P4 (.sl (.int .u16)) (.sl (.pair (.int .u8) (.pair (.int .i16) (P4 (.int .i16) (.int .i16) (.int .u8) (.int .u8))))) .bool .bool))) (P1 tC) agK aAP [] Tryz.func92 (fun x => ah9 x.1) fun _ y _ h => avX _ y h
def aDM := okT 49 (P1 (.pair (.int .u8) (P4 (.sl (.int .u16)) (.sl (.pair (.int .u8) (.pair (.int .i16) (P4 (.int .i16) (.int .i16) (.int .u8) (.int .u8))))) .bool .bool))) (P1 tC) aaK aDo [awF, aBa] Tryz.func49 (fun x => akC x.1) fun _ y _ h => ax2 _ y h
def aBf := okT 136 (P2 tL tI) (P1 tL) aeY aA5 [] Tryz.func136 (fun x => af4 x.1 x.2.1) fun _ y _ h => awA _ _ y h
def aDT := okT 93 (P3 (P4 (.sl (.int .u8)) (.int .u8) (.sl (.int .u16)) .bool) tL tI) (P1 (P3 tL tI tL)) adV aDA [aoZ, aBf] Tryz.func93 (fun x => ahQ x.1 x.2.1 x.2.2.1) fun _ y _ h => ayJ _ _ _ y h
def aDV := okT 50 (P3 (P4 (.sl (.int .u8)) (.int .u8) (.sl (.int .u16)) .bool) (.sl (.int .u8)) tI) (P1 (P3 tL tI tL)) aaG aDC [aDT] Tryz.func50 (fun x => ahR x.1 x.2.1 x.2.2.1) fun _ y _ h => ayM _ _ _ y h
def aGm := okT 95 (P1 (P3 (.int .u8) (.int .u8) (.sl (P2 (.int .u8) (.int .i16))))) (P1 tI) ae8 aFl [] Tryz.func95 (fun x => ayH x.1) fun _ y _ h => aA1 _ y h
end
set_option maxRecDepth 1000000
open Go Go.Vg Go.Proofs
noncomputable section
def auM := okT 52 (P1 (P3 (.int .u8) (.int .u8) (.sl (P2 (.int .u8) (.int .i16))))) (P1 tI) aaV aDz [] Tryz.func52 (fun x => auD x.1) fun _ y _ h => ayG _ y h
def awG := okT 51 (P1 (P3 (.int .u8) (.int .u8) (.sl (P2 (.int .u8) (.int .i16))))) (P1 (.sl tB)) aaZ av8 [arA, aGm, auM] Tryz.func51 (fun x => ad3 x.1) fun _ y _ h => aqT _ y h
def amK := okT 26 (P2 (.pair (.int .u8) (.pair (.int .u8) (.pair (.arr 4 (.pair (.int .u8) (.pair (.sl (.int .u16)) (.pair (.sl (.pair (.int .u8) (.pair (.int .i16) (.pair (.int .i16) (.pair (.int .i16) (.pair (.int .u8) (.pair (.int .u8) .unit))))))) (.pair .bool (.pair .bool .unit)))))) (P4 (.arr 4 (.arr 4 (.int .i16))) (.arr 4 (.int .i16)) (P4 (.sl (.int .u8)) (.int .u8) (.sl (.int .u16)) .bool) (P3 (.int .u8) (.int .u8) (.sl (P2 (.int .u8) (.int .i16)))))))) tI) (P1 (.pair tI (.pair (.sl tC) (.pair (.sl tL) (.pair tL (P4 (P3 tL tI tL) (.sl tB) tI tI)))))) aa4 av4 [aDM, aDV, awG, auM] Tryz.func26 (fun x => ad2 x.1 x.2.1) fun _ y _ h => aqS _ _ y h
def auJ := okT 8 (P2 (P3 (.int .u8) (.sl (.pair (.int .u8) (.pair (.int .u8) (.pair (.arr 4 (.pair (.int .u8) (.pair (.sl (.int .u16)) (.pair (.sl (.pair (.int .u8) (.pair (.int .i16) (.pair (.int .i16) (.pair (.int .i16) (.pair (.int .u8) (.pair (.int .u8) .unit))))))) (.pair .bool (.pair .bool .unit)))))) (P4 (.arr 4 (.arr 4 (.int .i16))) (.arr 4 (.int .i16)) (P4 (.sl (.int .u8)) (.int .u8) (.sl (.int .u16)) .bool) (P3 (.int .u8) (.int .u8) (.sl (P2 (.int .u8) (.int .i16))))))))) .bool) tI) (P1 (P2 tI (.sl (.pair tI (.pair (.sl tC) (.pair (.sl tL) (.pair tL (P4 (P3 tL tI tL) (.sl tB) tI tI)))))))) afV aDq [amK, auL] Tryz.func8 (fun x => ahM x.1 x.2.1) fun _ y _ h => ax4 _ _ y h
def aq8 := okT 5 (P1 (P3 (.int .u8) (.sl (.pair (.int .u8) (.pair (.int .u8) (.pair (.arr 4 (.pair (.int .u8) (.pair (.sl (.int .u16)) (.pair (.sl (.pair (.int .u8) (.pair (.int .i16) (.pair (.int .i16) (.pair (.int .i16) (.pair (.int .u8) (.pair (.int .u8) .unit))))))) (.pair .bool (.pair .bool .unit)))))) (P4 (.arr 4 (.arr 4 (.int .i16))) (.arr 4 (.int .i16)) (P4 (.sl (.int .u8)) (.int .u8) (.sl (.int .u16)) .bool) (P3 (.int .u8) (.int .u8) (.sl (P2 (.int .u8) (.int .i16))))))))) .bool)) (P1 (P2 tI (.sl (.pair tI (.pair (.sl tC) (.pair (.sl tL) (.pair tL (P4 (P3 tL tI tL) (.sl tB) tI tI)))))))) aeU aAU [auJ] Tryz.func5 (fun x => aiA x.1) fun _ y _ h => av1 _ y h
def aDY := okT 24 (P2 (P4 (.int .u8) (.int .u8) tI (.pair (.int .u8) (.pair (.int .u8) (.pair (.arr 4 (.pair (.int .u8) (.pair (.sl (.int .u16)) (.pair (.sl (.pair (.int .u8) (.pair (.int .i16) (.pair (.int .i16) (.pair (.int .i16) (.pair (.int .u8) (.pair (.int .u8) .unit))))))) (.pair .bool (.pair .bool .unit)))))) (P4 (.arr 4 (.arr 4 (.int .i16))) (.arr 4 (.int .i16)) (P4 (.sl (.int .u8)) (.int .u8) (.sl (.int .u16)) .bool) (P3 (.int .u8) (.int .u8) (.sl (P2 (.int .u8) (.int .i16))))))))) (P2 tI (.sl (.pair tI (.pair (.sl tC) (.pair (.sl tL) (.pair tL (P4 (P3 tL tI tL) (.sl tB) tI tI)))))))) (P1 (P2 tI (.sl (.pair tI (.pair (.sl tC) (.pair (.sl tL) (.pair tL (P4 (P3 tL tI tL) (.sl tB) tI tI)))))))) afX aD9 [amK] Tryz.func24 (fun x => afT x.1 x.2.1) fun _ y _ h => ay8 _ _ y h
def aBh := okT 6 (P2 (P3 (.int .u8) (.sl (.pair (.int .u8) (.pair (.int .u8) (.pair (.arr 4 (.pair (.int .u8) (.pair (.sl (.int .u16)) (.pair (.sl (.pair (.int .u8) (.pair (.int .i16) (.pair (.int .i16) (.pair (.int .i16) (.pair (.int .u8) (.pair (.int .u8) .unit))))))) (.pair .bool (.pair .bool .unit)))))) (P4 (.arr 4 (.arr 4 (.int .i16))) (.arr 4 (.int .i16)) (P4 (.sl (.int .u8)) (.int .u8) (.sl (.int .u16)) .bool) (P3 (.int .u8) (.int .u8) (.sl (P2 (.int .u8) (.int .i16))))))))) .bool) (.arr 2 (.pair (.int .u8) (.pair (.int .u8) (.pair (.int .i64) (.pair (.pair (.int .u8) (.pair (.int .u8) (.pair (.arr 4 (.pair (.int .u8) (.pair (.sl (.int .u16)) (.pair (.sl (.pair (.int .u8) (.pair (.int .i16) (.pair (.int .i16) (.pair (.int .i16) (.pair (.int .u8) (.pair (.int .u8) .unit))))))) (.pair .bool (.pair .bool .unit)))))) (.pair (.arr 4 (.arr 4 (.int .i16))) (.pair (.arr 4 (.int .i16)) (.pair (.pair (.sl (.int .u8)) (.pair (.int .u8) (.pair (.sl (.int .u16)) (.pair .bool .unit)))) (.pair (.pair (.int .u8) (.pair (.int .u8) (.pair (.sl (.pair (.int .u8) (.pair (.int .i16) .unit))) .unit))) .unit))))))) .unit)))))) (P1 (.arr 3 (.pair (.int .i64) (.pair (.sl (.pair (.int .i64) (.pair (.sl (.pair (.int .i64) (.pair (.sl (.int .i64)) (.pair (.sl (.pair (.int .i64) (.pair (.int .i64) (.pair (.int .i64) (.pair (.int .i64) (.pair (.int .i64) (.pair (.int .i64) .unit))))))) .unit)))) (.pair (.sl (.sl (.int .i64))) (.pair (.sl (.int .i64)) (.pair (.pair (.sl (.int .i64)) (.pair (.int .i64) (.pair (.sl (.int .i64)) .unit))) (.pair (.sl (.pair (.int .i64) (.pair (.int .i64) .unit))) (.pair (.int .i64) (.pair (.int .i64) .unit))))))))) .unit)))) aiW aBo [aq8, aDY] Tryz.func6 (fun x => agE x.1 x.2.1) fun _ y _ h => awK _ _ y h
def o_ChainJoins := okT 3 (.pair (P3 (.int .u8) (.sl (.pair (.int .u8) (.pair (.int .u8) (.pair (.arr 4 (.pair (.int .u8) (.pair (.sl (.int .u16)) (.pair (.sl (.pair (.int .u8) (.pair (.int .i16) (.pair (.int .i16) (.pair (.int .i16) (.pair (.int .u8) (.pair (.int .u8) .unit))))))) (.pair .bool (.pair .bool .unit)))))) (P4 (.arr 4 (.arr 4 (.int .i16))) (.arr 4 (.int .i16)) (P4 (.sl (.int .u8)) (.int .u8) (.sl (.int .u16)) .bool) (P3 (.int .u8) (.int .u8) (.sl (P2 (.int .u8) (.int .i16))))))))) .bool) (P4 (P3 (.int .u8) (.sl (.pair (.int .u8) (.pair (.int .u8) (.pair (.arr 4 (.pair (.int .u8) (.pair (.sl (.int .u16)) (.pair (.sl (.pair (.int .u8) (.pair (.int .i16) (.pair (.int .i16) (.pair (.int .i16) (.pair (.int .u8) (.pair (.int .u8) .unit))))))) (.pair .bool (.pair .bool .unit)))))) (P4 (.arr 4 (.arr 4 (.int .i16))) (.arr 4 (.int .i16)) (P4 (.sl (.int .u8)) (.int .u8) (.sl (.int .u16)) .bool) (P3 (.int .u8) (.int .u8) (.sl (P2 (.int .u8) (.int .i16))))))))) .bool) (.arr 2 (.pair (.int .u8) (.pair (.int .u8) (.pair (.int .i64) (.pair (.pair (.int .u8) (.pair (.int .u8) (.pair (.arr 4 (.pair (.int .u8) (.pair (.sl (.int .u16)) (.pair (.sl (.pair (.int .u8) (.pair (.int .i16) (.pair (.int .i16) (.pair (.int .i16) (.pair (.int .u8) (.pair (.int .u8) .unit))))))) (.pair .bool (.pair .bool .unit)))))) (.pair (.arr 4 (.arr 4 (.int .i16))) (.pair (.arr 4 (.int .i16)) (.pair (.pair (.sl (.int .u8)) (.pair (.int .u8) (.pair (.sl (.int .u16)) (.pair .bool .unit)))) (.pair (.pair (.int .u8) (.pair (.int .u8) (.pair (.sl (.pair (.int .u8) (.pair (.int .i16) .unit))) .unit))) .unit))))))) .unit))))) tI tI)) (P1 .bool) aj7 aAx [aIJ, aGk, aDN, aGp, aDO, auK, auJ, aGi, aq8, aBh] Tryz.func3 (fun x => ag9 x.1 x.2.1 x.2.2.1 x.2.2.2.1 x.2.2.2.2.1) fun _ y hw h => atW _ _ _ _ _ (aNa hw) y h
end
end Go.Vs
