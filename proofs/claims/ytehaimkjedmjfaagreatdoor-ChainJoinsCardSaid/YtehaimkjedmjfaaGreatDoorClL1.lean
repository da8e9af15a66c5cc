/-
  Trees of what the functions compute, and their laws. Own work; no condition.
-/
import Derived.Test.YtehaimkjedmjfaaGreatDoorClX1
import Derived.KernelRfl
import Derived.Test.YtehaimkjedmjfaaGreatDoorProg
set_option linter.unusedVariables false
set_option linter.unusedSimpArgs false
namespace Go.Vs
open Go Go.Vg Go.Proofs
theorem aDK : (aLH .unit (.pair .bool .unit) asW).ok Tryz.prog Gt 4 := by
 refine aLq (by kernel_rfl) (fun w ok vs x y hG hok hvs hy => ?_)
 have hy' : y = (true, ()) := (Option.some.inj hy).symm
 subst hy'
 exact Go.Vg.top_at.2 w ok vs x hG.1 hok hvs rfl
set_option maxRecDepth 100000
open Go Go.Vg Go.Proofs
noncomputable section
def avS (s1 : List xY) (s2 : List xY) (i : (Int) × Unit) : TT wi :=
 .ite (decide (i.1 < len s1))
 (.need (inb i.1 (len s1)) <| .need (inb i.1 (len s2)) <| .ite (!(match (gi s1 i.1 (0, 0, ())).1 == (gi s2 i.1 (0, 0, ())).1 with | true => (match (gi s1 i.1 (0, 0, ())).2.1 == (gi s2 i.1 (0, 0, ())).2.1 with | true => true | false => false) | false => false))
 (.ok (.inr ((false, ()))))
 (.tt <| .lt (w64 (i.1 + 1) : Int) fun z => .xD (xE z (len s1) s1 s2) <| .tr <| .ok (.inl ((z, ())))))
 (.ok (.inr ((true, ()))))
def aE1 (s1 : List xY) (s2 : List xY) : TT wk :=
 .ite (len s1 != len s2)
 (.ok ((false, ())))
 (.loop 0 (.tt <| .xD (xE (0 : Int) (len s1) s1 s2) <| .tr <| .ok ((0, ()))) (avS s1 s2))
def aEc : LTab := []
def an0 (n : Int) (low : Int) (high : Int) : TT wk :=
 .ite (decide (low ≤ n))
 (.ok ((decide (n ≤ high), ())))
 (.ok ((false, ())))
def aBw : LTab := [(214, 58, 5120, ⟨0, (Int) × (Int) × Unit, .dat (.s 8) xX <| .dat (.s 3) xX <| .nil, [7, 6, 2], [], 0⟩)]
def ao5 (numbers : List Int) (i : (Int) × (Int) × Unit) : TT (wK ⊕ ww) :=
 .ite (decide (i.1 < len numbers))
 (.need (inb i.1 (len numbers)) <| .tt <| .lt (w64 (i.1 + 1) : Int) fun z => .lt (w64 (i.2.1 * gi numbers i.1 0) : Int) fun z1 => .xD (xF z1 z (len numbers) numbers (0 : Int)) <| .tr <| .ok (.inl ((z, z1, ()))))
 (.ok (.inr ((i.2.1, ()))))
def al4 (numbers : List Int) : TT ww :=
 .loop 0 (.tt <| .xD (xF (1 : Int) (0 : Int) (len numbers) numbers (0 : Int)) <| .tr <| .ok ((0, 1, ()))) (ao5 numbers)
def aGR : LTab := [(143, 58, 17408, ⟨0, (Int) × Unit, .dat (.s 21) xX <| .nil, [20, 19, 1], [0], 0⟩), (143, 250, 38912, ⟨1, (Int) × Unit, .dat (.s 48) xX <| .nil, [47, 46], [0], 0⟩)]
def an1 (g : List Int × Int × List Int × Unit) (y : Bool × Unit) (y1 : Bool × Unit) (i : Int × Unit) (y3 : Int × Unit) (i1 : (Int) × Unit) : TT (wv ⊕ (wv ⊕ ww)) :=
 .ite (decide (i1.1 < len g.2.2.1))
 (.need (inb i1.1 (len g.2.2.1)) <| .call (aeZ (gi g.2.2.1 i1.1 0, 0, 65535, ())) Dd1 fun y4 =>
 .ite (!y4.1)
 (.ok (.inr (.inr ((100, ())))))
 (.tt <| .lt (w64 (i1.1 + 1) : Int) fun z1 => .xD (xH z1 (len g.2.2.1) g.2.2.1) <| .xD (xC (xE 79 g.1 g.2.1 g.2.2.1) True) <| .ok (.inl ((z1, ())))))
 (.ok (.inr (.inr ((0, ())))))
def akJ (g : List Int × Int × List Int × Unit) (y : Bool × Unit) (y1 : Bool × Unit) (i : (Int) × Unit) : TT (wv ⊕ ww) :=
 .ite (decide (i.1 < len g.1))
 (.need (inb i.1 (len g.1)) <| .call (aeZ (gi g.1 i.1 0, 2, 9, ())) Dd1 fun y2 =>
 .ite (!y2.1)
 (.ok (.inr ((100, ()))))
 (.tt <| .lt (w64 (i.1 + 1) : Int) fun z => .xD (xI z (len g.1) g.1 <| wc ∧ True) <| .xD (xC (xE 79 g.1 g.2.1 g.2.2.1) True) <| .ok (.inl ((z, ())))))
 (.ite (decide (len g.2.2.1 > 4096))
 (.ok (.inr ((100, ()))))
 (.call (adJ (g.1, ())) Dd6 fun y3 =>
 .ite (len g.2.2.1 != w64 (y3.1 * g.2.1))
 (.ok (.inr ((100, ()))))
 (.loop 1 (.tt <| .xD (xH (0 : Int) (len g.2.2.1) g.2.2.1) <| .xD (xC (xE 79 g.1 g.2.1 g.2.2.1) True) <| .ok ((0, ()))) (an1 g y y1 i y3))))
def arO (g : List Int × Int × List Int × Unit) : TT ww :=
 .call (aeZ (len g.1, 1, 4, ())) Dd1 fun y =>
 .ite (!y.1)
 (.ok ((100, ())))
 (.call (aeZ (g.2.1, 1, 4, ())) Dd1 fun y1 =>
 .ite (!y1.1)
 (.ok ((100, ())))
 (.loop 0 (.tt <| .xD (xI (0 : Int) (len g.1) g.1 <| wc ∧ True) <| .xD (xC (xE 79 g.1 g.2.1 g.2.2.1) True) <| .ok ((0, ()))) (akJ g y y1)))
def aDG : LTab := []
def abI (code : Int) : TT wE :=
 .ite (code == 3)
 (.ite (code == 3)
 (.ok ((2, true, ())))
 (.ite (code == 10)
 (.ok ((3, true, ())))
 (.ok ((0, false, ())))))
 (.ite (code == 4)
 (.ite (code == 4)
 (.ok ((2, true, ())))
 (.ite (code == 10)
 (.ok ((3, true, ())))
 (.ok ((0, false, ())))))
 (.ite (code == 5)
 (.ite (code == 5)
 (.ok ((2, true, ())))
 (.ite (code == 10)
 (.ok ((3, true, ())))
 (.ok ((0, false, ())))))
 (.ite (code == 6)
 (.ite (code == 6)
 (.ok ((2, true, ())))
 (.ite (code == 10)
 (.ok ((3, true, ())))
 (.ok ((0, false, ())))))
 (.ite (code == 7)
 (.ok ((2, true, ())))
 (.ite (code == 10)
 (.ok ((3, true, ())))
 (.ok ((0, false, ()))))))))
def anR (code : Int) : TT wE :=
 .ite (code == 1)
 (.ite (code == 1)
  (.ok ((0, true, ())))
  (.ite (code == 8)
   (.ite (code == 8)
    (.ok ((1, true, ())))
    (abI code))
   (.ite (code == 9)
    (.ite (code == 9)
     (.ok ((1, true, ())))
     (abI code))
    (.ite (code == 12)
     (.ok ((1, true, ())))
     (abI code)))))
 (.ite (code == 2)
  (.ite (code == 2)
   (.ok ((0, true, ())))
   (.ite (code == 8)
    (.ite (code == 8)
     (.ok ((1, true, ())))
     (abI code))
    (.ite (code == 9)
     (.ite (code == 9)
      (.ok ((1, true, ())))
      (abI code))
     (.ite (code == 12)
      (.ok ((1, true, ())))
      (abI code)))))
  (.ite (code == 11)
   (.ok ((0, true, ())))
   (.ite (code == 8)
    (.ite (code == 8)
     (.ok ((1, true, ())))
     (abI code))
    (.ite (code == 9)
     (.ite (code == 9)
      (.ok ((1, true, ())))
      (abI code))
     (.ite (code == 12)
      (.ok ((1, true, ())))
      (abI code))))))
def awC : LTab := []
def aiE (op : Int × Int × Unit) (in0 : Int) (length : Int) : TT wk :=
 .ite (op.1 == 1)
 (.ite (decide (0 ≤ op.2.1))
 (.ok ((decide (op.2.1 ≤ w64 (in0 - 1)), ())))
 (.ok ((false, ()))))
 (.ite (op.1 == 2)
 (.ite (decide (-1000000000 ≤ op.2.1))
 (.ok ((decide (op.2.1 ≤ 1000000000), ())))
 (.ok ((false, ()))))
 (.ite (op.1 == 11)
 (.ite (decide (0 ≤ op.2.1))
 (.ok ((decide (op.2.1 ≤ w64 (length - 1)), ())))
 (.ok ((false, ()))))
 (.ite (decide (0 ≤ op.2.1))
 (.ok ((decide (op.2.1 ≤ 0), ())))
 (.ok ((false, ()))))))
def aA6 : LTab := [(215, 506, 30720, ⟨0, (Int) × (Int) × (Int) × Unit, .dat (.s 38) xX <| .dat (.s 9) xX <| .dat (.c 0 0) xX <| .nil, [37, 36, 8, 7, 6, 1, 2], [1, 0], 0⟩)]
def ad4 : TT (wG ⊕ xY) :=
 .triv (asT Int (-9223372036854775808) ≤ 120 ∧ asT Int 120 ≤ 9223372036854775807) zd <| .triv (asT Int (-9223372036854775808) ≤ 120 ∧ asT Int 120 ≤ 9223372036854775807) zd <| .tt <| .triv (Exit.normal = Exit.normal ∨ Exit.normal = Exit.ret) (Or.inl rfl) <| .ok (.inr ((0, 120, ())))
def af6 : TT (wG ⊕ xY) :=
 .tt <| .tt <| .triv (asT Int (-9223372036854775808) ≤ 120 ∧ asT Int 120 ≤ 9223372036854775807) zd <| .triv (asT Int (-9223372036854775808) ≤ 120 ∧ asT Int 120 ≤ 9223372036854775807) zd <| .tt <| .triv (Exit.normal = Exit.normal ∨ Exit.normal = Exit.ret) (Or.inl rfl) <| .ok (.inr ((0, 120, ())))
def aoY (p : List xY) (in0 : Int) (out0 : Int) (i : (Int) × (Int) × (Int) × Unit) : TT (wG ⊕ xY) :=
 .ite (decide (i.1 < len p))
 (.need (inb i.1 (len p)) <| .call (ah4 ((gi p i.1 (0, 0, ())).1, ())) aOd fun y =>
  .ite (y.2.1)
  (.ite (decide (y.1 ≤ i.2.1))
   (.call (ad9 (((gi p i.1 (0, 0, ())).1, (gi p i.1 (0, 0, ())).2.1, ()), in0, i.2.1, ())) Dd1 fun y1 =>
    .tt <| .tt <| .ite (!y1.1)
    (ad4)
    (.tt <| .tt <| .ite (!decide (w64 (i.2.1 + w64 (1 - y.1)) ≤ 16))
     (ad4)
     (.tt <| .lt (w64 (i.1 + 1) : Int) fun z => .lt (w64 (i.2.1 + w64 (1 - y.1)) : Int) fun z1 => .lt (if z1 > i.2.2.1 then z1 else i.2.2.1 : Int) fun z2 => .xD (xK z1 z (len p) p <| (xL (305 : FuncId) <| True ∧ True) ∧ wb ∧ wc ∧ xM in0 out0) <| .xD (xC (xM 51 (0 : Int)) <| xC (xM 3 z2) True) <| .ok (.inl ((z, z1, z2, ()))))))
   (af6))
  (af6))
 (.tt <| .tt <| .ite (!i.2.1 == out0)
  (ad4)
  (.tt <| .triv (Exit.normal = Exit.normal ∨ Exit.normal = Exit.ret) (Or.inl rfl) <| .ok (.inr ((i.2.2.1, 0, ())))))
def adA : TT xY :=
 .tt <| .tt <| .triv (asT Int (-9223372036854775808) ≤ 120 ∧ asT Int 120 ≤ 9223372036854775807) zd <| .triv (asT Int (-9223372036854775808) ≤ 120 ∧ asT Int 120 ≤ 9223372036854775807) zd <| .tt <| .triv (Exit.normal = Exit.normal ∨ Exit.normal = Exit.ret) (Or.inl rfl) <| .ok ((0, 120, ()))
def alS (p : List xY) (in0 : Int) (out0 : Int) : TT xY :=
 .ite (decide (1 ≤ in0))
 (.ite (decide (in0 ≤ 4))
  (.ite (decide (1 ≤ out0))
   (.ite (decide (out0 ≤ 4))
    (.tt <| .tt <| .ite (!decide (len p ≤ 40))
     (.triv (asT Int (-9223372036854775808) ≤ 120 ∧ asT Int 120 ≤ 9223372036854775807) zd <| .triv (asT Int (-9223372036854775808) ≤ 120 ∧ asT Int 120 ≤ 9223372036854775807) zd <| .tt <| .triv (Exit.normal = Exit.normal ∨ Exit.normal = Exit.ret) (Or.inl rfl) <| .ok ((0, 120, ())))
     (.loop 0 (.tt <| .xD (xK (0 : Int) (0 : Int) (len p) p <| (xL (305 : FuncId) <| True ∧ True) ∧ wb ∧ wc ∧ xM in0 out0) <| .xD (xC (xM 51 (0 : Int)) <| xC (xM 3 (0 : Int)) True) <| .ok ((0, 0, 0, ()))) (aoY p in0 out0)))
    (adA))
   (adA))
  (adA))
 (adA)
def aDH : LTab := []
def anS (p : List xY) (in0 : Int) (out0 : Int) : TT ww :=
 .call (agM (p, in0, out0, ())) aOr fun y =>
 .ok ((y.2.1, ()))
def aJe : LTab := []
def awV (n : Int) : TT wk :=
 .ite (decide (n < -1000000000))
 (.ok ((true, ())))
 (.ok ((decide (n > 1000000000), ())))
def ar4 : LTab := [(302, 26, 17408, ⟨0, (Int) × Unit, .dat (.s 8) xX <| .nil, [7, 0, 1], [], 0⟩)]
def afE (l : List wa) (i : (Int) × Unit) : TT wi :=
 .ite (decide (i.1 < len l))
 (.need (inb i.1 (len l)) <| .tt <| .tt <| .call (am2 (((gi l i.1 (0, [], [], ())).1, (gi l i.1 (0, [], [], ())).2.1, (gi l i.1 (0, [], [], ())).2.2.1, ()), ())) Dd6 fun y =>
 .ite (y.1 != 0)
 (.ok (.inr ((!decide (i.1 ≥ 0), ()))))
 (.tt <| .lt (w64 (i.1 + 1) : Int) fun z => .xD (xI z (len l) l <| (xL (210 : FuncId) <| True ∧ True) ∧ True) <| .tr <| .ok (.inl ((z, ())))))
 (.ok (.inr ((!decide (asT Int (-1) ≥ 0), ()))))
def agH (l : List wa) : TT wk :=
 .ite (decide (len l < 1))
 (.ok ((false, ())))
 (.ite (decide (len l > 4))
 (.ok ((false, ())))
 (.tt <| .tt <| .tt <| .tt <| .loop 0 (.tt <| .xD (xI (0 : Int) (len l) l <| (xL (210 : FuncId) <| True ∧ True) ∧ True) <| .tr <| .ok ((0, ()))) (afE l)))
def ar3 : LTab := [(142, 250, 30720, ⟨0, (Int) × Unit, .dat (.s 35) xX <| .nil, [34, 33, 5, 1], [], 0⟩), (303, 26, 48128, ⟨1, (Int) × Unit, .dat (.s 8) xX <| .nil, [7, 0, 1], [], 0⟩), (303, 26, 39936, ⟨2, (Int) × Unit, .dat (.s 8) xX <| .nil, [7, 0, 1], [], 0⟩)]
def abL (rows : List (List Int)) (offset : List Int) (i : Int × Unit) (i1 : (Int) × Unit) : TT wO :=
 .ite (decide (i1.1 < len (gi rows i.1 [])))
 (.need (inb i1.1 (len (gi rows i.1 []))) <| .call (am0 (gi (gi rows i.1 []) i1.1 0, ())) Dd1 fun y =>
 .ite (y.1)
 (.ite (decide (i1.1 ≥ 0))
 (.ok (.inr (.inr ((false, ())))))
 (.tt <| .lt (w64 (i.1 + 1) : Int) fun z => .xD (xF z (len rows) rows (len (gi rows 0 [])) offset) <| .tr <| .ok (.inr (.inl ((z, ()))))))
 (.tt <| .lt (w64 (i1.1 + 1) : Int) fun z1 => .xD (xI z1 (len (gi rows i.1 [])) (gi rows i.1 []) <| (xL (212 : FuncId) <| True ∧ True) ∧ True) <| .tr <| .ok (.inl ((z1, ())))))
 (.tt <| .lt (w64 (i.1 + 1) : Int) fun z2 => .xD (xF z2 (len rows) rows (len (gi rows 0 [])) offset) <| .tr <| .ok (.inr (.inl ((z2, ())))))
def afD (rows : List (List Int)) (offset : List Int) (i : Int × Unit) (i2 : (Int) × Unit) : TT wO :=
 .ite (decide (i2.1 < len offset))
 (.need (inb i2.1 (len offset)) <| .call (am0 (gi offset i2.1 0, ())) Dd1 fun y1 =>
 .ite (y1.1)
 (.ok (.inr (.inr ((!decide (i2.1 ≥ 0), ())))))
 (.tt <| .lt (w64 (i2.1 + 1) : Int) fun z3 => .xD (xI z3 (len offset) offset <| (xL (212 : FuncId) <| True ∧ True) ∧ True) <| .tr <| .ok (.inl ((z3, ())))))
 (.ok (.inr (.inr ((!decide (asT Int (-1) ≥ 0), ())))))
def adG (rows : List (List Int)) (offset : List Int) (i : (Int) × Unit) : TT wi :=
 .ite (decide (i.1 < len rows))
 (.need (inb i.1 (len rows)) <| .ite (len (gi rows i.1 []) != len (gi rows 0 []))
 (.ok (.inr ((false, ()))))
 (.tt <| .tt <| .tt <| .tt <| .loop 1 (.tt <| .xD (xI (0 : Int) (len (gi rows i.1 [])) (gi rows i.1 []) <| (xL (212 : FuncId) <| True ∧ True) ∧ True) <| .tr <| .ok ((0, ()))) (abL rows offset i)))
 (.tt <| .tt <| .tt <| .tt <| .loop 2 (.tt <| .xD (xI (0 : Int) (len offset) offset <| (xL (212 : FuncId) <| True ∧ True) ∧ True) <| .tr <| .ok ((0, ()))) (afD rows offset i))
def agG (rows : List (List Int)) (offset : List Int) : TT wk :=
 .ite (decide (len rows < 1))
 (.ok ((false, ())))
 (.ite (decide (len rows > 4))
 (.ok ((false, ())))
 (.ite (len offset != len rows)
 (.ok ((false, ())))
 (.need (asT Int 0 ≤ 0 ∧ 0 < len rows) <| .ite (decide (len (gi rows 0 []) < 1))
 (.ok ((false, ())))
 (.ite (decide (len (gi rows 0 []) > 4))
 (.ok ((false, ())))
 (.loop 0 (.tt <| .xD (xF (0 : Int) (len rows) rows (len (gi rows 0 [])) offset) <| .tr <| .ok ((0, ()))) (adG rows offset))))))
def aEl : LTab := []
def aiR (x : Int × List wa × List (List Int) × List Int × wg × List xY × Int × Int × Unit) : TT ww :=
 .ite (len x.2.2.2.2.2.1 == 0)
 (.ite (x.2.2.2.2.2.2.1 == 0)
 (.ite (x.1 == 1)
 (.ite (len x.2.2.2.1 == 0)
 (.ok ((130, ())))
 (.ok ((130, ()))))
 (.ite (x.1 == 2)
 (.ite (len x.2.1 == 0)
 (.ok ((130, ())))
 (.ok ((130, ()))))
 (.ite (x.1 == 3)
 (.ite (len x.2.1 == 0)
 (.ite (len x.2.2.2.1 == 0)
 (.ite (x.2.2.2.2.2.2.2.1 == 0)
 (.call (ah5 ((x.2.2.2.2.1.1, x.2.2.2.2.1.2.1, x.2.2.2.2.1.2.2.1, ()), ())) Dd6 fun y6 =>
 .ite (!y6.1 == 0)
 (.ok ((130, ())))
 (.ok ((0, ()))))
 (.ok ((130, ()))))
 (.ok ((130, ()))))
 (.ok ((130, ()))))
 (.ite (x.1 == 4)
 (.ite (len x.2.1 == 0)
 (.ite (len x.2.2.2.1 == 0)
 (.ok ((130, ())))
 (.ok ((130, ()))))
 (.ok ((130, ()))))
 (.ok ((130, ())))))))
 (.ite (x.1 == 1)
 (.ite (len x.2.2.2.1 == 0)
 (.ok ((130, ())))
 (.ok ((130, ()))))
 (.ite (x.1 == 2)
 (.ite (len x.2.1 == 0)
 (.ok ((130, ())))
 (.ok ((130, ()))))
 (.ite (x.1 == 3)
 (.ite (len x.2.1 == 0)
 (.ite (len x.2.2.2.1 == 0)
 (.ok ((130, ())))
 (.ok ((130, ()))))
 (.ok ((130, ()))))
 (.ite (x.1 == 4)
 (.ite (len x.2.1 == 0)
 (.ite (len x.2.2.2.1 == 0)
 (.ok ((130, ())))
 (.ok ((130, ()))))
 (.ok ((130, ()))))
 (.ok ((130, ()))))))))
 (.ite (x.1 == 1)
 (.ite (len x.2.2.2.1 == 0)
 (.ok ((130, ())))
 (.ok ((130, ()))))
 (.ite (x.1 == 2)
 (.ite (len x.2.1 == 0)
 (.ok ((130, ())))
 (.ok ((130, ()))))
 (.ite (x.1 == 3)
 (.ite (len x.2.1 == 0)
 (.ite (len x.2.2.2.1 == 0)
 (.ok ((130, ())))
 (.ok ((130, ()))))
 (.ok ((130, ()))))
 (.ite (x.1 == 4)
 (.ite (len x.2.1 == 0)
 (.ite (len x.2.2.2.1 == 0)
 (.ok ((130, ())))
 (.ok ((130, ()))))
 (.ok ((130, ()))))
 (.ok ((130, ())))))))
def aiQ (x : Int × List wa × List (List Int) × List Int × wg × List xY × Int × Int × Unit) : TT ww :=
 .ite (len x.2.2.2.2.2.1 == 0)
 (.ite (x.2.2.2.2.2.2.1 == 0)
 (.ite (x.1 == 1)
 (.ok ((130, ())))
 (.ite (x.1 == 2)
 (.ite (len x.2.1 == 0)
 (.ok ((130, ())))
 (.ok ((130, ()))))
 (.ite (x.1 == 3)
 (.ite (len x.2.1 == 0)
 (.ok ((130, ())))
 (.ok ((130, ()))))
 (.ite (x.1 == 4)
 (.ite (len x.2.1 == 0)
 (.ok ((130, ())))
 (.ok ((130, ()))))
 (.ok ((130, ())))))))
 (.ite (x.1 == 1)
 (.ok ((130, ())))
 (.ite (x.1 == 2)
 (.ite (len x.2.1 == 0)
 (.ok ((130, ())))
 (.ok ((130, ()))))
 (.ite (x.1 == 3)
 (.ite (len x.2.1 == 0)
 (.ok ((130, ())))
 (.ok ((130, ()))))
 (.ite (x.1 == 4)
 (.ite (len x.2.1 == 0)
 (.ok ((130, ())))
 (.ok ((130, ()))))
 (.ok ((130, ()))))))))
 (.ite (x.1 == 1)
 (.ok ((130, ())))
 (.ite (x.1 == 2)
 (.ite (len x.2.1 == 0)
 (.ok ((130, ())))
 (.ok ((130, ()))))
 (.ite (x.1 == 3)
 (.ite (len x.2.1 == 0)
 (.ok ((130, ())))
 (.ok ((130, ()))))
 (.ite (x.1 == 4)
 (.ite (len x.2.1 == 0)
 (.ok ((130, ())))
 (.ok ((130, ()))))
 (.ok ((130, ())))))))
def aiP (x : Int × List wa × List (List Int) × List Int × wg × List xY × Int × Int × Unit) : TT ww :=
 .ite (x.1 == 1)
 (.ite (len x.2.2.2.1 == 0)
 (.ite (len x.2.2.2.2.1.2.2.1 == 0)
 (.ok ((130, ())))
 (.ok ((130, ()))))
 (.ok ((130, ()))))
 (.ite (x.1 == 2)
 (.ite (len x.2.1 == 0)
 (.ite (len x.2.2.2.2.1.2.2.1 == 0)
 (.ok ((130, ())))
 (.ok ((130, ()))))
 (.ok ((130, ()))))
 (.ite (x.1 == 3)
 (.ite (len x.2.1 == 0)
 (.ite (len x.2.2.2.1 == 0)
 (.ok ((130, ())))
 (.ok ((130, ()))))
 (.ok ((130, ()))))
 (.ite (x.1 == 4)
 (.ite (len x.2.1 == 0)
 (.ite (len x.2.2.2.1 == 0)
 (.ite (len x.2.2.2.2.1.2.2.1 == 0)
 (.call (afW (x.2.2.2.2.2.1, x.2.2.2.2.2.2.1, x.2.2.2.2.2.2.2.1, ())) Dd6 fun y4 =>
 .ite (!y4.1 == 0)
 (.ok ((130, ())))
 (.ok ((0, ()))))
 (.ok ((130, ()))))
 (.ok ((130, ()))))
 (.ok ((130, ()))))
 (.ok ((130, ()))))))
def aiO (x : Int × List wa × List (List Int) × List Int × wg × List xY × Int × Int × Unit) : TT ww :=
 .ite (x.1 == 1)
 (.ok ((130, ())))
 (.ite (x.1 == 2)
 (.ite (len x.2.1 == 0)
 (.ite (len x.2.2.2.2.1.2.2.1 == 0)
 (.ok ((130, ())))
 (.ok ((130, ()))))
 (.ok ((130, ()))))
 (.ite (x.1 == 3)
 (.ite (len x.2.1 == 0)
 (.ok ((130, ())))
 (.ok ((130, ()))))
 (.ite (x.1 == 4)
 (.ite (len x.2.1 == 0)
 (.ok ((130, ())))
 (.ok ((130, ()))))
 (.ok ((130, ()))))))
def aoA (x : Int × List wa × List (List Int) × List Int × wg × List xY × Int × Int × Unit) : TT ww :=
 .ite (len x.2.2.1 == 0)
 (.ite (len x.2.2.2.2.1.1 == 0)
  (.ite (x.2.2.2.2.1.2.1 == 0)
   (.ite (len x.2.2.2.2.2.1 == 0)
    (.ite (x.2.2.2.2.2.2.1 == 0)
     (.ite (x.1 == 1)
      (.ite (len x.2.2.2.1 == 0)
       (.ite (len x.2.2.2.2.1.2.2.1 == 0)
        (.ite (x.2.2.2.2.2.2.2.1 == 0)
         (.call (ac1 (x.2.1, ())) Dd1 fun y =>
          .ite (!y.1)
          (.ok ((130, ())))
          (.ok ((0, ()))))
         (.ok ((130, ()))))
        (.ok ((130, ()))))
       (.ok ((130, ()))))
      (.ite (x.1 == 2)
       (.ite (len x.2.1 == 0)
        (.ite (len x.2.2.2.2.1.2.2.1 == 0)
         (.ite (x.2.2.2.2.2.2.2.1 == 0)
          (.call (acI (x.2.2.1, x.2.2.2.1, ())) Dd1 fun y1 =>
           .ite (!y1.1)
           (.ok ((130, ())))
           (.ok ((0, ()))))
          (.ok ((130, ()))))
         (.ok ((130, ()))))
        (.ok ((130, ()))))
       (.ite (x.1 == 3)
        (.ite (len x.2.1 == 0)
         (.ite (len x.2.2.2.1 == 0)
          (.ite (x.2.2.2.2.2.2.2.1 == 0)
           (.call (ah5 ((x.2.2.2.2.1.1, x.2.2.2.2.1.2.1, x.2.2.2.2.1.2.2.1, ()), ())) Dd6 fun y2 =>
            .ite (!y2.1 == 0)
            (.ok ((130, ())))
            (.ok ((0, ()))))
           (.ok ((130, ()))))
          (.ok ((130, ()))))
         (.ok ((130, ()))))
        (.ite (x.1 == 4)
         (.ite (len x.2.1 == 0)
          (.ite (len x.2.2.2.1 == 0)
           (.ite (len x.2.2.2.2.1.2.2.1 == 0)
            (.call (afW (x.2.2.2.2.2.1, x.2.2.2.2.2.2.1, x.2.2.2.2.2.2.2.1, ())) Dd6 fun y3 =>
             .ite (!y3.1 == 0)
             (.ok ((130, ())))
             (.ok ((0, ()))))
            (.ok ((130, ()))))
           (.ok ((130, ()))))
          (.ok ((130, ()))))
         (.ok ((130, ())))))))
     (aiP x))
    (aiP x))
   (aiR x))
  (aiR x))
 (.ite (len x.2.2.2.2.1.1 == 0)
  (.ite (x.2.2.2.2.1.2.1 == 0)
   (.ite (len x.2.2.2.2.2.1 == 0)
    (.ite (x.2.2.2.2.2.2.1 == 0)
     (.ite (x.1 == 1)
      (.ok ((130, ())))
      (.ite (x.1 == 2)
       (.ite (len x.2.1 == 0)
        (.ite (len x.2.2.2.2.1.2.2.1 == 0)
         (.ite (x.2.2.2.2.2.2.2.1 == 0)
          (.call (acI (x.2.2.1, x.2.2.2.1, ())) Dd1 fun y8 =>
           .ite (!y8.1)
           (.ok ((130, ())))
           (.ok ((0, ()))))
          (.ok ((130, ()))))
         (.ok ((130, ()))))
        (.ok ((130, ()))))
       (.ite (x.1 == 3)
        (.ite (len x.2.1 == 0)
         (.ok ((130, ())))
         (.ok ((130, ()))))
        (.ite (x.1 == 4)
         (.ite (len x.2.1 == 0)
          (.ok ((130, ())))
          (.ok ((130, ()))))
         (.ok ((130, ())))))))
     (aiO x))
    (aiO x))
   (aiQ x))
  (aiQ x))
def akM (a : Int × List wa × List (List Int) × List Int × wg × List xY × Int × Int × Unit) (b : Int × List wa × List (List Int) × List Int × wg × List xY × Int × Int × Unit) (i : Int × Unit) (i1 : (Int) × Unit) : TT wO :=
 .ite (decide (i1.1 < len a.2.2.1))
 (.need (inb i1.1 (len a.2.2.1)) <| .need (inb i1.1 (len b.2.2.1)) <| .tt <| .tt <| .call (aB1 (gi a.2.2.1 i1.1 [], gi b.2.2.1 i1.1 [], ())) Dd1 fun y1 =>
 .ite (!y1.1)
 (.ok (.inr (.inr ((false, ())))))
 (.tt <| .lt (w64 (i1.1 + 1) : Int) fun z1 => .xD (xK z1 (len a.2.2.1) a.2.2.1 b.2.2.1 <| (xL (43 : FuncId) <| True ∧ True) ∧ True) <| .xD (xC (xN 59 b.1 (b.2.1 : List wa) b.2.2.1 b.2.2.2.1 b.2.2.2.2.1.1 b.2.2.2.2.1.2.1 b.2.2.2.2.1.2.2.1 <| xH b.2.2.2.2.2.1 b.2.2.2.2.2.2.1 b.2.2.2.2.2.2.2.1) <| xC (xN 59 a.1 (a.2.1 : List wa) a.2.2.1 a.2.2.2.1 a.2.2.2.2.1.1 a.2.2.2.2.1.2.1 a.2.2.2.2.1.2.2.1 <| xH a.2.2.2.2.2.1 a.2.2.2.2.2.2.1 a.2.2.2.2.2.2.2.1) True) <| .ok (.inl ((z1, ())))))
 (.call (aB1 (a.2.2.2.1, b.2.2.2.1, ())) Dd1 fun y2 =>
 .ite (y2.1)
 (.call (apZ ((a.2.2.2.2.1.1, a.2.2.2.2.1.2.1, a.2.2.2.2.1.2.2.1, ()), (b.2.2.2.2.1.1, b.2.2.2.2.1.2.1, b.2.2.2.2.1.2.2.1, ()), ())) Dd1 fun y3 =>
 .ite (y3.1)
 (.call (aoN (a.2.2.2.2.2.1, b.2.2.2.2.2.1, ())) Dd1 fun y4 =>
 .ok (.inr (.inr ((y4.1, ())))))
 (.ok (.inr (.inr ((false, ()))))))
 (.ok (.inr (.inr ((false, ()))))))
def akN (a : Int × List wa × List (List Int) × List Int × wg × List xY × Int × Int × Unit) (b : Int × List wa × List (List Int) × List Int × wg × List xY × Int × Int × Unit) (i : (Int) × Unit) : TT wi :=
 .ite (decide (i.1 < len a.2.1))
 (.need (inb i.1 (len a.2.1)) <| .need (inb i.1 (len b.2.1)) <| .call (aC2 (((gi a.2.1 i.1 (0, [], [], ())).1, (gi a.2.1 i.1 (0, [], [], ())).2.1, (gi a.2.1 i.1 (0, [], [], ())).2.2.1, ()), ((gi b.2.1 i.1 (0, [], [], ())).1, (gi b.2.1 i.1 (0, [], [], ())).2.1, (gi b.2.1 i.1 (0, [], [], ())).2.2.1, ()), ())) Dd1 fun y =>
 .ite (!y.1)
 (.ok (.inr ((false, ()))))
 (.tt <| .lt (w64 (i.1 + 1) : Int) fun z => .xD (xK z (len a.2.1) (a.2.1 : List wa) (b.2.1 : List wa) <| (xL (41 : FuncId) <| True ∧ True) ∧ True) <| .xD (xC (xN 59 b.1 (b.2.1 : List wa) b.2.2.1 b.2.2.2.1 b.2.2.2.2.1.1 b.2.2.2.2.1.2.1 b.2.2.2.2.1.2.2.1 <| xH b.2.2.2.2.2.1 b.2.2.2.2.2.2.1 b.2.2.2.2.2.2.2.1) <| xC (xN 59 a.1 (a.2.1 : List wa) a.2.2.1 a.2.2.2.1 a.2.2.2.2.1.1 a.2.2.2.2.1.2.1 a.2.2.2.2.1.2.2.1 <| xH a.2.2.2.2.2.1 a.2.2.2.2.2.2.1 a.2.2.2.2.2.2.2.1) True) <| .ok (.inl ((z, ())))))
 (.tt <| .tt <| .ite (len a.2.2.1 != len b.2.2.1)
 (.ok (.inr ((false, ()))))
 (.loop 1 (.tt <| .xD (xK (0 : Int) (len a.2.2.1) a.2.2.1 b.2.2.1 <| (xL (43 : FuncId) <| True ∧ True) ∧ True) <| .xD (xC (xN 59 b.1 (b.2.1 : List wa) b.2.2.1 b.2.2.2.1 b.2.2.2.2.1.1 b.2.2.2.2.1.2.1 b.2.2.2.2.1.2.2.1 <| xH b.2.2.2.2.2.1 b.2.2.2.2.2.2.1 b.2.2.2.2.2.2.2.1) <| xC (xN 59 a.1 (a.2.1 : List wa) a.2.2.1 a.2.2.2.1 a.2.2.2.2.1.1 a.2.2.2.2.1.2.1 a.2.2.2.2.1.2.2.1 <| xH a.2.2.2.2.2.1 a.2.2.2.2.2.2.1 a.2.2.2.2.2.2.2.1) True) <| .ok ((0, ()))) (akM a b i)))
def azZ (a : Int × List wa × List (List Int) × List Int × wg × List xY × Int × Int × Unit) (b : Int × List wa × List (List Int) × List Int × wg × List xY × Int × Int × Unit) : TT wk :=
 .ite (a.1 == b.1)
 (.ite (a.2.2.2.2.2.2.1 == b.2.2.2.2.2.2.1)
 (.ite (a.2.2.2.2.2.2.2.1 == b.2.2.2.2.2.2.2.1)
 (.tt <| .tt <| .ite (len a.2.1 != len b.2.1)
 (.ok ((false, ())))
 (.loop 0 (.tt <| .xD (xK (0 : Int) (len a.2.1) (a.2.1 : List wa) (b.2.1 : List wa) <| (xL (41 : FuncId) <| True ∧ True) ∧ True) <| .xD (xC (xN 59 b.1 (b.2.1 : List wa) b.2.2.1 b.2.2.2.1 b.2.2.2.2.1.1 b.2.2.2.2.1.2.1 b.2.2.2.2.1.2.2.1 <| xH b.2.2.2.2.2.1 b.2.2.2.2.2.2.1 b.2.2.2.2.2.2.2.1) <| xC (xN 59 a.1 (a.2.1 : List wa) a.2.2.1 a.2.2.2.1 a.2.2.2.2.1.1 a.2.2.2.2.1.2.1 a.2.2.2.2.1.2.2.1 <| xH a.2.2.2.2.2.1 a.2.2.2.2.2.2.1 a.2.2.2.2.2.2.2.1) True) <| .ok ((0, ()))) (akN a b)))
 (.ok ((false, ()))))
 (.ok ((false, ()))))
 (.ok ((false, ())))
def aJf : LTab := []
def awW (x : Int × List (Int × List Int × List xW × Unit) × List (List Int) × List Int × (List Int × Int × List Int × Unit) × List xY × Int × Int × Unit) : TT xY :=
 .call (afY ((x.1, x.2.1, x.2.2.1, x.2.2.2.1, (x.2.2.2.2.1.1, x.2.2.2.2.1.2.1, x.2.2.2.2.1.2.2.1, ()), x.2.2.2.2.2.1, x.2.2.2.2.2.2.1, x.2.2.2.2.2.2.2.1, ()), ())) Dd6 fun y =>
 .ite (y.1 != 0)
 (.ok ((0, y.1, ())))
 (.ite (x.1 == 1)
 (.ok ((len x.2.1, 0, ())))
 (.ite (x.1 == 2)
 (.need (asT Int 0 ≤ 0 ∧ 0 < len x.2.2.1) <| .ok ((len (gi x.2.2.1 0 []), 0, ())))
 (.ite (x.1 == 3)
 (.ok ((len x.2.2.2.2.1.1, 0, ())))
 (.ok ((x.2.2.2.2.2.2.1, 0, ()))))))
def aG7 : LTab := []
def ar5 (x : Int × List (Int × List Int × List xW × Unit) × List (List Int) × List Int × (List Int × Int × List Int × Unit) × List xY × Int × Int × Unit) : TT xY :=
 .call (afY ((x.1, x.2.1, x.2.2.1, x.2.2.2.1, (x.2.2.2.2.1.1, x.2.2.2.2.1.2.1, x.2.2.2.2.1.2.2.1, ()), x.2.2.2.2.2.1, x.2.2.2.2.2.2.1, x.2.2.2.2.2.2.2.1, ()), ())) Dd6 fun y =>
 .ite (y.1 != 0)
 (.ok ((0, y.1, ())))
 (.ite (x.1 == 1)
 (.ok ((len x.2.1, 0, ())))
 (.ite (x.1 == 2)
 (.ok ((len x.2.2.1, 0, ())))
 (.ite (x.1 == 3)
 (.ok ((x.2.2.2.2.1.2.1, 0, ())))
 (.ok ((x.2.2.2.2.2.2.2.1, 0, ()))))))
end
set_option maxRecDepth 100000
open Go Go.Vg Go.Proofs
noncomputable section
def ayI : LTab := []
def ajL (n : Int) (low : Int) (high : Int) : TT wk :=
 .ite (decide (n ≥ low))
 (.ok ((decide (n ≤ high), ())))
 (.ok ((false, ())))
def ayL : LTab := [(135, 58, 3072, ⟨0, (Int) × (Int) × Unit, .dat (.s 4) xX <| .dat (.s 3) xX <| .nil, [2, 0], [], 0⟩)]
def amG (size : List Int) (i : (Int) × (Int) × Unit) : TT (wK ⊕ ww) :=
 .ite (decide (i.1 < len size))
 (.need (inb i.1 (len size)) <| .tt <| .lt (w64 (i.1 + 1) : Int) fun z => .lt (w64 (i.2.1 * gi size i.1 0) : Int) fun z1 => .xD (xE z1 z (0 : Int) size) <| .tr <| .ok (.inl ((z, z1, ()))))
 (.ok (.inr ((i.2.1, ()))))
def ajN (size : List Int) : TT ww :=
 .loop 0 (.tt <| .xD (xE (1 : Int) (0 : Int) (0 : Int) size) <| .tr <| .ok ((0, 1, ()))) (amG size)
def aA3 : LTab := [(99, 58, 14336, ⟨0, (Int) × Unit, .dat (.s 3) xX <| .nil, [1], [0], 0⟩), (99, 250, 36864, ⟨1, (Int) × Unit, .dat (.s 4) xX <| .nil, [1], [0], 0⟩)]
def ajM (g : List Int × Int × List Int × Unit) (y : Bool × Unit) (y1 : Bool × Unit) (i : Int × Unit) (y3 : Int × Unit) (i1 : (Int) × Unit) : TT wO :=
 .ite (decide (i1.1 < len g.2.2.1))
 (.need (inb i1.1 (len g.2.2.1)) <| .call (adU (gi g.2.2.1 i1.1 0, 0, 65535, ())) Dd1 fun y4 =>
 .ite (!y4.1)
 (.ok (.inr (.inr ((false, ())))))
 (.tt <| .lt (w64 (i1.1 + 1) : Int) fun z1 => .xD (xL z1 <| wc ∧ True) <| .xD (xC (xE 79 g.1 g.2.1 g.2.2.1) True) <| .ok (.inl ((z1, ())))))
 (.ok (.inr (.inr ((true, ())))))
def agU (g : List Int × Int × List Int × Unit) (y : Bool × Unit) (y1 : Bool × Unit) (i : (Int) × Unit) : TT wi :=
 .ite (decide (i.1 < len g.1))
 (.need (inb i.1 (len g.1)) <| .call (adU (gi g.1 i.1 0, 2, 9, ())) Dd1 fun y2 =>
 .ite (!y2.1)
 (.ok (.inr ((false, ()))))
 (.tt <| .lt (w64 (i.1 + 1) : Int) fun z => .xD (xL z <| wc ∧ True) <| .xD (xC (xE 79 g.1 g.2.1 g.2.2.1) True) <| .ok (.inl ((z, ())))))
 (.call (ab5 (g.1, ())) Dd6 fun y3 =>
 .ite (len g.2.2.1 != w64 (y3.1 * g.2.1))
 (.ok (.inr ((false, ()))))
 (.ite (decide (len g.2.2.1 > 4096))
 (.ok (.inr ((false, ()))))
 (.loop 1 (.tt <| .xD (xL (0 : Int) <| wc ∧ True) <| .xD (xC (xE 79 g.1 g.2.1 g.2.2.1) True) <| .ok ((0, ()))) (ajM g y y1 i y3))))
def alQ (g : List Int × Int × List Int × Unit) : TT wk :=
 .call (adU (len g.1, 1, 4, ())) Dd1 fun y =>
 .ite (!y.1)
 (.ok ((false, ())))
 (.call (adU (g.2.1, 1, 4, ())) Dd1 fun y1 =>
 .ite (!y1.1)
 (.ok ((false, ())))
 (.loop 0 (.tt <| .xD (xL (0 : Int) <| wc ∧ True) <| .xD (xC (xE 79 g.1 g.2.1 g.2.2.1) True) <| .ok ((0, ()))) (agU g y y1)))
def aDE : LTab := [(54, 58, 7168, ⟨0, (Int) × Unit, .dat (.s 5) xX <| .nil, [0, 1], [], 0⟩)]
def alR (a : List Int) (b : List Int) (i : (Int) × Unit) : TT wi :=
 .ite (decide (i.1 < len a))
 (.need (inb i.1 (len a)) <| .need (inb i.1 (len b)) <| .ite (gi a i.1 0 != gi b i.1 0)
 (.ok (.inr ((false, ()))))
 (.tt <| .lt (w64 (i.1 + 1) : Int) fun z => .xD (xH z a b) <| .tr <| .ok (.inl ((z, ())))))
 (.ok (.inr ((true, ()))))
def anQ (a : List Int) (b : List Int) : TT wk :=
 .ite (len a != len b)
 (.ok ((false, ())))
 (.loop 0 (.tt <| .xD (xH (0 : Int) a b) <| .tr <| .ok ((0, ()))) (alR a b))
def aDB : LTab := []
def anP (a : List Int × Int × List Int × Unit) (b : List Int × Int × List Int × Unit) : TT wk :=
 .call (adW (a.1, b.1, ())) Dd1 fun y =>
 .ite (y.1)
 (.ite (a.2.1 == b.2.1)
 (.call (adW (a.2.2.1, b.2.2.1, ())) Dd1 fun y1 =>
 .ok ((y1.1, ())))
 (.ok ((false, ()))))
 (.ok ((false, ())))
def aAY : LTab := []
def abB (code : Int) : TT ww :=
 .ite (code == 3)
 (.ite (code == 3)
 (.ok ((2, ())))
 (.ite (code == 10)
 (.ok ((3, ())))
 (.ok ((-1, ())))))
 (.ite (code == 4)
 (.ite (code == 4)
 (.ok ((2, ())))
 (.ite (code == 10)
 (.ok ((3, ())))
 (.ok ((-1, ())))))
 (.ite (code == 5)
 (.ite (code == 5)
 (.ok ((2, ())))
 (.ite (code == 10)
 (.ok ((3, ())))
 (.ok ((-1, ())))))
 (.ite (code == 6)
 (.ite (code == 6)
 (.ok ((2, ())))
 (.ite (code == 10)
 (.ok ((3, ())))
 (.ok ((-1, ())))))
 (.ite (code == 7)
 (.ok ((2, ())))
 (.ite (code == 10)
 (.ok ((3, ())))
 (.ok ((-1, ()))))))))
def alM (code : Int) : TT ww :=
 .ite (code == 1)
 (.ite (code == 1)
  (.ok ((0, ())))
  (.ite (code == 8)
   (.ite (code == 8)
    (.ok ((1, ())))
    (abB code))
   (.ite (code == 9)
    (.ite (code == 9)
     (.ok ((1, ())))
     (abB code))
    (.ite (code == 12)
     (.ok ((1, ())))
     (abB code)))))
 (.ite (code == 2)
  (.ite (code == 2)
   (.ok ((0, ())))
   (.ite (code == 8)
    (.ite (code == 8)
     (.ok ((1, ())))
     (abB code))
    (.ite (code == 9)
     (.ite (code == 9)
      (.ok ((1, ())))
      (abB code))
     (.ite (code == 12)
      (.ok ((1, ())))
      (abB code)))))
  (.ite (code == 11)
   (.ok ((0, ())))
   (.ite (code == 8)
    (.ite (code == 8)
     (.ok ((1, ())))
     (abB code))
    (.ite (code == 9)
     (.ite (code == 9)
      (.ok ((1, ())))
      (abB code))
     (.ite (code == 12)
      (.ok ((1, ())))
      (abB code))))))
def ayE : LTab := []
def ajI (s : Int × Int × Unit) (in0 : Int) (n : Int) : TT wk :=
 .ite (s.1 == 1)
 (.ite (decide (s.2.1 ≥ 0))
 (.ok ((decide (s.2.1 < in0), ())))
 (.ok ((false, ()))))
 (.ite (s.1 == 2)
 (.ite (decide (s.2.1 ≥ -1000000000))
 (.ok ((decide (s.2.1 ≤ 1000000000), ())))
 (.ok ((false, ()))))
 (.ite (s.1 == 11)
 (.ite (decide (s.2.1 ≥ 0))
 (.ok ((decide (s.2.1 < n), ())))
 (.ok ((false, ()))))
 (.ok ((s.2.1 == 0, ())))))
def aAZ : LTab := [(140, 122, 24576, ⟨0, (Int) × (Int) × (Int) × Unit, .dat (.s 10) xX <| .dat (.s 9) xX <| .dat (.s 8) xX <| .nil, [0, 1, 2], [], 0⟩)]
def aoV (p : List xY) (in0 : Int) (out0 : Int) (i : (Int) × (Int) × (Int) × Unit) : TT (wG ⊕ wE) :=
 .ite (decide (i.1 < len p))
 (.need (inb i.1 (len p)) <| .call (ab0 ((gi p i.1 (0, 0, ())).1, ())) Dd6 fun y =>
 .ite (decide (y.1 < 0))
 (.ok (.inr ((0, false, ()))))
 (.ite (decide (y.1 > i.2.2.1))
 (.ok (.inr ((0, false, ()))))
 (.need (inb i.1 (len p)) <| .call (ag7 (gi p i.1 (0, 0, ()), in0, i.2.2.1, ())) Dd1 fun y1 =>
 .ite (!y1.1)
 (.ok (.inr ((0, false, ()))))
 (.tt <| .lt (w64 (i.1 + 1) : Int) fun z => .lt (if w64 (w64 (i.2.2.1 - y.1) + 1) > i.2.1 then w64 (w64 (i.2.2.1 - y.1) + 1) else i.2.1 : Int) fun z1 => .lt (w64 (w64 (i.2.2.1 - y.1) + 1) : Int) fun z2 => .xD (xO z2 z1 z p in0 out0) <| .tr <| .ok (.inl ((z, z1, z2, ())))))))
 (.ite (decide (i.2.1 ≤ 16))
 (.ok (.inr ((i.2.1, i.2.2.1 == out0, ()))))
 (.ok (.inr ((i.2.1, false, ())))))
def alN (p : List xY) (in0 : Int) (out0 : Int) : TT wE :=
 .ite (decide (in0 < 1))
 (.ok ((0, false, ())))
 (.ite (decide (in0 > 4))
 (.ok ((0, false, ())))
 (.ite (decide (out0 < 1))
 (.ok ((0, false, ())))
 (.ite (decide (out0 > 4))
 (.ok ((0, false, ())))
 (.ite (decide (len p > 40))
 (.ok ((0, false, ())))
 (.loop 0 (.tt <| .xD (xO (0 : Int) (0 : Int) (0 : Int) p in0 out0) <| .tr <| .ok ((0, 0, 0, ()))) (aoV p in0 out0))))))
def aA0 : LTab := []
def alP (p : List xY) (in0 : Int) (out0 : Int) : TT wk :=
 .call (agL (p, in0, out0, ())) aOd fun y =>
 .ok ((y.2.1, ()))
def aDy : LTab := [(56, 58, 7168, ⟨0, (Int) × Unit, .dat (.s 5) xX <| .nil, [0, 1], [], 0⟩)]
def alO (a : List xY) (b : List xY) (i : (Int) × Unit) : TT wi :=
 .ite (decide (i.1 < len a))
 (.need (inb i.1 (len a)) <| .need (inb i.1 (len b)) <| .ite (!(match (gi a i.1 (0, 0, ())).1 == (gi b i.1 (0, 0, ())).1 with | true => (match (gi a i.1 (0, 0, ())).2.1 == (gi b i.1 (0, 0, ())).2.1 with | true => true | false => false) | false => false))
 (.ok (.inr ((false, ()))))
 (.tt <| .lt (w64 (i.1 + 1) : Int) fun z => .xD (xH z a b) <| .tr <| .ok (.inl ((z, ())))))
 (.ok (.inr ((true, ()))))
def anO (a : List xY) (b : List xY) : TT wk :=
 .ite (len a != len b)
 (.ok ((false, ())))
 (.loop 0 (.tt <| .xD (xH (0 : Int) a b) <| .tr <| .ok ((0, ()))) (alO a b))
def aDv : LTab := []
def anL (g : List Int × Int × List Int × Unit) : TT wk :=
 .ite (len g.1 == 0)
 (.ite (g.2.1 == 0)
 (.ok ((len g.2.2.1 == 0, ())))
 (.ok ((false, ()))))
 (.ok ((false, ())))
def aAV : LTab := [(138, 26, 2048, ⟨0, (Int) × Unit, .dat (.s 3) xX <| .nil, [0], [], 0⟩)]
def ajG (l : List Int) (i : (Int) × Unit) : TT wi :=
 .ite (decide (i.1 < len l))
 (.need (inb i.1 (len l)) <| .ite (decide (gi l i.1 0 < -1000000000))
 (.ok (.inr ((false, ()))))
 (.need (inb i.1 (len l)) <| .ite (decide (gi l i.1 0 > 1000000000))
 (.ok (.inr ((false, ()))))
 (.tt <| .lt (w64 (i.1 + 1) : Int) fun z => .xD (xM z l) <| .tr <| .ok (.inl ((z, ()))))))
 (.ok (.inr ((true, ()))))
def alI (l : List Int) : TT wk :=
 .loop 0 (.tt <| .xD (xM (0 : Int) l) <| .tr <| .ok ((0, ()))) (ajG l)
def aDu : LTab := [(98, 122, 34816, ⟨0, (Int) × Unit, .dat (.s 4) xX <| .nil, [3, 1], [0], 0⟩)]
def aiB (x : Int × List wa × List (List Int) × List Int × wg × List xY × Int × Int × Unit) (y : Bool × Unit) (i : (Int) × Unit) : TT wi :=
 .ite (decide (i.1 < len x.2.2.1))
 (.need (inb i.1 (len x.2.2.1)) <| .ite (len (gi x.2.2.1 i.1 []) != len (gi x.2.2.1 0 []))
 (.ok (.inr ((false, ()))))
 (.need (inb i.1 (len x.2.2.1)) <| .call (aeV (gi x.2.2.1 i.1 [], ())) Dd1 fun y1 =>
 .ite (!y1.1)
 (.ok (.inr ((false, ()))))
 (.tt <| .lt (w64 (i.1 + 1) : Int) fun z => .xD (xQ z (len (gi x.2.2.1 0 [])) <| wc ∧ True) <| .xD (xC (xN 82 x.1 (x.2.1 : List wa) x.2.2.1 x.2.2.2.1 x.2.2.2.2.1.1 x.2.2.2.2.1.2.1 x.2.2.2.2.1.2.2.1 <| xH x.2.2.2.2.2.1 x.2.2.2.2.2.2.1 x.2.2.2.2.2.2.2.1) True) <| .ok (.inl ((z, ()))))))
 (.ite (decide (len (gi x.2.2.1 0 []) ≥ 1))
 (.ok (.inr ((decide (len (gi x.2.2.1 0 []) ≤ 4), ()))))
 (.ok (.inr ((false, ())))))
def anK (x : Int × List wa × List (List Int) × List Int × wg × List xY × Int × Int × Unit) : TT wk :=
 .ite (decide (len x.2.2.1 < 1))
 (.ok ((false, ())))
 (.ite (decide (len x.2.2.1 > 4))
 (.ok ((false, ())))
 (.ite (len x.2.2.2.1 != len x.2.2.1)
 (.ok ((false, ())))
 (.call (aeV (x.2.2.2.1, ())) Dd1 fun y =>
 .ite (!y.1)
 (.ok ((false, ())))
 (.need (asT Int 0 ≤ 0 ∧ 0 < len x.2.2.1) <| .loop 0 (.tt <| .xD (xQ (0 : Int) (len (gi x.2.2.1 0 [])) <| wc ∧ True) <| .xD (xC (xN 82 x.1 (x.2.1 : List wa) x.2.2.1 x.2.2.2.1 x.2.2.2.2.1.1 x.2.2.2.2.1.2.1 x.2.2.2.2.1.2.2.1 <| xH x.2.2.2.2.2.1 x.2.2.2.2.2.2.1 x.2.2.2.2.2.2.2.1) True) <| .ok ((0, ()))) (aiB x y)))))
def ayA : LTab := [(97, 26, 2048, ⟨0, (Int) × Unit, .dat (.s 3) xX <| .nil, [0], [], 0⟩)]
def afJ (l : List wa) (i : (Int) × Unit) : TT wi :=
 .ite (decide (i.1 < len l))
 (.need (inb i.1 (len l)) <| .call (afU (gi l i.1 (0, [], [], ()), ())) Dd1 fun y =>
 .ite (!y.1)
 (.ok (.inr ((false, ()))))
 (.tt <| .lt (w64 (i.1 + 1) : Int) fun z => .xD (xM z l) <| .tr <| .ok (.inl ((z, ())))))
 (.ite (decide (len l ≥ 1))
 (.ok (.inr ((decide (len l ≤ 4), ()))))
 (.ok (.inr ((false, ())))))
def ajH (l : List wa) : TT wk :=
 .loop 0 (.tt <| .xD (xM (0 : Int) l) <| .tr <| .ok ((0, ()))) (afJ l)
def aAW : LTab := []
def ahF (x : Int × List wa × List (List Int) × List Int × wg × List xY × Int × Int × Unit) (y : (Bool) × Unit) : TT wk :=
 .ite (x.1 == 1)
 (.call (acK (x.2.1, ())) Dd1 fun y5 =>
 .ite (y5.1)
 (.ite (len x.2.2.2.1 == 0)
 (.ite (y.1)
 (.ok ((false, ())))
 (.ok ((false, ()))))
 (.ok ((false, ()))))
 (.ok ((false, ()))))
 (.ite (x.1 == 2)
 (.call (aeW ((x.1, x.2.1, x.2.2.1, x.2.2.2.1, (x.2.2.2.2.1.1, x.2.2.2.2.1.2.1, x.2.2.2.2.1.2.2.1, ()), x.2.2.2.2.2.1, x.2.2.2.2.2.2.1, x.2.2.2.2.2.2.2.1, ()), ())) Dd1 fun y6 =>
 .ite (y6.1)
 (.ite (len x.2.1 == 0)
 (.ite (y.1)
 (.ok ((false, ())))
 (.ok ((false, ()))))
 (.ok ((false, ()))))
 (.ok ((false, ()))))
 (.ite (x.1 == 3)
 (.call (ac0 ((x.2.2.2.2.1.1, x.2.2.2.2.1.2.1, x.2.2.2.2.1.2.2.1, ()), ())) Dd1 fun y7 =>
 .ite (y7.1)
 (.ite (len x.2.1 == 0)
 (.ite (len x.2.2.2.1 == 0)
 (.ok ((false, ())))
 (.ok ((false, ()))))
 (.ok ((false, ()))))
 (.ok ((false, ()))))
 (.ite (x.1 == 4)
 (.call (acZ (x.2.2.2.2.2.1, x.2.2.2.2.2.2.1, x.2.2.2.2.2.2.2.1, ())) Dd1 fun y8 =>
 .ite (y8.1)
 (.ite (len x.2.1 == 0)
 (.ite (len x.2.2.2.1 == 0)
 (.ok ((y.1, ())))
 (.ok ((false, ()))))
 (.ok ((false, ()))))
 (.ok ((false, ()))))
 (.ok ((false, ()))))))
def ahE (x : Int × List wa × List (List Int) × List Int × wg × List xY × Int × Int × Unit) (y13 : (Bool) × Unit) : TT wk :=
 .ite (x.1 == 1)
 (.call (acK (x.2.1, ())) Dd1 fun y18 =>
 .ite (y18.1)
 (.ok ((false, ())))
 (.ok ((false, ()))))
 (.ite (x.1 == 2)
 (.call (aeW ((x.1, x.2.1, x.2.2.1, x.2.2.2.1, (x.2.2.2.2.1.1, x.2.2.2.2.1.2.1, x.2.2.2.2.1.2.2.1, ()), x.2.2.2.2.2.1, x.2.2.2.2.2.2.1, x.2.2.2.2.2.2.2.1, ()), ())) Dd1 fun y19 =>
 .ite (y19.1)
 (.ite (len x.2.1 == 0)
 (.ite (y13.1)
 (.ok ((false, ())))
 (.ok ((false, ()))))
 (.ok ((false, ()))))
 (.ok ((false, ()))))
 (.ite (x.1 == 3)
 (.call (ac0 ((x.2.2.2.2.1.1, x.2.2.2.2.1.2.1, x.2.2.2.2.1.2.2.1, ()), ())) Dd1 fun y20 =>
 .ite (y20.1)
 (.ite (len x.2.1 == 0)
 (.ok ((false, ())))
 (.ok ((false, ()))))
 (.ok ((false, ()))))
 (.ite (x.1 == 4)
 (.call (acZ (x.2.2.2.2.2.1, x.2.2.2.2.2.2.1, x.2.2.2.2.2.2.2.1, ())) Dd1 fun y21 =>
 .ite (y21.1)
 (.ite (len x.2.1 == 0)
 (.ok ((false, ())))
 (.ok ((false, ()))))
 (.ok ((false, ()))))
 (.ok ((false, ()))))))
def ahD (x : Int × List wa × List (List Int) × List Int × wg × List xY × Int × Int × Unit) (y : (Bool) × Unit) : TT wk :=
 .call (aeW ((x.1, x.2.1, x.2.2.1, x.2.2.2.1, (x.2.2.2.2.1.1, x.2.2.2.2.1.2.1, x.2.2.2.2.1.2.2.1, ()), x.2.2.2.2.2.1, x.2.2.2.2.2.2.1, x.2.2.2.2.2.2.2.1, ()), ())) Dd1 fun y2 =>
 .ite (y2.1)
 (.ite (len x.2.1 == 0)
 (.ite (y.1)
 (.ok ((x.2.2.2.2.2.2.2.1 == 0, ())))
 (.ok ((false, ()))))
 (.ok ((false, ()))))
 (.ok ((false, ())))
def alK (x : Int × List wa × List (List Int) × List Int × wg × List xY × Int × Int × Unit) : TT wk :=
 .ite (len x.2.2.1 == 0)
 (.call (ah0 ((x.2.2.2.2.1.1, x.2.2.2.2.1.2.1, x.2.2.2.2.1.2.2.1, ()), ())) Dd1 fun y =>
  .ite (len x.2.2.2.2.2.1 == 0)
  (.ite (x.2.2.2.2.2.2.1 == 0)
   (.ite (x.1 == 1)
    (.call (acK (x.2.1, ())) Dd1 fun y1 =>
     .ite (y1.1)
     (.ite (len x.2.2.2.1 == 0)
      (.ite (y.1)
       (.ok ((x.2.2.2.2.2.2.2.1 == 0, ())))
       (.ok ((false, ()))))
      (.ok ((false, ()))))
     (.ok ((false, ()))))
    (.ite (x.1 == 2)
     (ahD x y)
     (.ite (x.1 == 3)
      (.call (ac0 ((x.2.2.2.2.1.1, x.2.2.2.2.1.2.1, x.2.2.2.2.1.2.2.1, ()), ())) Dd1 fun y3 =>
       .ite (y3.1)
       (.ite (len x.2.1 == 0)
        (.ite (len x.2.2.2.1 == 0)
         (.ok ((x.2.2.2.2.2.2.2.1 == 0, ())))
         (.ok ((false, ()))))
        (.ok ((false, ()))))
       (.ok ((false, ()))))
      (.ite (x.1 == 4)
       (.call (acZ (x.2.2.2.2.2.1, x.2.2.2.2.2.2.1, x.2.2.2.2.2.2.2.1, ())) Dd1 fun y4 =>
        .ite (y4.1)
        (.ite (len x.2.1 == 0)
         (.ite (len x.2.2.2.1 == 0)
          (.ok ((y.1, ())))
          (.ok ((false, ()))))
         (.ok ((false, ()))))
        (.ok ((false, ()))))
       (.ok ((false, ())))))))
   (ahF x y))
  (ahF x y))
 (.call (ah0 ((x.2.2.2.2.1.1, x.2.2.2.2.1.2.1, x.2.2.2.2.1.2.2.1, ()), ())) Dd1 fun y13 =>
  .ite (len x.2.2.2.2.2.1 == 0)
  (.ite (x.2.2.2.2.2.2.1 == 0)
   (.ite (x.1 == 1)
    (.call (acK (x.2.1, ())) Dd1 fun y14 =>
     .ite (y14.1)
     (.ok ((false, ())))
     (.ok ((false, ()))))
    (.ite (x.1 == 2)
     (ahD x y13)
     (.ite (x.1 == 3)
      (.call (ac0 ((x.2.2.2.2.1.1, x.2.2.2.2.1.2.1, x.2.2.2.2.1.2.2.1, ()), ())) Dd1 fun y16 =>
       .ite (y16.1)
       (.ite (len x.2.1 == 0)
        (.ok ((false, ())))
        (.ok ((false, ()))))
       (.ok ((false, ()))))
      (.ite (x.1 == 4)
       (.call (acZ (x.2.2.2.2.2.1, x.2.2.2.2.2.2.1, x.2.2.2.2.2.2.2.1, ())) Dd1 fun y17 =>
        .ite (y17.1)
        (.ite (len x.2.1 == 0)
         (.ok ((false, ())))
         (.ok ((false, ()))))
        (.ok ((false, ()))))
       (.ok ((false, ())))))))
   (ahE x y13))
  (ahE x y13))
def aDw : LTab := [(30, 58, 66560, ⟨0, (Int) × Unit, .dat (.s 5) xX <| .nil, [3, 2], [1, 0], 0⟩), (30, 122, 72704, ⟨1, (Int) × Unit, .dat (.s 6) xX <| .nil, [3, 2], [1, 0], 0⟩)]
def alJ (a : Int × List wa × List (List Int) × List Int × wg × List xY × Int × Int × Unit) (b : Int × List wa × List (List Int) × List Int × wg × List xY × Int × Int × Unit) (y : Bool × Unit) (y1 : Bool × Unit) (y2 : Bool × Unit) (i : Int × Unit) (i1 : (Int) × Unit) : TT wO :=
 .ite (decide (i1.1 < len a.2.2.1))
 (.need (inb i1.1 (len a.2.2.1)) <| .need (inb i1.1 (len b.2.2.1)) <| .call (adW (gi a.2.2.1 i1.1 [], gi b.2.2.1 i1.1 [], ())) Dd1 fun y4 =>
 .ite (!y4.1)
 (.ok (.inr (.inr ((false, ())))))
 (.tt <| .lt (w64 (i1.1 + 1) : Int) fun z1 => .xD (xL z1 <| wb ∧ wc ∧ True) <| .xD (xC (xN 82 b.1 (b.2.1 : List wa) b.2.2.1 b.2.2.2.1 b.2.2.2.2.1.1 b.2.2.2.2.1.2.1 b.2.2.2.2.1.2.2.1 <| xH b.2.2.2.2.2.1 b.2.2.2.2.2.2.1 b.2.2.2.2.2.2.2.1) <| xC (xN 82 a.1 (a.2.1 : List wa) a.2.2.1 a.2.2.2.1 a.2.2.2.2.1.1 a.2.2.2.2.1.2.1 a.2.2.2.2.1.2.2.1 <| xH a.2.2.2.2.2.1 a.2.2.2.2.2.2.1 a.2.2.2.2.2.2.2.1) True) <| .ok (.inl ((z1, ())))))
 (.ok (.inr (.inr ((true, ())))))
def aiC (a : Int × List wa × List (List Int) × List Int × wg × List xY × Int × Int × Unit) (b : Int × List wa × List (List Int) × List Int × wg × List xY × Int × Int × Unit) (y : Bool × Unit) (y1 : Bool × Unit) (y2 : Bool × Unit) (i : (Int) × Unit) : TT wi :=
 .ite (decide (i.1 < len a.2.1))
 (.need (inb i.1 (len a.2.1)) <| .need (inb i.1 (len b.2.1)) <| .call (aj5 (gi a.2.1 i.1 (0, [], [], ()), gi b.2.1 i.1 (0, [], [], ()), ())) Dd1 fun y3 =>
 .ite (!y3.1)
 (.ok (.inr ((false, ()))))
 (.tt <| .lt (w64 (i.1 + 1) : Int) fun z => .xD (xL z <| wb ∧ wc ∧ True) <| .xD (xC (xN 82 b.1 (b.2.1 : List wa) b.2.2.1 b.2.2.2.1 b.2.2.2.2.1.1 b.2.2.2.2.1.2.1 b.2.2.2.2.1.2.2.1 <| xH b.2.2.2.2.2.1 b.2.2.2.2.2.2.1 b.2.2.2.2.2.2.2.1) <| xC (xN 82 a.1 (a.2.1 : List wa) a.2.2.1 a.2.2.2.1 a.2.2.2.2.1.1 a.2.2.2.2.1.2.1 a.2.2.2.2.1.2.2.1 <| xH a.2.2.2.2.2.1 a.2.2.2.2.2.2.1 a.2.2.2.2.2.2.2.1) True) <| .ok (.inl ((z, ())))))
 (.loop 1 (.tt <| .xD wC <| .xD (xC (xN 82 b.1 (b.2.1 : List wa) b.2.2.1 b.2.2.2.1 b.2.2.2.2.1.1 b.2.2.2.2.1.2.1 b.2.2.2.2.1.2.2.1 <| xH b.2.2.2.2.2.1 b.2.2.2.2.2.2.1 b.2.2.2.2.2.2.2.1) <| xC (xN 82 a.1 (a.2.1 : List wa) a.2.2.1 a.2.2.2.1 a.2.2.2.2.1.1 a.2.2.2.2.1.2.1 a.2.2.2.2.1.2.2.1 <| xH a.2.2.2.2.2.1 a.2.2.2.2.2.2.1 a.2.2.2.2.2.2.2.1) True) <| .ok ((0, ()))) (alJ a b y y1 y2 i))
def anM (a : Int × List wa × List (List Int) × List Int × wg × List xY × Int × Int × Unit) (b : Int × List wa × List (List Int) × List Int × wg × List xY × Int × Int × Unit) : TT wk :=
 .ite (a.1 != b.1)
 (.ok ((false, ())))
 (.ite (a.2.2.2.2.2.2.1 != b.2.2.2.2.2.2.1)
 (.ok ((false, ())))
 (.ite (a.2.2.2.2.2.2.2.1 != b.2.2.2.2.2.2.2.1)
 (.ok ((false, ())))
 (.ite (len a.2.1 != len b.2.1)
 (.ok ((false, ())))
 (.ite (len a.2.2.1 != len b.2.2.1)
 (.ok ((false, ())))
 (.call (adW (a.2.2.2.1, b.2.2.2.1, ())) Dd1 fun y =>
 .ite (!y.1)
 (.ok ((false, ())))
 (.call (ah3 ((a.2.2.2.2.1.1, a.2.2.2.2.1.2.1, a.2.2.2.2.1.2.2.1, ()), (b.2.2.2.2.1.1, b.2.2.2.2.1.2.1, b.2.2.2.2.1.2.2.1, ()), ())) Dd1 fun y1 =>
 .ite (!y1.1)
 (.ok ((false, ())))
 (.call (ah2 (a.2.2.2.2.2.1, b.2.2.2.2.2.1, ())) Dd1 fun y2 =>
 .ite (!y2.1)
 (.ok ((false, ())))
 (.loop 0 (.tt <| .xD wC <| .xD (xC (xN 82 b.1 (b.2.1 : List wa) b.2.2.1 b.2.2.2.1 b.2.2.2.2.1.1 b.2.2.2.2.1.2.1 b.2.2.2.2.1.2.2.1 <| xH b.2.2.2.2.2.1 b.2.2.2.2.2.2.1 b.2.2.2.2.2.2.2.1) <| xC (xN 82 a.1 (a.2.1 : List wa) a.2.2.1 a.2.2.2.1 a.2.2.2.2.1.1 a.2.2.2.2.1.2.1 a.2.2.2.2.1.2.2.1 <| xH a.2.2.2.2.2.1 a.2.2.2.2.2.2.1 a.2.2.2.2.2.2.2.1) True) <| .ok ((0, ()))) (aiC a b y y1 y2)))))))))
def aFk : LTab := []
def aqR (x : Int × List (Int × List Int × List xW × Unit) × List (List Int) × List Int × (List Int × Int × List Int × Unit) × List xY × Int × Int × Unit) : TT xY :=
 .call (aeX ((x.1, x.2.1, x.2.2.1, x.2.2.2.1, (x.2.2.2.2.1.1, x.2.2.2.2.1.2.1, x.2.2.2.2.1.2.2.1, ()), x.2.2.2.2.2.1, x.2.2.2.2.2.2.1, x.2.2.2.2.2.2.2.1, ()), ())) Dd1 fun y =>
 .ite (!y.1)
 (.ok ((0, 130, ())))
 (.ite (x.1 == 1)
 (.ok ((len x.2.1, 0, ())))
 (.ite (x.1 == 2)
 (.need (asT Int 0 ≤ 0 ∧ 0 < len x.2.2.1) <| .ok ((len (gi x.2.2.1 0 []), 0, ())))
 (.ite (x.1 == 3)
 (.ok ((len x.2.2.2.2.1.1, 0, ())))
 (.ok ((x.2.2.2.2.2.2.1, 0, ()))))))
def aDx : LTab := []
def anN (x : Int × List (Int × List Int × List xW × Unit) × List (List Int) × List Int × (List Int × Int × List Int × Unit) × List xY × Int × Int × Unit) : TT xY :=
 .call (aeX ((x.1, x.2.1, x.2.2.1, x.2.2.2.1, (x.2.2.2.2.1.1, x.2.2.2.2.1.2.1, x.2.2.2.2.1.2.2.1, ()), x.2.2.2.2.2.1, x.2.2.2.2.2.2.1, x.2.2.2.2.2.2.2.1, ()), ())) Dd1 fun y =>
 .ite (!y.1)
 (.ok ((0, 130, ())))
 (.ite (x.1 == 1)
 (.ok ((len x.2.1, 0, ())))
 (.ite (x.1 == 2)
 (.ok ((len x.2.2.1, 0, ())))
 (.ite (x.1 == 3)
 (.ok ((x.2.2.2.2.1.2.1, 0, ())))
 (.ok ((x.2.2.2.2.2.2.2.1, 0, ()))))))
end
set_option maxRecDepth 100000
open Go Go.Vg Go.Proofs
noncomputable section
def aEv : LTab := []
def aoG (n : Int) (low : Int) (high : Int) : TT wk :=
 .ite (decide (low ≤ n))
 (.ok ((decide (n ≤ high), ())))
 (.ok ((false, ())))
def atS : LTab := [(223, 3, 1024, ⟨0, (Bool) × Unit, .dat (.s 2) (Ty.bool) <| .nil, [0], [], 0⟩), (223, 58, 4096, ⟨1, (Int) × Unit, .dat (.s 15) xX <| .nil, [14, 13], [], 0⟩)]
def aj1 (ai4 : List Int) (j : Bool × Unit) (i : (Int) × Unit) : TT wi :=
 .ite (decide (i.1 < len ai4))
 (.need (inb i.1 (len ai4)) <| .call (ac6 (gi ai4 i.1 0, 0, 65535, ())) Dd1 fun y =>
 .ite (!y.1)
 (.ok (.inr ((false, ()))))
 (.tt <| .lt (w64 (i.1 + 1) : Int) fun z => .xD (xH z (len ai4) ai4) <| .tr <| .ok (.inl ((z, ())))))
 (.ok (.inr ((true, ()))))
def asJ (ai4 : List Int) (j : (Bool) × Unit) : TT wk :=
 .loop 1 (.tt <| .xD (xH (0 : Int) (len ai4) ai4) <| .tr <| .ok ((0, ()))) (aj1 ai4 j)
def ahH (ai4 : List Int) : TT wk :=
 .join 0 (ι := (Bool) × Unit) (.ite (decide (len ai4 < 2))
 (.ok (.inr ((false, ()))))
 (.ite (decide (len ai4 > 17))
 (.ok (.inr ((false, ()))))
 (.tt <| .xD (xM false ai4) <| .tr <| .ok (.inl ((false, ())))))) (asJ ai4)
def aEm : LTab := [(310, 26, 13312, ⟨0, (Int) × Unit, .dat (.s 17) xX <| .nil, [16, 1], [0], 0⟩), (310, 7, 14336, ⟨1, Unit, .nil, [1], [0], 0⟩), (310, 124, 22528, ⟨2, (Int) × (Int) × Unit, .dat (.s 6) xX <| .dat (.s 5) xX <| .nil, [], [0], 0⟩)]
def ar8 (p : xW × Int × Bool × Unit) (i : Int × Unit) (j : Unit) (i1 : (Int) × (Int) × Unit) : TT (wK ⊕ wi) :=
 .ite (i1.1 != 0)
 (.need (i1.1 ≠ 0) <| .tt <| .lt (Int.tmod i1.2.1 i1.1 : Int) fun z3 => .xD (xM i1.1 z3) <| .xD (xC (xN 310 p.1.1 p.1.2.1 p.1.2.2.1 p.1.2.2.2.1 p.1.2.2.2.2.1 p.1.2.2.2.2.2.1 p.2.1 <| xR p.2.2.1) True) <| .ok (.inl ((z3, i1.1, ()))))
 (.ok (.inr (.inr ((i1.2.1 == 1, ())))))
def aBJ (p : xW × Int × Bool × Unit) (i : Int × Unit) (j : Unit) : TT wi :=
 .loop 2 (.tt <| .lt (p.1.2.2.2.2.1 : Int) fun z1 => .lt (p.1.2.2.2.1 : Int) fun z2 => .xD (xM z2 z1) <| .xD (xC (xN 310 p.1.1 p.1.2.1 p.1.2.2.1 z2 z1 p.1.2.2.2.2.2.1 p.2.1 <| xR p.2.2.1) True) <| .ok ((z1, z2, ()))) (ar8 p i j)
def aeM (p : xW × Int × Bool × Unit) (i : (Int) × Unit) : TT wi :=
 .ite (decide (i.1 < 3))
 (.need (inb i.1 (↑3 : Int)) <| .call (ac6 (gi ([p.1.2.1, p.1.2.2.1, p.1.2.2.2.2.2.1]) i.1 0, -100000000, 100000000, ())) Dd1 fun y =>
 .ite (!y.1)
 (.ok (.inr ((false, ()))))
 (.tt <| .lt (w64 (i.1 + 1) : Int) fun z => .xD (xQ z ([p.1.2.1, p.1.2.2.1, p.1.2.2.2.2.2.1] : List Int) <| wc ∧ True) <| .xD (xC (xN 310 p.1.1 p.1.2.1 p.1.2.2.1 p.1.2.2.2.1 p.1.2.2.2.2.1 p.1.2.2.2.2.2.1 p.2.1 <| xR p.2.2.1) True) <| .ok (.inl ((z, ())))))
 (.join 1 (ι := Unit) (.call (ac6 (p.1.1, w64 (p.2.1 + 1), 1000000, ())) Dd1 fun y1 =>
 .ite (!y1.1)
 (.ok (.inr (.inr ((false, ())))))
 (.call (ac6 (p.1.2.2.2.1, 1, 36, ())) Dd1 fun y2 =>
 .ite (!y2.1)
 (.ok (.inr (.inr ((false, ())))))
 (.call (ac6 (p.1.2.2.2.2.1, 1, 12, ())) Dd1 fun y3 =>
 .ite (!y3.1)
 (.ok (.inr (.inr ((false, ())))))
 (.tt <| .xD (wc ∧ True) <| .xD (xC (xN 310 p.1.1 p.1.2.1 p.1.2.2.1 p.1.2.2.2.1 p.1.2.2.2.2.1 p.1.2.2.2.2.2.1 p.2.1 <| xR p.2.2.1) True) <| .ok (.inl (())))))) (aBJ p i))
def aoD (p : xW × Int × Bool × Unit) : TT wk :=
 .loop 0 (.tt <| .xD (xQ (0 : Int) ([p.1.2.1, p.1.2.2.1, p.1.2.2.2.2.2.1] : List Int) <| wc ∧ True) <| .xD (xC (xN 310 p.1.1 p.1.2.1 p.1.2.2.1 p.1.2.2.2.1 p.1.2.2.2.2.1 p.1.2.2.2.2.2.1 p.2.1 <| xR p.2.2.1) True) <| .ok ((0, ()))) (aeM p)
def aoH : LTab := [(224, 6, 2048, ⟨0, (Bool) × Unit, .dat (.s 2) (Ty.bool) <| .nil, [1], [0], 0⟩), (317, 14, 14336, ⟨1, (Int) × (Int) × Unit, .dat (.s 9) xX <| .dat (.s 3) xX <| .nil, [8, 7, 0], [8, 4, 2, 0], 0⟩)]
def ag3 (c : Int × List Int × List xW × Unit) (j : Bool × Unit) (i : (Int) × (Int) × Unit) : TT (wK ⊕ wk) :=
 .ite (decide (i.1 < len c.2.2.1))
 (.need (inb i.1 (len c.2.2.1)) <| .call (ae0 ((((gi c.2.2.1 i.1 (0, 0, 0, 0, 0, 0, ())).1, (gi c.2.2.1 i.1 (0, 0, 0, 0, 0, 0, ())).2.1, (gi c.2.2.1 i.1 (0, 0, 0, 0, 0, 0, ())).2.2.1, (gi c.2.2.1 i.1 (0, 0, 0, 0, 0, 0, ())).2.2.2.1, (gi c.2.2.1 i.1 (0, 0, 0, 0, 0, 0, ())).2.2.2.2.1, (gi c.2.2.1 i.1 (0, 0, 0, 0, 0, 0, ())).2.2.2.2.2.1, ()), i.2.1, i.1 == 0, ()), ())) Dd1 fun y =>
 .ite (!y.1)
 (.ok (.inr ((false, ()))))
 (.tt <| .lt (w64 (i.1 + 1) : Int) fun z => .lt ((gi c.2.2.1 i.1 (0, 0, 0, 0, 0, 0, ())).1 : Int) fun z1 => .xD (xK z1 z (len c.2.2.1) c.2.2.1 <| (xS 8 true) ∧ True) <| .xD (xC (xT (LoopState.ready : LoopState) (none : Option Code) 34 (#[17] : Array Tmp) (axN (apD Tryz.f224) [1, 0, 1, 1, 1, 0, 1, 0, 0]) (axN (apD Tryz.f224) [1, 0, 1, 1, 1, 0, 1, 0, 1]) <| (xL (317 : FuncId) <| True ∧ wR ∧ True) ∧ (xL ((c.1, c.2.1, c.2.2.1, ()) : Int × List Int × List xW × Unit) <| wm ∧ (xL j.1 <| wc ∧ True))) <| xC (xE 112 c.1 c.2.1 c.2.2.1) <| xC (xM 4 true) <| xC (xE 112 c.1 c.2.1 c.2.2.1) True) <| .ok (.inl ((z, z1, ())))))
 (.need (inb (w64 (len c.2.2.1 - 1)) (len c.2.2.1)) <| .ok (.inr (((gi c.2.2.1 (w64 (len c.2.2.1 - 1)) (0, 0, 0, 0, 0, 0, ())).1 == 1000000, ()))))
def amV (c : Int × List Int × List xW × Unit) (j : (Bool) × Unit) : TT wk :=
 .tt <| .tt <| .tt <| .tt <| .loop 1 (.tt <| .xD (xK (0 : Int) (0 : Int) (len c.2.2.1) c.2.2.1 <| (xS 8 true) ∧ True) <| .xD (xC (xT (LoopState.ready : LoopState) (none : Option Code) 34 (#[17] : Array Tmp) (axN (apD Tryz.f224) [1, 0, 1, 1, 1, 0, 1, 0, 0]) (axN (apD Tryz.f224) [1, 0, 1, 1, 1, 0, 1, 0, 1]) <| (xL (317 : FuncId) <| True ∧ wR ∧ True) ∧ (xL ((c.1, c.2.1, c.2.2.1, ()) : Int × List Int × List xW × Unit) <| wm ∧ (xL j.1 <| wc ∧ True))) <| xC (xE 112 c.1 c.2.1 c.2.2.1) <| xC (xM 4 true) <| xC (xE 112 c.1 c.2.1 c.2.2.1) True) <| .ok ((0, 0, ()))) (ag3 c j)
def aeP (c : Int × List Int × List xW × Unit) : TT wk :=
 .join 0 (ι := (Bool) × Unit) (.ite (decide (len c.2.2.1 < 1))
 (.ok (.inr ((false, ()))))
 (.ite (decide (len c.2.2.1 > 4))
 (.ok (.inr ((false, ()))))
 (.tt <| .xD (xL false <| wc ∧ True) <| .xD (xC (xE 112 c.1 c.2.1 c.2.2.1) True) <| .ok (.inl ((false, ())))))) (amV c)
def aHx : LTab := []
def asK (c : Int × List Int × List xW × Unit) : TT ww :=
 .ite (c.1 == 1)
 (.ite (len c.2.1 == 0)
 (.ite (!len c.2.2.1 == 0)
 (.ok ((90, ())))
 (.ok ((0, ()))))
 (.ok ((90, ()))))
 (.ite (c.1 == 2)
 (.call (ahI (c.2.1, ())) Dd1 fun y =>
 .ite (y.1)
 (.ite (!len c.2.2.1 == 0)
 (.ok ((90, ())))
 (.ok ((0, ()))))
 (.ok ((90, ()))))
 (.ite (c.1 == 3)
 (.ite (len c.2.1 == 0)
 (.call (ae2 ((c.1, c.2.1, c.2.2.1, ()), ())) Dd1 fun y1 =>
 .ite (!y1.1)
 (.ok ((90, ())))
 (.ok ((0, ()))))
 (.ok ((90, ()))))
 (.ok ((90, ())))))
end
open Go Go.Vg
theorem aAh (n a b : Int) (y) (h : ac6 (n, a, b, ()) = some y) : (aoG n a b).toO = some y := by
 injection h with h
 subst h
 unfold aoG
 by_cases c : a ≤ n
 ·refine uT (zl c) ?_
  rw [ab7]
  congr 2
  exact decide_eq_decide.2 ⟨fun h => ⟨c, h⟩, fun h => h.2⟩
 ·refine uF (zk c) ?_
  rw [ab7, zk (fun h : inR n a b => c h.1)]
theorem abV (n a b : Int) : ac6 (n, a, b, ()) = some (decide (inR n a b), ()) := rfl
theorem apL (l : List Int) (y) (h : ahI (l, ()) = some y) : (ahH l).toO = some y := by
 injection h with h
 subst h
 unfold ahH
 dsimp only
 by_cases h1 : l.length < 2
 ·rw [zk (fun h : ae5 l => by have := h.1; omega)]
  exact uR _ (uT sd rfl)
 by_cases h2 : l.length > 17
 ·rw [zk (fun h : ae5 l => by have := h.2.1; omega)]
  exact uR _ (uF sd (uT sd rfl))
 refine uL (false, ()) (uF sd (uF sd rfl)) ?_
 refine uO (0, ()) rfl ?_
 refine abE (fun i : Int × Unit => ∃ k : Nat, k ≤ l.length ∧ i = ((k : Int), ()) ∧ ∀ v ∈ l.take k, inR v 0 65535) (fun i => ((l.length : Int) - i.1).toNat) (fun _ => (decide (ae5 l), ())) ?_ _ ⟨0, by omega, rfl, by simp⟩
 rintro i ⟨k, h3, rfl, h4⟩
 simp only [aj1, aaJ]
 rcases zL k l.length with hk | hk
 ·have e : l.getD k 0 = l[k] := by simp [hk]
  rw [e]
  by_cases c : inR l[k] 0 65535
  ·left
   refine ⟨(((k + 1 : Nat) : Int), ()), ?_, ⟨k + 1, by omega, rfl, ?_⟩, by simp only; omega, zf⟩
   ·refine uT sd (uN sd (uC _ (abV _ _ _) (uF (by rw [zl c]; rfl) ?_)))
    repeat refine za ?_
    simp (disch := omega) only [ab7, aaD, aAA, aAB, aEP, aaJ, zv, zt, aaB, zB]
    rfl
   ·intro v hv
    rw [yC hk] at hv
    rcases zw.1 hv with hv | hv
    ·exact h4 v hv
    ·rw [zG.1 hv]; exact c
  ·right
   rw [zk (fun h : ae5 l => c (h.2.2 _ (yv hk)))]
   exact uT sd (uN sd (uC _ (abV _ _ _) (uT (by rw [zk c]; rfl) rfl)))
 ·right
  rw [zx hk] at h4
  rw [zl (show ae5 l from ⟨by omega, by omega, h4⟩)]
  exact uF sd rfl
theorem aI8 {a b : Int} (ha : 0 ≤ a) (hb : 0 < b) : Nat.gcd b.natAbs (Int.tmod a b).natAbs = Nat.gcd a.natAbs b.natAbs := by
 obtain ⟨m, rfl⟩ := yI ha
 obtain ⟨n, rfl⟩ := yI (Int.le_of_lt hb)
 rw [zV ha]
 have : ((m : Int) % (n : Int)) = ((m % n : Nat) : Int) := ze
 rw [this, xo, xo, xo, Nat.gcd_comm n, Nat.gcd_comm m n, Nat.gcd_rec n m]
theorem aEL {p : PcT} (h : inR p.2.1 0 1000000) : ae0 (p, ()) = some (decide (ahK p.2.1 p.1), ()) := by unfold ae0; rw [if_pos h]
theorem az3 (p : PcT) (y) (h : ae0 (p, ()) = some y) : (aoD p).toO = some y := by
 unfold ae0 at h
 split at h
 case isFalse => cases h
 case isTrue hfrom =>
 injection h with h
 subst h
 obtain ⟨hf0, hf1⟩ := hfrom
 dsimp only at hf0 hf1 ⊢
 obtain ⟨⟨till, mul, add, nu, de, off, u⟩, fr, first, u'⟩ := p
 dsimp only at hf0 hf1 ⊢
 unfold aoD
 refine uO (0, ()) rfl ?_
 have bad : ∀ b : Bool, b = false → (decide (ahK fr (till, mul, add, nu, de, off, u)), ()) = (false, ()) ∨ ahK fr (till, mul, add, nu, de, off, u) := fun b hb => by
  by_cases c : ahK fr (till, mul, add, nu, de, off, u)
  ·exact Or.inr c
  ·left; rw [zk c]
 have step : ∀ (k : Nat) (x : Int), k < 3 → gi [mul, add, off] (k : Int) 0 = x → (inR x (-100000000) 100000000 → (aeM ((till, mul, add, nu, de, off, u), fr, first, u') ((k : Int), ())).toO = some (.inl (((k + 1 : Nat) : Int), ()))) ∧ (¬ inR x (-100000000) 100000000 → (aeM ((till, mul, add, nu, de, off, u), fr, first, u') ((k : Int), ())).toO = some (.inr (false, ()))) := by
  intro k x hk hx
  constructor
  ·intro c
   unfold aeM
   dsimp only
   refine uT sd (uN ⟨by omega, by omega⟩ ?_)
   rw [hx]
   refine uC _ (abV _ _ _) (uF (by rw [zl c]; rfl) ?_)
   repeat refine za ?_
   simp (disch := omega) only [ab7, aaD, aAA, aAB, aEP, aaJ, zv, zt, aaB, zB]
   rfl
  ·intro c
   unfold aeM
   dsimp only
   refine uT sd (uN ⟨by omega, by omega⟩ ?_)
   rw [hx]
   exact uC _ (abV _ _ _) (uT (by rw [zk c]; rfl) rfl)
 by_cases c1 : inR mul (-100000000) 100000000
 case neg =>
  rw [zk (fun h : ahK _ _ => c1 h.1.1)]
  exact ahV ((step 0 mul zc rfl).2 c1)
 rw [akF ((step 0 mul zc rfl).1 c1)]
 by_cases c2 : inR add (-100000000) 100000000
 case neg =>
  rw [zk (fun h : ahK _ _ => c2 h.1.2.1)]
  exact ahV ((step 1 add zc rfl).2 c2)
 rw [akF ((step 1 add zc rfl).1 c2)]
 by_cases c3 : inR off (-100000000) 100000000
 case neg =>
  rw [zk (fun h : ahK _ _ => c3 h.1.2.2.1)]
  exact ahV ((step 2 off zc rfl).2 c3)
 rw [akF ((step 2 off zc rfl).1 c3)]
 refine ahV ?_
 unfold aeM
 refine uF rfl ?_
 dsimp only
 have hw : w64 (fr + 1) = fr + 1 := aaD zc
 by_cases c4 : inR till (fr + 1) 1000000
 case neg =>
  rw [zk (fun h : ahK _ _ => c4 h.2)]
  refine uR _ (uC _ (abV _ _ _) (uT (by rw [hw, zk c4]; rfl) rfl))
 by_cases c5 : inR nu 1 36
 case neg =>
  rw [zk (fun h : ahK _ _ => c5 h.1.2.2.2.1)]
  refine uR _ (uC _ (abV _ _ _) (uF (by rw [hw, zl c4]; rfl) (uC _ (abV _ _ _) (uT (by rw [zk c5]; rfl) rfl))))
 by_cases c6 : inR de 1 12
 case neg =>
  rw [zk (fun h : ahK _ _ => c6 h.1.2.2.2.2.1)]
  refine uR _ (uC _ (abV _ _ _) (uF (by rw [hw, zl c4]; rfl) (uC _ (abV _ _ _) (uF (by rw [zl c5]; rfl) (uC _ (abV _ _ _) (uT (by rw [zk c6]; rfl) rfl))))))
 refine uL () (uC _ (abV _ _ _) (uF (by rw [hw, zl c4]; rfl) (uC _ (abV _ _ _) (uF (by rw [zl c5]; rfl) (uC _ (abV _ _ _) (uF (by rw [zl c6]; rfl) rfl)))))) ?_
 refine uO (de, nu, ()) rfl ?_
 have hd : decide (ahK fr (till, mul, add, nu, de, off, u)) = decide (Nat.gcd nu.natAbs de.natAbs = 1) := decide_eq_decide.2 ⟨fun h => h.1.2.2.2.2.2, fun h => ⟨⟨c1, c2, c3, c5, c6, h⟩, c4⟩⟩
 rw [hd]
 refine abE (fun i : Int × Int × Unit => 0 ≤ i.1 ∧ 0 ≤ i.2.1 ∧ Nat.gcd i.2.1.natAbs i.1.natAbs = Nat.gcd nu.natAbs de.natAbs) (fun i => i.1.toNat) (fun _ => (.inr (decide (Nat.gcd nu.natAbs de.natAbs = 1), ()) : (Int × Unit) ⊕ (Bool × Unit))) ?_ _ ⟨by show (0 : Int) ≤ de; have := c6.1; omega, by show (0 : Int) ≤ nu; have := c5.1; omega, rfl⟩
 rintro ⟨b, a, u2⟩ ⟨g1, g2, g3⟩
 dsimp only at g1 g2 g3
 unfold ar8
 by_cases hb : b = 0
 ·right
  subst hb
  refine uF rfl ?_
  have g4 : a.natAbs = Nat.gcd nu.natAbs de.natAbs := by simpa using g3
  show some (Sum.inr (Sum.inr (a == 1, ()))) = _
  by_cases c : a = 1
  ·rw [zl (show Nat.gcd nu.natAbs de.natAbs = 1 by omega), c]; rfl
  ·rw [zk (show ¬ Nat.gcd nu.natAbs de.natAbs = 1 by omega), beq_eq_false_iff_ne.2 c]
 ·left
  have hlt : Int.tmod a b < b := by rw [zV g2]; exact yL _ zc
  have hge : 0 ≤ Int.tmod a b := by rw [zV g2]; exact yZ _ hb
  refine ⟨(Int.tmod a b, b, ()), ?_, ⟨hge, by dsimp only; omega, ?_⟩, by dsimp only; omega, zf⟩
  ·refine uT (by simpa using hb) (uN hb ?_)
   repeat refine za ?_
   rfl
  ·dsimp only
   rw [← g3]; exact aI8 g2 zc
abbrev zs : akY := (0, 0, 0, 0, 0, 0, ())
theorem aDg {last : Int} : agQ last [] ↔ last = 1000000 := Iff.rfl
theorem aAJ {last : Int} {s : akY} {r : List akY} : agQ last (s :: r) ↔ ahK last s ∧ agQ s.1 r := Iff.rfl
theorem al9 (c : CvT) (y) (h : ae2 (c, ()) = some y) : (aeP c).toO = some y := by
 injection h with h
 subst h
 obtain ⟨kind, tab, l, u0⟩ := c
 dsimp only
 unfold aeP
 dsimp only
 by_cases h1 : l.length < 1
 ·rw [zk (fun h : adL l => by have := h.1; omega)]
  exact uR _ (uT sd rfl)
 by_cases h2 : l.length > 4
 ·rw [zk (fun h : adL l => by have := h.2.1; omega)]
  exact uR _ (uF sd (uT sd rfl))
 refine uL (false, ()) (uF sd (uF sd rfl)) ?_
 refine uO (0, 0, ()) rfl ?_
 have hl : decide (adL l) = decide (agQ 0 l) := decide_eq_decide.2 ⟨fun h => h.2.2, fun h => ⟨by omega, by omega, h⟩⟩
 rw [hl]
 refine abE (fun i : Int × Int × Unit => ∃ k : Nat, k ≤ l.length ∧ i.1 = (k : Int) ∧ inR i.2.1 0 1000000 ∧ (agQ 0 l ↔ agQ i.2.1 (l.drop k)) ∧ (k ≠ 0 → i.2.1 = (l.getD (k - 1) zs).1)) (fun i => ((l.length : Int) - i.1).toNat) (fun _ => (decide (agQ 0 l), ())) ?_ _ ⟨0, by omega, rfl, ⟨by simp, by simp⟩, by simp, by simp⟩
 rintro ⟨i, last, u⟩ ⟨k, h3, h4, h5, h6, h7⟩
 dsimp only at h4 h5 h6 h7
 subst h4
 simp only [ag3, aaJ]
 rcases zL k l.length with hk | hk
 ·have e : l.getD k zs = l[k] := by simp [hk]
  have hv : ae0 ((((l.getD k zs).1, (l.getD k zs).2.1, (l.getD k zs).2.2.1, (l.getD k zs).2.2.2.1, (l.getD k zs).2.2.2.2.1, (l.getD k zs).2.2.2.2.2.1, ()), last, (k : Int) == 0, ()), ()) = some (decide (ahK last l[k]), ()) := by
   rw [aEL h5, e]
  rw [yi hk, aAJ] at h6
  by_cases c : ahK last l[k]
  ·left
   refine ⟨(((k + 1 : Nat) : Int), l[k].1, ()), ?_, ⟨k + 1, by omega, rfl, ⟨?_, c.2.2⟩, ⟨fun h => (h6.1 h).2, fun h => h6.2 ⟨c, h⟩⟩, fun _ => by rw [Nat.add_sub_cancel, e]⟩, by dsimp only; omega, zf⟩
   ·refine uT sd (uN sd (uC _ hv (uF (by rw [zl c]; rfl) ?_)))
    repeat refine za ?_
    rw [aaD (x := (k : Int) + 1) zc]
    show some (Sum.inl (((k + 1 : Nat) : Int), (l.getD k zs).1, ())) = _
    rw [e]
   ·have := h5.1; have := c.2.1; dsimp only; omega
  ·right
   rw [zk (fun h => c (h6.1 h).1)]
   exact uT sd (uN sd (uC _ hv (uT (by rw [zk c]; rfl) rfl)))
 ·right
  have hkl : k = l.length := zc
  subst hkl
  rw [List.drop_length, aDg] at h6
  have hw : w64 (len l - 1) = ((l.length - 1 : Nat) : Int) := by rw [aaB, aaD (x := (l.length : Int) - 1) zc]; omega
  simp only [hw, aaJ]
  refine uF sd (uN sd ?_)
  rw [h7 zc] at h6
  show some (Sum.inr ((l.getD (l.length - 1) zs).1 == 1000000, ())) = _
  by_cases c : (l.getD (l.length - 1) zs).1 = 1000000
  ·rw [zl (h6.2 c), zz.2 c]
  ·rw [zk (fun h => c (h6.1 h)), beq_eq_false_iff_ne.2 c]
theorem aiI {α : Type} (l : List α) : (len l == 0) = decide (l = []) := by
 cases l with
 | nil => rfl
 | cons a l => rw [zk ze, beq_eq_false_iff_ne]; simp [len]; omega
theorem aBW (c : CvT) (y) (h : am2 (c, ()) = some y) : (asK c).toO = some y := by
 injection h with h
 subst h
 obtain ⟨kind, tab, l, u⟩ := c
 unfold asK
 dsimp only
 simp only [aiI]
 by_cases k1 : kind = 1
 ·subst k1
  refine uT rfl ?_
  by_cases a1 : tab = []
  ·refine uT (zl a1) ?_
   by_cases a2 : l = []
   ·rw [if_pos (show acV (1, tab, l, u) from Or.inl ⟨rfl, a1, a2⟩)]
    exact uF (by rw [zl a2]; rfl) rfl
   ·rw [if_neg (fun h => by rcases h with h | h | h; exact a2 h.2.2; exact absurd h.1 zh; exact absurd h.1 zh)]
    exact uT (by rw [zk a2]; rfl) rfl
  ·rw [if_neg (fun h => by rcases h with h | h | h; exact a1 h.2.1; exact absurd h.1 zh; exact absurd h.1 zh)]
   exact uF (zk a1) rfl
 refine uF (beq_eq_false_iff_ne.2 k1) ?_
 by_cases k2 : kind = 2
 ·subst k2
  refine uT rfl (uC (decide (ae5 tab), ()) rfl ?_)
  by_cases a1 : ae5 tab
  ·refine uT (zl a1) ?_
   by_cases a2 : l = []
   ·rw [if_pos (show acV (2, tab, l, u) from Or.inr (Or.inl ⟨rfl, a1, a2⟩))]
    exact uF (by rw [zl a2]; rfl) rfl
   ·rw [if_neg (fun h => by rcases h with h | h | h; exact absurd h.1 zh; exact a2 h.2.2; exact absurd h.1 zh)]
    exact uT (by rw [zk a2]; rfl) rfl
  ·rw [if_neg (fun h => by rcases h with h | h | h; exact absurd h.1 zh; exact a1 h.2.1; exact absurd h.1 zh)]
   exact uF (zk a1) rfl
 refine uF (beq_eq_false_iff_ne.2 k2) ?_
 by_cases k3 : kind = 3
 ·subst k3
  refine uT rfl ?_
  by_cases a1 : tab = []
  ·refine uT (zl a1) (uC (decide (adL l), ()) rfl ?_)
   by_cases a2 : adL l
   ·rw [if_pos (show acV (3, tab, l, u) from Or.inr (Or.inr ⟨rfl, a1, a2⟩))]
    exact uF (by rw [zl a2]; rfl) rfl
   ·rw [if_neg (fun h => by rcases h with h | h | h; exact absurd h.1 zh; exact absurd h.1 zh; exact a2 h.2.2)]
    exact uT (by rw [zk a2]; rfl) rfl
  ·rw [if_neg (fun h => by rcases h with h | h | h; exact absurd h.1 zh; exact absurd h.1 zh; exact a1 h.2.1)]
   exact uF (zk a1) rfl
 ·rw [if_neg (fun h => by rcases h with h | h | h; exact k1 h.1; exact k2 h.1; exact k3 h.1)]
  exact uF (beq_eq_false_iff_ne.2 k3) rfl
theorem aAv (c : CvT) : am2 (c, ()) = some (if acV c then 0 else 90, ()) := rfl
theorem abK {β : Type} {R : Int × Unit → Option ((Int × Unit) ⊕ β)} {bad good : β} {n : Nat} (p : Nat → Bool)
  (hs : ∀ k : Nat, k < n → p k = true → R ((k : Int), ()) = some (.inl (((k + 1 : Nat) : Int), ())))
  (hb : ∀ k : Nat, k < n → p k = false → R ((k : Int), ()) = some (.inr bad))
  (he : R ((n : Int), ()) = some (.inr good)) : adX R (0, ()) = some (if (List.range n).all p then good else bad) := by
 refine abE (fun i : Int × Unit => ∃ k : Nat, k ≤ n ∧ i = ((k : Int), ()) ∧ ∀ j, j < k → p j = true) (fun i => ((n : Int) - i.1).toNat) (fun _ => if (List.range n).all p then good else bad) ?_ _ ⟨0, zA _, rfl, fun j h => absurd h (Nat.not_lt_zero _)⟩
 rintro i ⟨k, h1, rfl, h2⟩
 rcases zL k n with h | h
 ·cases hp : p k with
  | true =>
   left
   refine ⟨(((k + 1 : Nat) : Int), ()), hs k h hp, ⟨k + 1, h, rfl, fun j hj => ?_⟩, by dsimp only; omega, rfl⟩
   rcases Nat.lt_succ_iff_lt_or_eq.1 hj with h3 | h3
   ·exact h2 j h3
   ·subst h3; exact hp
  | false =>
   right
   rw [hb k h hp]
   have : ¬ ((List.range n).all p = true) := fun hall => by
    have := yn.1 hall k (xp.2 h)
    rw [hp] at this; cases this
   rw [if_neg this]
 ·right
  have hk : k = n := zc
  subst hk
  rw [he, if_pos (yn.2 fun j hj => h2 j (xp.1 hj))]
theorem aJt {α : Type} (l : List α) (d : α) (q : α → Bool) : (List.range l.length).all (fun k => q (l.getD k d)) = l.all q := by
 rw [xA, yn, yn]
 constructor
 ·intro h x hx
  obtain ⟨k, hk, rfl⟩ := List.getElem_of_mem hx
  have := h k (xp.2 hk)
  simpa [hk] using this
 ·intro h k hk
  have hk := xp.1 hk
  have : l.getD k d = l[k] := by simp [hk]
  show q (l.getD k d) = true
  rw [this]; exact h _ (yv hk)
theorem ajX {α : Type} {s t : List α} (d : α) (h : s.length = t.length) : (List.range s.length).all (fun k => eqb (s.getD k d) (t.getD k d)) = eqb s t := by
 rw [xA, yn]
 constructor
 ·intro hall
  refine ac5 (List.ext_getElem h fun k h1 h2 => ?_)
  have := hall k (xp.2 h1)
  unfold eqb at this
  split at this
  ·rename_i e; simpa [h1, h2] using e
  ·cases this
 ·intro he k hk
  unfold eqb at he
  split at he
  ·rename_i e; subst e; exact ac5 rfl
  ·cases he
theorem pairE {a b : Int × Int × Unit} : (match a.1 == b.1 with
 | true =>
  match a.2.1 == b.2.1 with
  | true => true
  | false => false
 | false => false) = eqb a b := by
 obtain ⟨a1, a2, a3⟩ := a
 obtain ⟨b1, b2, b3⟩ := b
 dsimp only
 by_cases c1 : a1 = b1
 case neg => rw [beq_eq_false_iff_ne.2 c1, aaQ (fun h => c1 (Prod.mk.inj h).1)]
 by_cases c2 : a2 = b2
 case neg => rw [zz.2 c1, beq_eq_false_iff_ne.2 c2, aaQ (fun h => c2 (Prod.mk.inj (Prod.mk.inj h).2).1)]
 ·subst c1 c2; rw [ac5 rfl, zz.2 rfl, zz.2 rfl]
theorem apJ {k n : Nat} (h : k < n) (hn : n ≤ 1000000000000) : w64 ((k : Int) + 1) = ((k + 1 : Nat) : Int) := by rw [aaD zc]; rfl
theorem aLV (s t : List OpT) (y) (h : aoN (s, t, ()) = some y) : (aE1 s t).toO = some y := by
 unfold aoN at h
 split at h
 case isFalse => cases h
 case isTrue hl =>
 have hl : s.length ≤ 1000000000000 := hl
 injection h with h
 subst h
 dsimp only
 unfold aE1
 by_cases h1 : s.length = t.length
 case neg =>
  rw [aaQ (fun h => h1 (by rw [h]))]
  exact uT sd rfl
 refine uF sd (uO (0, ()) rfl ?_)
 refine (abK (n := s.length) (bad := (false, ())) (good := (true, ())) (fun k => eqb (s.getD k (0, 0, ())) (t.getD k (0, 0, ()))) (fun k hk hp => ?_) (fun k hk hp => ?_) ?_).trans (by rw [ajX _ h1]; cases eqb s t <;> rfl)
 ·simp only [avS, aaJ]
  refine uT sd (uN sd (uN sd (uF (congrArg (fun b : Bool => !b) (pairE.trans hp)) (uV (uB (uV (uV ?_)))))))
  rw [apJ hk hl]; rfl
 ·simp only [avS, aaJ]
  exact uT sd (uN sd (uN sd (uT (congrArg (fun b : Bool => !b) (pairE.trans hp)) rfl)))
 ·exact uF sd rfl
theorem ayF (s t : List OpT) (y) (h : ah2 (s, t, ()) = some y) : (anO s t).toO = some y := by
 unfold ah2 aoN at h
 split at h
 case isFalse => cases h
 case isTrue hl =>
 have hl : s.length ≤ 1000000000000 := hl
 injection h with h
 subst h
 dsimp only
 unfold anO
 by_cases h1 : s.length = t.length
 case neg =>
  rw [aaQ (fun h => h1 (by rw [h]))]
  exact uT sd rfl
 refine uF sd (uO (0, ()) rfl ?_)
 refine (abK (n := s.length) (bad := (false, ())) (good := (true, ())) (fun k => eqb (s.getD k (0, 0, ())) (t.getD k (0, 0, ()))) (fun k hk hp => ?_) (fun k hk hp => ?_) ?_).trans (by rw [ajX _ h1]; cases eqb s t <;> rfl)
 ·simp only [alO, aaJ]
  refine uT sd (uN sd (uN sd (uF (congrArg (fun b : Bool => !b) (pairE.trans hp)) (uV (uB (uV (uV ?_)))))))
  rw [apJ hk hl]; rfl
 ·simp only [alO, aaJ]
  exact uT sd (uN sd (uN sd (uT (congrArg (fun b : Bool => !b) (pairE.trans hp)) rfl)))
 ·exact uF sd rfl
theorem ayN (s t : List Int) (y) (h : adW (s, t, ()) = some y) : (anQ s t).toO = some y := by
 unfold adW at h
 split at h
 case isFalse => cases h
 case isTrue hl =>
 have hl : s.length ≤ 1000000000000 := hl
 injection h with h
 subst h
 dsimp only
 unfold anQ
 by_cases h1 : s.length = t.length
 case neg =>
  rw [aaQ (fun h => h1 (by rw [h]))]
  exact uT sd rfl
 refine uF sd (uO (0, ()) rfl ?_)
 refine (abK (n := s.length) (bad := (false, ())) (good := (true, ())) (fun k => eqb (s.getD k 0) (t.getD k 0)) (fun k hk hp => ?_) (fun k hk hp => ?_) ?_).trans (by rw [ajX _ h1]; cases eqb s t <;> rfl)
 ·simp only [alR, aaJ]
  have e : s.getD k 0 = t.getD k 0 := by unfold eqb at hp; split at hp; assumption; cases hp
  refine uT sd (uN sd (uN sd (uF (by rw [e]; exact bne_self_eq_false (t.getD k 0)) (uV (uB (uV (uV ?_)))))))
  rw [apJ hk hl]; rfl
 ·simp only [alR, aaJ]
  have e : s.getD k 0 ≠ t.getD k 0 := fun e => by rw [ac5 e] at hp; cases hp
  exact uT sd (uN sd (uN sd (uT (yf.2 e) rfl)))
 ·exact uF sd rfl
theorem azI (n a b : Int) (y) (h : aeZ (n, a, b, ()) = some y) : (an0 n a b).toO = some y := by
 injection h with h
 subst h
 unfold an0
 by_cases h1 : a ≤ n
 ·refine uT (zl (by first | exact h1 | exact h1)) ?_
  show some (decide (n ≤ b), ()) = some (decide (a ≤ n ∧ n ≤ b), ())
  simp [h1]
 ·refine uF (zk (by first | exact h1 | exact h1)) ?_
  show some (false, ()) = some (decide (a ≤ n ∧ n ≤ b), ())
  simp [h1]
theorem atK (n a b : Int) (y) (h : adU (n, a, b, ()) = some y) : (ajL n a b).toO = some y := by
 injection h with h
 subst h
 unfold ajL
 by_cases h1 : a ≤ n
 ·refine uT (zl (by first | exact h1 | exact h1)) ?_
  show some (decide (n ≤ b), ()) = some (decide (a ≤ n ∧ n ≤ b), ())
  simp [h1]
 ·refine uF (zk (by first | exact h1 | exact h1)) ?_
  show some (false, ()) = some (decide (a ≤ n ∧ n ≤ b), ())
  simp [h1]
theorem awO (l : List Int) (y) (h : adJ (l, ()) = some y) : (al4 l).toO = some y := by
 unfold adJ at h
 split at h
 case isFalse => cases h
 case isTrue hl =>
 have hl : l.length ≤ 1000000000000 := hl
 injection h with h
 subst h
 dsimp only
 unfold al4
 refine uO (0, 1, ()) rfl ?_
 refine abE (fun i : Int × Int × Unit => ∃ k : Nat, k ≤ l.length ∧ i = ((k : Int), (l.take k).foldl (fun p n => w64 (p * n)) 1, ())) (fun i => ((l.length : Int) - i.1).toNat) (fun _ => (af5 l, ())) ?_ _ ⟨0, by omega, rfl⟩
 rintro i ⟨k, h2, rfl⟩
 simp only [ao5, aaJ]
 rcases zL k l.length with hk | hk
 ·left
  refine ⟨(((k + 1 : Nat) : Int), (l.take (k + 1)).foldl (fun p n => w64 (p * n)) 1, ()), ?_, ⟨k + 1, by omega, rfl⟩, by dsimp only; omega, zf⟩
  refine uT sd (uN sd (uV (uB (uB (uV (uV ?_))))))
  rw [apJ hk hl, yC hk, List.foldl_append]
  have e : l.getD k 0 = l[k] := by simp [hk]
  rw [e]; rfl
 ·right
  refine uF sd ?_
  rw [zx hk]; rfl
theorem atL (l : List Int) (y) (h : ab5 (l, ()) = some y) : (ajN l).toO = some y := by
 unfold ab5 adJ at h
 split at h
 case isFalse => cases h
 case isTrue hl =>
 have hl : l.length ≤ 1000000000000 := hl
 injection h with h
 subst h
 dsimp only
 unfold ajN
 refine uO (0, 1, ()) rfl ?_
 refine abE (fun i : Int × Int × Unit => ∃ k : Nat, k ≤ l.length ∧ i = ((k : Int), (l.take k).foldl (fun p n => w64 (p * n)) 1, ())) (fun i => ((l.length : Int) - i.1).toNat) (fun _ => (af5 l, ())) ?_ _ ⟨0, by omega, rfl⟩
 rintro i ⟨k, h2, rfl⟩
 simp only [amG, aaJ]
 rcases zL k l.length with hk | hk
 ·left
  refine ⟨(((k + 1 : Nat) : Int), (l.take (k + 1)).foldl (fun p n => w64 (p * n)) 1, ()), ?_, ⟨k + 1, by omega, rfl⟩, by dsimp only; omega, zf⟩
  refine uT sd (uN sd (uV (uB (uB (uV (uV ?_))))))
  rw [apJ hk hl, yC hk, List.foldl_append]
  have e : l.getD k 0 = l[k] := by simp [hk]
  rw [e]; rfl
 ·right
  refine uF sd ?_
  rw [zx hk]; rfl
theorem aB2 {s t : List Int} (h : shL s) : aB1 (s, t, ()) = some (eqb s t, ()) := if_pos h
theorem ah6 {s t : List Int} (h : shL s) : adW (s, t, ()) = some (eqb s t, ()) := if_pos h
theorem eqb_iff {α : Type} {a b : α} : eqb a b = true ↔ a = b := by
 refine ⟨fun h => ?_, ac5⟩
 unfold eqb at h
 split at h
 ·assumption
 ·cases h
theorem aBC {α : Type} {a b : α} {c : Bool} (h : c = true ↔ a = b) : eqb a b = c := by rw [xA, eqb_iff]; exact h.symm
theorem ayK (a b : GrT) (y) (h : ah3 (a, b, ()) = some y) : (anP a b).toO = some y := by
 unfold ah3 apZ at h
 split at h
 case isFalse => cases h
 case isTrue hl =>
 obtain ⟨h1, h2⟩ := hl
 injection h with h
 subst h
 obtain ⟨a1, a2, a3, a4⟩ := a
 obtain ⟨b1, b2, b3, b4⟩ := b
 dsimp only at h1 h2 ⊢
 unfold anP
 dsimp only
 refine uC _ (ah6 h1) ?_
 by_cases c1 : a1 = b1
 case neg => exact uF (aaQ c1) (by rw [aaQ (fun h => c1 (Prod.mk.inj h).1)]; rfl)
 refine uT (ac5 c1) ?_
 by_cases c2 : a2 = b2
 case neg => exact uF (beq_eq_false_iff_ne.2 c2) (by rw [aaQ (fun h => c2 (Prod.mk.inj (Prod.mk.inj h).2).1)]; rfl)
 refine uT (zz.2 c2) (uC _ (ah6 h2) ?_)
 have e : eqb (a1, a2, a3, a4) (b1, b2, b3, b4) = eqb a3 b3 := aBC (by rw [eqb_iff]; subst c1 c2; simp)
 rw [e]; rfl
end Go.Vs
