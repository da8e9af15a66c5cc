/-
  Trees of what the functions compute, and their laws. Own work; no condition.
-/
import Derived.Test.YtgibnaibdcbmmaaGreatDoorClX1
import Derived.KernelRfl
import Derived.Test.YtgibnaibdcbmmaaGreatDoorProg
set_option linter.unusedVariables false
set_option linter.unusedSimpArgs false
namespace Go.Vs
open Go Go.Vg Go.Proofs
theorem aEb : (aMo .unit (.pair .bool .unit) atF).ok Tryz.prog Gt 4 := by
 refine aL8 (by kernel_rfl) (fun w ok vs x y hG hok hvs hy => ?_)
 have hy' : y = (true, ()) := (Option.some.inj hy).symm
 subst hy'
 exact Go.Vg.top_at.2 w ok vs x hG.1 hok hvs rfl
set_option maxRecDepth 100000
open Go Go.Vg Go.Proofs
noncomputable section
def aLv : LTab := [(68, 58, 9216, ⟨0, (Int) × Unit, .dat (.s 13) xW <| .nil, [12, 0, 1], [], 0⟩)]
def awC (s1 : List xX) (s2 : List xX) (i : (Int) × Unit) : TT wd :=
 .ite (decide (i.1 < len s1))
 (.need (inb i.1 (len s1)) <| .need (inb i.1 (len s2)) <| .ite (!(match (gi s1 i.1 (0, 0, ())).1 == (gi s2 i.1 (0, 0, ())).1 with | true => (match (gi s1 i.1 (0, 0, ())).2.1 == (gi s2 i.1 (0, 0, ())).2.1 with | true => true | false => false) | false => false))
 (.ok (.inr ((false, ()))))
 (.tt <| .lt (w64 (i.1 + 1) : Int) fun z => .xC (xD z (len s1) s1 s2) <| .tr <| .ok (.inl ((z, ())))))
 (.ok (.inr ((true, ()))))
def aA4 (s1 : List xX) (s2 : List xX) : TT wi :=
 .ite (len s1 != len s2)
 (.ok ((false, ())))
 (.loop 0 (.tt <| .xC (xD (0 : Int) (len s1) s1 s2) <| .tr <| .ok ((0, ()))) (awC s1 s2))
def aEG : LTab := []
def aoE (n : Int) (low : Int) (high : Int) : TT wi :=
 .ite (decide (low ≤ n))
 (.ok ((decide (n ≤ high), ())))
 (.ok ((false, ())))
def aB2 : LTab := [(153, 58, 5120, ⟨0, (Int) × (Int) × Unit, .dat (.s 8) xW <| .dat (.s 3) xW <| .nil, [7, 6, 2], [], 0⟩)]
def apO (numbers : List Int) (i : (Int) × (Int) × Unit) : TT (wE ⊕ wu) :=
 .ite (decide (i.1 < len numbers))
 (.need (inb i.1 (len numbers)) <| .tt <| .lt (w64 (i.1 + 1) : Int) fun z => .lt (w64 (i.2.1 * gi numbers i.1 0) : Int) fun z1 => .xC (xE z1 z (len numbers) numbers (0 : Int)) <| .tr <| .ok (.inl ((z, z1, ()))))
 (.ok (.inr ((i.2.1, ()))))
def amJ (numbers : List Int) : TT wu :=
 .loop 0 (.tt <| .xC (xE (1 : Int) (0 : Int) (len numbers) numbers (0 : Int)) <| .tr <| .ok ((0, 1, ()))) (apO numbers)
def aHr : LTab := [(102, 58, 17408, ⟨0, (Int) × Unit, .dat (.s 21) xW <| .nil, [20, 19, 1], [0], 0⟩), (102, 250, 38912, ⟨1, (Int) × Unit, .dat (.s 48) xW <| .nil, [47, 46], [0], 0⟩)]
def aoF (g : List Int × Int × List Int × Unit) (y : Bool × Unit) (y1 : Bool × Unit) (i : Int × Unit) (y3 : Int × Unit) (i1 : (Int) × Unit) : TT (wy ⊕ (wy ⊕ wu)) :=
 .ite (decide (i1.1 < len g.2.2.1))
 (.need (inb i1.1 (len g.2.2.1)) <| .call (aeW (gi g.2.2.1 i1.1 0, 0, 65535, ())) Dd1 fun y4 =>
 .ite (!y4.1)
 (.ok (.inr (.inr ((100, ())))))
 (.tt <| .lt (w64 (i1.1 + 1) : Int) fun z1 => .xC (xF z1 (len g.2.2.1) g.2.2.1) <| .xC (xB (xD 79 g.1 g.2.1 g.2.2.1) True) <| .ok (.inl ((z1, ())))))
 (.ok (.inr (.inr ((0, ())))))
def akS (g : List Int × Int × List Int × Unit) (y : Bool × Unit) (y1 : Bool × Unit) (i : (Int) × Unit) : TT (wy ⊕ wu) :=
 .ite (decide (i.1 < len g.1))
 (.need (inb i.1 (len g.1)) <| .call (aeW (gi g.1 i.1 0, 2, 9, ())) Dd1 fun y2 =>
 .ite (!y2.1)
 (.ok (.inr ((100, ()))))
 (.tt <| .lt (w64 (i.1 + 1) : Int) fun z => .xC (xH z (len g.1) g.1 <| wb ∧ True) <| .xC (xB (xD 79 g.1 g.2.1 g.2.2.1) True) <| .ok (.inl ((z, ())))))
 (.ite (decide (len g.2.2.1 > 4096))
 (.ok (.inr ((100, ()))))
 (.call (adI (g.1, ())) Dd6 fun y3 =>
 .ite (len g.2.2.1 != w64 (y3.1 * g.2.1))
 (.ok (.inr ((100, ()))))
 (.loop 1 (.tt <| .xC (xF (0 : Int) (len g.2.2.1) g.2.2.1) <| .xC (xB (xD 79 g.1 g.2.1 g.2.2.1) True) <| .ok ((0, ()))) (aoF g y y1 i y3))))
def ar3 (g : List Int × Int × List Int × Unit) : TT wu :=
 .call (aeW (len g.1, 1, 4, ())) Dd1 fun y =>
 .ite (!y.1)
 (.ok ((100, ())))
 (.call (aeW (g.2.1, 1, 4, ())) Dd1 fun y1 =>
 .ite (!y1.1)
 (.ok ((100, ())))
 (.loop 0 (.tt <| .xC (xH (0 : Int) (len g.1) g.1 <| wb ∧ True) <| .xC (xB (xD 79 g.1 g.2.1 g.2.2.1) True) <| .ok ((0, ()))) (akS g y y1)))
def aJO : LTab := []
def axC (a : List Int × Int × List Int × Unit) (b : List Int × Int × List Int × Unit) : TT wi :=
 .ite (a.2.1 == b.2.1)
 (.call (ahJ (a.1, b.1, ())) Dd1 fun y =>
 .ite (y.1)
 (.call (ahJ (a.2.2.1, b.2.2.1, ())) Dd1 fun y1 =>
 .ok ((y1.1, ())))
 (.ok ((false, ()))))
 (.ok ((false, ())))
def aD7 : LTab := []
def abJ (code : Int) : TT wD :=
 .ite (code == 3)
 (.ite (code == 3)
 (.ok ((2, true, ())))
 (.ite (code == 10)
 (.ok ((3, true, ())))
 (.ok ((0, false, ())))))
 (.ite (code == 4)
 (.ite (code == 4)
 (.ok ((2, true, ())))
 (.ite (code == 10)
 (.ok ((3, true, ())))
 (.ok ((0, false, ())))))
 (.ite (code == 5)
 (.ite (code == 5)
 (.ok ((2, true, ())))
 (.ite (code == 10)
 (.ok ((3, true, ())))
 (.ok ((0, false, ())))))
 (.ite (code == 6)
 (.ite (code == 6)
 (.ok ((2, true, ())))
 (.ite (code == 10)
 (.ok ((3, true, ())))
 (.ok ((0, false, ())))))
 (.ite (code == 7)
 (.ok ((2, true, ())))
 (.ite (code == 10)
 (.ok ((3, true, ())))
 (.ok ((0, false, ()))))))))
def an6 (code : Int) : TT wD :=
 .ite (code == 1)
 (.ite (code == 1)
  (.ok ((0, true, ())))
  (.ite (code == 8)
   (.ite (code == 8)
    (.ok ((1, true, ())))
    (abJ code))
   (.ite (code == 9)
    (.ite (code == 9)
     (.ok ((1, true, ())))
     (abJ code))
    (.ite (code == 12)
     (.ok ((1, true, ())))
     (abJ code)))))
 (.ite (code == 2)
  (.ite (code == 2)
   (.ok ((0, true, ())))
   (.ite (code == 8)
    (.ite (code == 8)
     (.ok ((1, true, ())))
     (abJ code))
    (.ite (code == 9)
     (.ite (code == 9)
      (.ok ((1, true, ())))
      (abJ code))
     (.ite (code == 12)
      (.ok ((1, true, ())))
      (abJ code)))))
  (.ite (code == 11)
   (.ok ((0, true, ())))
   (.ite (code == 8)
    (.ite (code == 8)
     (.ok ((1, true, ())))
     (abJ code))
    (.ite (code == 9)
     (.ite (code == 9)
      (.ok ((1, true, ())))
      (abJ code))
     (.ite (code == 12)
      (.ok ((1, true, ())))
      (abJ code))))))
def awZ : LTab := []
def aiH (op : Int × Int × Unit) (in0 : Int) (length : Int) : TT wi :=
 .ite (op.1 == 1)
 (.ite (decide (0 ≤ op.2.1))
 (.ok ((decide (op.2.1 ≤ w64 (in0 - 1)), ())))
 (.ok ((false, ()))))
 (.ite (op.1 == 2)
 (.ite (decide (-1000000000 ≤ op.2.1))
 (.ok ((decide (op.2.1 ≤ 1000000000), ())))
 (.ok ((false, ()))))
 (.ite (op.1 == 11)
 (.ite (decide (0 ≤ op.2.1))
 (.ok ((decide (op.2.1 ≤ w64 (length - 1)), ())))
 (.ok ((false, ()))))
 (.ite (decide (0 ≤ op.2.1))
 (.ok ((decide (op.2.1 ≤ 0), ())))
 (.ok ((false, ()))))))
def aBy : LTab := [(154, 506, 30720, ⟨0, (Int) × (Int) × (Int) × Unit, .dat (.s 38) xW <| .dat (.s 9) xW <| .dat (.c 0 0) xW <| .nil, [37, 36, 8, 7, 6, 1, 2], [1, 0], 0⟩)]
def ad4 : TT (wG ⊕ xX) :=
 .triv (asT Int (-9223372036854775808) ≤ 120 ∧ asT Int 120 ≤ 9223372036854775807) zd <| .triv (asT Int (-9223372036854775808) ≤ 120 ∧ asT Int 120 ≤ 9223372036854775807) zd <| .tt <| .triv (Exit.normal = Exit.normal ∨ Exit.normal = Exit.ret) (Or.inl rfl) <| .ok (.inr ((0, 120, ())))
def af2 : TT (wG ⊕ xX) :=
 .tt <| .tt <| .triv (asT Int (-9223372036854775808) ≤ 120 ∧ asT Int 120 ≤ 9223372036854775807) zd <| .triv (asT Int (-9223372036854775808) ≤ 120 ∧ asT Int 120 ≤ 9223372036854775807) zd <| .tt <| .triv (Exit.normal = Exit.normal ∨ Exit.normal = Exit.ret) (Or.inl rfl) <| .ok (.inr ((0, 120, ())))
def apH (p : List xX) (in0 : Int) (out0 : Int) (i : (Int) × (Int) × (Int) × Unit) : TT (wG ⊕ xX) :=
 .ite (decide (i.1 < len p))
 (.need (inb i.1 (len p)) <| .call (ah7 ((gi p i.1 (0, 0, ())).1, ())) aOU fun y =>
  .ite (y.2.1)
  (.ite (decide (y.1 ≤ i.2.1))
   (.call (ad9 (((gi p i.1 (0, 0, ())).1, (gi p i.1 (0, 0, ())).2.1, ()), in0, i.2.1, ())) Dd1 fun y1 =>
    .tt <| .tt <| .ite (!y1.1)
    (ad4)
    (.tt <| .tt <| .ite (!decide (w64 (i.2.1 + w64 (1 - y.1)) ≤ 16))
     (ad4)
     (.tt <| .lt (w64 (i.1 + 1) : Int) fun z => .lt (w64 (i.2.1 + w64 (1 - y.1)) : Int) fun z1 => .lt (if z1 > i.2.2.1 then z1 else i.2.2.1 : Int) fun z2 => .xC (xJ z1 z (len p) p <| (xK (231 : FuncId) <| True ∧ True) ∧ wa ∧ wb ∧ xL in0 out0) <| .xC (xB (xL 51 (0 : Int)) <| xB (xL 3 z2) True) <| .ok (.inl ((z, z1, z2, ()))))))
   (af2))
  (af2))
 (.tt <| .tt <| .ite (!i.2.1 == out0)
  (ad4)
  (.tt <| .triv (Exit.normal = Exit.normal ∨ Exit.normal = Exit.ret) (Or.inl rfl) <| .ok (.inr ((i.2.2.1, 0, ())))))
def ac8 : TT xX :=
 .tt <| .tt <| .triv (asT Int (-9223372036854775808) ≤ 120 ∧ asT Int 120 ≤ 9223372036854775807) zd <| .triv (asT Int (-9223372036854775808) ≤ 120 ∧ asT Int 120 ≤ 9223372036854775807) zd <| .tt <| .triv (Exit.normal = Exit.normal ∨ Exit.normal = Exit.ret) (Or.inl rfl) <| .ok ((0, 120, ()))
def al6 (p : List xX) (in0 : Int) (out0 : Int) : TT xX :=
 .ite (decide (1 ≤ in0))
 (.ite (decide (in0 ≤ 4))
  (.ite (decide (1 ≤ out0))
   (.ite (decide (out0 ≤ 4))
    (.tt <| .tt <| .ite (!decide (len p ≤ 40))
     (.triv (asT Int (-9223372036854775808) ≤ 120 ∧ asT Int 120 ≤ 9223372036854775807) zd <| .triv (asT Int (-9223372036854775808) ≤ 120 ∧ asT Int 120 ≤ 9223372036854775807) zd <| .tt <| .triv (Exit.normal = Exit.normal ∨ Exit.normal = Exit.ret) (Or.inl rfl) <| .ok ((0, 120, ())))
     (.loop 0 (.tt <| .xC (xJ (0 : Int) (0 : Int) (len p) p <| (xK (231 : FuncId) <| True ∧ True) ∧ wa ∧ wb ∧ xL in0 out0) <| .xC (xB (xL 51 (0 : Int)) <| xB (xL 3 (0 : Int)) True) <| .ok ((0, 0, 0, ()))) (apH p in0 out0)))
    (ac8))
   (ac8))
  (ac8))
 (ac8)
def aD8 : LTab := []
def an7 (p : List xX) (in0 : Int) (out0 : Int) : TT wu :=
 .call (agM (p, in0, out0, ())) aO8 fun y =>
 .ok ((y.2.1, ()))
def aJU : LTab := []
def axJ (n : Int) : TT wi :=
 .ite (decide (n < -1000000000))
 (.ok ((true, ())))
 (.ok ((decide (n > 1000000000), ())))
def asK : LTab := [(104, 26, 17408, ⟨0, (Int) × Unit, .dat (.s 8) xW <| .nil, [7, 0, 1], [], 0⟩)]
def afC (l : List xY) (i : (Int) × Unit) : TT wd :=
 .ite (decide (i.1 < len l))
 (.need (inb i.1 (len l)) <| .tt <| .tt <| .call (akG (((gi l i.1 (0, [], [], ())).1, (gi l i.1 (0, [], [], ())).2.1, (gi l i.1 (0, [], [], ())).2.2.1, ()), ())) Dd6 fun y =>
 .ite (y.1 != 0)
 (.ok (.inr ((!decide (i.1 ≥ 0), ()))))
 (.tt <| .lt (w64 (i.1 + 1) : Int) fun z => .xC (xH z (len l) l <| (xK (149 : FuncId) <| True ∧ True) ∧ True) <| .tr <| .ok (.inl ((z, ())))))
 (.ok (.inr ((!decide (asT Int (-1) ≥ 0), ()))))
def agE (l : List xY) : TT wi :=
 .ite (decide (len l < 1))
 (.ok ((false, ())))
 (.ite (decide (len l > 4))
 (.ok ((false, ())))
 (.tt <| .tt <| .tt <| .tt <| .loop 0 (.tt <| .xC (xH (0 : Int) (len l) l <| (xK (149 : FuncId) <| True ∧ True) ∧ True) <| .tr <| .ok ((0, ()))) (afC l)))
def asJ : LTab := [(101, 250, 30720, ⟨0, (Int) × Unit, .dat (.s 35) xW <| .nil, [34, 33, 5, 1], [], 0⟩), (229, 26, 48128, ⟨1, (Int) × Unit, .dat (.s 8) xW <| .nil, [7, 0, 1], [], 0⟩), (229, 26, 39936, ⟨2, (Int) × Unit, .dat (.s 8) xW <| .nil, [7, 0, 1], [], 0⟩)]
def abM (rows : List (List Int)) (offset : List Int) (i : Int × Unit) (i1 : (Int) × Unit) : TT wU :=
 .ite (decide (i1.1 < len (gi rows i.1 [])))
 (.need (inb i1.1 (len (gi rows i.1 []))) <| .call (anJ (gi (gi rows i.1 []) i1.1 0, ())) Dd1 fun y =>
 .ite (y.1)
 (.ite (decide (i1.1 ≥ 0))
 (.ok (.inr (.inr ((false, ())))))
 (.tt <| .lt (w64 (i.1 + 1) : Int) fun z => .xC (xE z (len rows) rows (len (gi rows 0 [])) offset) <| .tr <| .ok (.inr (.inl ((z, ()))))))
 (.tt <| .lt (w64 (i1.1 + 1) : Int) fun z1 => .xC (xH z1 (len (gi rows i.1 [])) (gi rows i.1 []) <| (xK (151 : FuncId) <| True ∧ True) ∧ True) <| .tr <| .ok (.inl ((z1, ())))))
 (.tt <| .lt (w64 (i.1 + 1) : Int) fun z2 => .xC (xE z2 (len rows) rows (len (gi rows 0 [])) offset) <| .tr <| .ok (.inr (.inl ((z2, ())))))
def afB (rows : List (List Int)) (offset : List Int) (i : Int × Unit) (i2 : (Int) × Unit) : TT wU :=
 .ite (decide (i2.1 < len offset))
 (.need (inb i2.1 (len offset)) <| .call (anJ (gi offset i2.1 0, ())) Dd1 fun y1 =>
 .ite (y1.1)
 (.ok (.inr (.inr ((!decide (i2.1 ≥ 0), ())))))
 (.tt <| .lt (w64 (i2.1 + 1) : Int) fun z3 => .xC (xH z3 (len offset) offset <| (xK (151 : FuncId) <| True ∧ True) ∧ True) <| .tr <| .ok (.inl ((z3, ())))))
 (.ok (.inr (.inr ((!decide (asT Int (-1) ≥ 0), ())))))
def adE (rows : List (List Int)) (offset : List Int) (i : (Int) × Unit) : TT wd :=
 .ite (decide (i.1 < len rows))
 (.need (inb i.1 (len rows)) <| .ite (len (gi rows i.1 []) != len (gi rows 0 []))
 (.ok (.inr ((false, ()))))
 (.tt <| .tt <| .tt <| .tt <| .loop 1 (.tt <| .xC (xH (0 : Int) (len (gi rows i.1 [])) (gi rows i.1 []) <| (xK (151 : FuncId) <| True ∧ True) ∧ True) <| .tr <| .ok ((0, ()))) (abM rows offset i)))
 (.tt <| .tt <| .tt <| .tt <| .loop 2 (.tt <| .xC (xH (0 : Int) (len offset) offset <| (xK (151 : FuncId) <| True ∧ True) ∧ True) <| .tr <| .ok ((0, ()))) (afB rows offset i))
def agD (rows : List (List Int)) (offset : List Int) : TT wi :=
 .ite (decide (len rows < 1))
 (.ok ((false, ())))
 (.ite (decide (len rows > 4))
 (.ok ((false, ())))
 (.ite (len offset != len rows)
 (.ok ((false, ())))
 (.need (asT Int 0 ≤ 0 ∧ 0 < len rows) <| .ite (decide (len (gi rows 0 []) < 1))
 (.ok ((false, ())))
 (.ite (decide (len (gi rows 0 []) > 4))
 (.ok ((false, ())))
 (.loop 0 (.tt <| .xC (xE (0 : Int) (len rows) rows (len (gi rows 0 [])) offset) <| .tr <| .ok ((0, ()))) (adE rows offset))))))
def aER : LTab := []
def aiV (x : Int × List xY × List (List Int) × List Int × wg × List xX × Int × Int × Unit) : TT wu :=
 .ite (len x.2.2.2.2.2.1 == 0)
 (.ite (x.2.2.2.2.2.2.1 == 0)
 (.ite (x.1 == 1)
 (.ite (len x.2.2.2.1 == 0)
 (.ok ((130, ())))
 (.ok ((130, ()))))
 (.ite (x.1 == 2)
 (.ite (len x.2.1 == 0)
 (.ok ((130, ())))
 (.ok ((130, ()))))
 (.ite (x.1 == 3)
 (.ite (len x.2.1 == 0)
 (.ite (len x.2.2.2.1 == 0)
 (.ite (x.2.2.2.2.2.2.2.1 == 0)
 (.call (ah8 ((x.2.2.2.2.1.1, x.2.2.2.2.1.2.1, x.2.2.2.2.1.2.2.1, ()), ())) Dd6 fun y6 =>
 .ite (!y6.1 == 0)
 (.ok ((130, ())))
 (.ok ((0, ()))))
 (.ok ((130, ()))))
 (.ok ((130, ()))))
 (.ok ((130, ()))))
 (.ite (x.1 == 4)
 (.ite (len x.2.1 == 0)
 (.ite (len x.2.2.2.1 == 0)
 (.ok ((130, ())))
 (.ok ((130, ()))))
 (.ok ((130, ()))))
 (.ok ((130, ())))))))
 (.ite (x.1 == 1)
 (.ite (len x.2.2.2.1 == 0)
 (.ok ((130, ())))
 (.ok ((130, ()))))
 (.ite (x.1 == 2)
 (.ite (len x.2.1 == 0)
 (.ok ((130, ())))
 (.ok ((130, ()))))
 (.ite (x.1 == 3)
 (.ite (len x.2.1 == 0)
 (.ite (len x.2.2.2.1 == 0)
 (.ok ((130, ())))
 (.ok ((130, ()))))
 (.ok ((130, ()))))
 (.ite (x.1 == 4)
 (.ite (len x.2.1 == 0)
 (.ite (len x.2.2.2.1 == 0)
 (.ok ((130, ())))
 (.ok ((130, ()))))
 (.ok ((130, ()))))
 (.ok ((130, ()))))))))
 (.ite (x.1 == 1)
 (.ite (len x.2.2.2.1 == 0)
 (.ok ((130, ())))
 (.ok ((130, ()))))
 (.ite (x.1 == 2)
 (.ite (len x.2.1 == 0)
 (.ok ((130, ())))
 (.ok ((130, ()))))
 (.ite (x.1 == 3)
 (.ite (len x.2.1 == 0)
 (.ite (len x.2.2.2.1 == 0)
 (.ok ((130, ())))
 (.ok ((130, ()))))
 (.ok ((130, ()))))
 (.ite (x.1 == 4)
 (.ite (len x.2.1 == 0)
 (.ite (len x.2.2.2.1 == 0)
 (.ok ((130, ())))
 (.ok ((130, ()))))
 (.ok ((130, ()))))
 (.ok ((130, ())))))))
def aiU (x : Int × List xY × List (List Int) × List Int × wg × List xX × Int × Int × Unit) : TT wu :=
 .ite (len x.2.2.2.2.2.1 == 0)
 (.ite (x.2.2.2.2.2.2.1 == 0)
 (.ite (x.1 == 1)
 (.ok ((130, ())))
 (.ite (x.1 == 2)
 (.ite (len x.2.1 == 0)
 (.ok ((130, ())))
 (.ok ((130, ()))))
 (.ite (x.1 == 3)
 (.ite (len x.2.1 == 0)
 (.ok ((130, ())))
 (.ok ((130, ()))))
 (.ite (x.1 == 4)
 (.ite (len x.2.1 == 0)
 (.ok ((130, ())))
 (.ok ((130, ()))))
 (.ok ((130, ())))))))
 (.ite (x.1 == 1)
 (.ok ((130, ())))
 (.ite (x.1 == 2)
 (.ite (len x.2.1 == 0)
 (.ok ((130, ())))
 (.ok ((130, ()))))
 (.ite (x.1 == 3)
 (.ite (len x.2.1 == 0)
 (.ok ((130, ())))
 (.ok ((130, ()))))
 (.ite (x.1 == 4)
 (.ite (len x.2.1 == 0)
 (.ok ((130, ())))
 (.ok ((130, ()))))
 (.ok ((130, ()))))))))
 (.ite (x.1 == 1)
 (.ok ((130, ())))
 (.ite (x.1 == 2)
 (.ite (len x.2.1 == 0)
 (.ok ((130, ())))
 (.ok ((130, ()))))
 (.ite (x.1 == 3)
 (.ite (len x.2.1 == 0)
 (.ok ((130, ())))
 (.ok ((130, ()))))
 (.ite (x.1 == 4)
 (.ite (len x.2.1 == 0)
 (.ok ((130, ())))
 (.ok ((130, ()))))
 (.ok ((130, ())))))))
def aiT (x : Int × List xY × List (List Int) × List Int × wg × List xX × Int × Int × Unit) : TT wu :=
 .ite (x.1 == 1)
 (.ite (len x.2.2.2.1 == 0)
 (.ite (len x.2.2.2.2.1.2.2.1 == 0)
 (.ok ((130, ())))
 (.ok ((130, ()))))
 (.ok ((130, ()))))
 (.ite (x.1 == 2)
 (.ite (len x.2.1 == 0)
 (.ite (len x.2.2.2.2.1.2.2.1 == 0)
 (.ok ((130, ())))
 (.ok ((130, ()))))
 (.ok ((130, ()))))
 (.ite (x.1 == 3)
 (.ite (len x.2.1 == 0)
 (.ite (len x.2.2.2.1 == 0)
 (.ok ((130, ())))
 (.ok ((130, ()))))
 (.ok ((130, ()))))
 (.ite (x.1 == 4)
 (.ite (len x.2.1 == 0)
 (.ite (len x.2.2.2.1 == 0)
 (.ite (len x.2.2.2.2.1.2.2.1 == 0)
 (.call (afU (x.2.2.2.2.2.1, x.2.2.2.2.2.2.1, x.2.2.2.2.2.2.2.1, ())) Dd6 fun y4 =>
 .ite (!y4.1 == 0)
 (.ok ((130, ())))
 (.ok ((0, ()))))
 (.ok ((130, ()))))
 (.ok ((130, ()))))
 (.ok ((130, ()))))
 (.ok ((130, ()))))))
def aiS (x : Int × List xY × List (List Int) × List Int × wg × List xX × Int × Int × Unit) : TT wu :=
 .ite (x.1 == 1)
 (.ok ((130, ())))
 (.ite (x.1 == 2)
 (.ite (len x.2.1 == 0)
 (.ite (len x.2.2.2.2.1.2.2.1 == 0)
 (.ok ((130, ())))
 (.ok ((130, ()))))
 (.ok ((130, ()))))
 (.ite (x.1 == 3)
 (.ite (len x.2.1 == 0)
 (.ok ((130, ())))
 (.ok ((130, ()))))
 (.ite (x.1 == 4)
 (.ite (len x.2.1 == 0)
 (.ok ((130, ())))
 (.ok ((130, ()))))
 (.ok ((130, ()))))))
def aoQ (x : Int × List xY × List (List Int) × List Int × wg × List xX × Int × Int × Unit) : TT wu :=
 .ite (len x.2.2.1 == 0)
 (.ite (len x.2.2.2.2.1.1 == 0)
  (.ite (x.2.2.2.2.1.2.1 == 0)
   (.ite (len x.2.2.2.2.2.1 == 0)
    (.ite (x.2.2.2.2.2.2.1 == 0)
     (.ite (x.1 == 1)
      (.ite (len x.2.2.2.1 == 0)
       (.ite (len x.2.2.2.2.1.2.2.1 == 0)
        (.ite (x.2.2.2.2.2.2.2.1 == 0)
         (.call (ac0 (x.2.1, ())) Dd1 fun y =>
          .ite (!y.1)
          (.ok ((130, ())))
          (.ok ((0, ()))))
         (.ok ((130, ()))))
        (.ok ((130, ()))))
       (.ok ((130, ()))))
      (.ite (x.1 == 2)
       (.ite (len x.2.1 == 0)
        (.ite (len x.2.2.2.2.1.2.2.1 == 0)
         (.ite (x.2.2.2.2.2.2.2.1 == 0)
          (.call (acJ (x.2.2.1, x.2.2.2.1, ())) Dd1 fun y1 =>
           .ite (!y1.1)
           (.ok ((130, ())))
           (.ok ((0, ()))))
          (.ok ((130, ()))))
         (.ok ((130, ()))))
        (.ok ((130, ()))))
       (.ite (x.1 == 3)
        (.ite (len x.2.1 == 0)
         (.ite (len x.2.2.2.1 == 0)
          (.ite (x.2.2.2.2.2.2.2.1 == 0)
           (.call (ah8 ((x.2.2.2.2.1.1, x.2.2.2.2.1.2.1, x.2.2.2.2.1.2.2.1, ()), ())) Dd6 fun y2 =>
            .ite (!y2.1 == 0)
            (.ok ((130, ())))
            (.ok ((0, ()))))
           (.ok ((130, ()))))
          (.ok ((130, ()))))
         (.ok ((130, ()))))
        (.ite (x.1 == 4)
         (.ite (len x.2.1 == 0)
          (.ite (len x.2.2.2.1 == 0)
           (.ite (len x.2.2.2.2.1.2.2.1 == 0)
            (.call (afU (x.2.2.2.2.2.1, x.2.2.2.2.2.2.1, x.2.2.2.2.2.2.2.1, ())) Dd6 fun y3 =>
             .ite (!y3.1 == 0)
             (.ok ((130, ())))
             (.ok ((0, ()))))
            (.ok ((130, ()))))
           (.ok ((130, ()))))
          (.ok ((130, ()))))
         (.ok ((130, ())))))))
     (aiT x))
    (aiT x))
   (aiV x))
  (aiV x))
 (.ite (len x.2.2.2.2.1.1 == 0)
  (.ite (x.2.2.2.2.1.2.1 == 0)
   (.ite (len x.2.2.2.2.2.1 == 0)
    (.ite (x.2.2.2.2.2.2.1 == 0)
     (.ite (x.1 == 1)
      (.ok ((130, ())))
      (.ite (x.1 == 2)
       (.ite (len x.2.1 == 0)
        (.ite (len x.2.2.2.2.1.2.2.1 == 0)
         (.ite (x.2.2.2.2.2.2.2.1 == 0)
          (.call (acJ (x.2.2.1, x.2.2.2.1, ())) Dd1 fun y8 =>
           .ite (!y8.1)
           (.ok ((130, ())))
           (.ok ((0, ()))))
          (.ok ((130, ()))))
         (.ok ((130, ()))))
        (.ok ((130, ()))))
       (.ite (x.1 == 3)
        (.ite (len x.2.1 == 0)
         (.ok ((130, ())))
         (.ok ((130, ()))))
        (.ite (x.1 == 4)
         (.ite (len x.2.1 == 0)
          (.ok ((130, ())))
          (.ok ((130, ()))))
         (.ok ((130, ())))))))
     (aiS x))
    (aiS x))
   (aiU x))
  (aiU x))
def aHH : LTab := [(62, 58, 36864, ⟨0, (Int) × Unit, .dat (.s 17) xW <| .nil, [16, 15, 1, 2], [1, 0], 0⟩), (64, 58, 54272, ⟨1, (Int) × Unit, .dat (.s 17) xW <| .nil, [16, 15, 1, 2], [1, 0], 0⟩)]
def akV (a : Int × List xY × List (List Int) × List Int × wg × List xX × Int × Int × Unit) (b : Int × List xY × List (List Int) × List Int × wg × List xX × Int × Int × Unit) (i : Int × Unit) (i1 : (Int) × Unit) : TT wU :=
 .ite (decide (i1.1 < len a.2.2.1))
 (.need (inb i1.1 (len a.2.2.1)) <| .need (inb i1.1 (len b.2.2.1)) <| .tt <| .tt <| .call (ahJ (gi a.2.2.1 i1.1 [], gi b.2.2.1 i1.1 [], ())) Dd1 fun y1 =>
 .ite (!y1.1)
 (.ok (.inr (.inr ((false, ())))))
 (.tt <| .lt (w64 (i1.1 + 1) : Int) fun z1 => .xC (xJ z1 (len a.2.2.1) a.2.2.1 b.2.2.1 <| (xK (65 : FuncId) <| True ∧ True) ∧ True) <| .xC (xB (xM 82 b.1 (b.2.1 : List xY) b.2.2.1 b.2.2.2.1 b.2.2.2.2.1.1 b.2.2.2.2.1.2.1 b.2.2.2.2.1.2.2.1 <| xF b.2.2.2.2.2.1 b.2.2.2.2.2.2.1 b.2.2.2.2.2.2.2.1) <| xB (xM 82 a.1 (a.2.1 : List xY) a.2.2.1 a.2.2.2.1 a.2.2.2.2.1.1 a.2.2.2.2.1.2.1 a.2.2.2.2.1.2.2.1 <| xF a.2.2.2.2.2.1 a.2.2.2.2.2.2.1 a.2.2.2.2.2.2.2.1) True) <| .ok (.inl ((z1, ())))))
 (.call (ahJ (a.2.2.2.1, b.2.2.2.1, ())) Dd1 fun y2 =>
 .ite (y2.1)
 (.call (ai2 ((a.2.2.2.2.1.1, a.2.2.2.2.1.2.1, a.2.2.2.2.1.2.2.1, ()), (b.2.2.2.2.1.1, b.2.2.2.2.1.2.1, b.2.2.2.2.1.2.2.1, ()), ())) Dd1 fun y3 =>
 .ite (y3.1)
 (.call (amR (a.2.2.2.2.2.1, b.2.2.2.2.2.1, ())) Dd1 fun y4 =>
 .ok (.inr (.inr ((y4.1, ())))))
 (.ok (.inr (.inr ((false, ()))))))
 (.ok (.inr (.inr ((false, ()))))))
def akW (a : Int × List xY × List (List Int) × List Int × (List Int × Int × List Int × Unit) × List xX × Int × Int × Unit) (b : Int × List xY × List (List Int) × List Int × (List Int × Int × List Int × Unit) × List xX × Int × Int × Unit) (i : (Int) × Unit) : TT wd :=
 .ite (decide (i.1 < len a.2.1))
 (.need (inb i.1 (len a.2.1)) <| .need (inb i.1 (len b.2.1)) <| .call (anK (((gi a.2.1 i.1 (0, [], [], ())).1, (gi a.2.1 i.1 (0, [], [], ())).2.1, (gi a.2.1 i.1 (0, [], [], ())).2.2.1, ()), ((gi b.2.1 i.1 (0, [], [], ())).1, (gi b.2.1 i.1 (0, [], [], ())).2.1, (gi b.2.1 i.1 (0, [], [], ())).2.2.1, ()), ())) Dd1 fun y =>
 .ite (!y.1)
 (.ok (.inr ((false, ()))))
 (.tt <| .lt (w64 (i.1 + 1) : Int) fun z => .xC (xJ z (len a.2.1) (a.2.1 : List xY) (b.2.1 : List xY) <| (xK (63 : FuncId) <| True ∧ True) ∧ True) <| .xC (xB (xM 82 b.1 (b.2.1 : List xY) b.2.2.1 b.2.2.2.1 b.2.2.2.2.1.1 b.2.2.2.2.1.2.1 b.2.2.2.2.1.2.2.1 <| xF b.2.2.2.2.2.1 b.2.2.2.2.2.2.1 b.2.2.2.2.2.2.2.1) <| xB (xM 82 a.1 (a.2.1 : List xY) a.2.2.1 a.2.2.2.1 a.2.2.2.2.1.1 a.2.2.2.2.1.2.1 a.2.2.2.2.1.2.2.1 <| xF a.2.2.2.2.2.1 a.2.2.2.2.2.2.1 a.2.2.2.2.2.2.2.1) True) <| .ok (.inl ((z, ())))))
 (.tt <| .tt <| .ite (len a.2.2.1 != len b.2.2.1)
 (.ok (.inr ((false, ()))))
 (.loop 1 (.tt <| .xC (xJ (0 : Int) (len a.2.2.1) a.2.2.1 b.2.2.1 <| (xK (65 : FuncId) <| True ∧ True) ∧ True) <| .xC (xB (xM 82 b.1 (b.2.1 : List xY) b.2.2.1 b.2.2.2.1 b.2.2.2.2.1.1 b.2.2.2.2.1.2.1 b.2.2.2.2.1.2.2.1 <| xF b.2.2.2.2.2.1 b.2.2.2.2.2.2.1 b.2.2.2.2.2.2.2.1) <| xB (xM 82 a.1 (a.2.1 : List xY) a.2.2.1 a.2.2.2.1 a.2.2.2.2.1.1 a.2.2.2.2.1.2.1 a.2.2.2.2.1.2.2.1 <| xF a.2.2.2.2.2.1 a.2.2.2.2.2.2.1 a.2.2.2.2.2.2.2.1) True) <| .ok ((0, ()))) (akV a b i)))
def asL (a : Int × List xY × List (List Int) × List Int × wg × List xX × Int × Int × Unit) (b : Int × List xY × List (List Int) × List Int × wg × List xX × Int × Int × Unit) : TT wi :=
 .ite (a.1 == b.1)
 (.ite (a.2.2.2.2.2.2.1 == b.2.2.2.2.2.2.1)
 (.ite (a.2.2.2.2.2.2.2.1 == b.2.2.2.2.2.2.2.1)
 (.tt <| .tt <| .ite (len a.2.1 != len b.2.1)
 (.ok ((false, ())))
 (.loop 0 (.tt <| .xC (xJ (0 : Int) (len a.2.1) (a.2.1 : List xY) (b.2.1 : List xY) <| (xK (63 : FuncId) <| True ∧ True) ∧ True) <| .xC (xB (xM 82 b.1 (b.2.1 : List xY) b.2.2.1 b.2.2.2.1 b.2.2.2.2.1.1 b.2.2.2.2.1.2.1 b.2.2.2.2.1.2.2.1 <| xF b.2.2.2.2.2.1 b.2.2.2.2.2.2.1 b.2.2.2.2.2.2.2.1) <| xB (xM 82 a.1 (a.2.1 : List xY) a.2.2.1 a.2.2.2.1 a.2.2.2.2.1.1 a.2.2.2.2.1.2.1 a.2.2.2.2.1.2.2.1 <| xF a.2.2.2.2.2.1 a.2.2.2.2.2.2.1 a.2.2.2.2.2.2.2.1) True) <| .ok ((0, ()))) (akW a b)))
 (.ok ((false, ()))))
 (.ok ((false, ()))))
 (.ok ((false, ())))
def aEQ : LTab := [(104, 26, 15360, ⟨0, (Int) × Unit, .dat (.s 8) xW <| .nil, [7, 0, 1], [0], 0⟩)]
def amK (x : Int × List xY × List (List Int) × List Int × (List Int × Int × List Int × Unit) × List xX × Int × Int × Unit) (y : Int × Unit) (i : (Int) × Unit) : TT wd :=
 .ite (decide (i.1 < len x.2.1))
 (.need (inb i.1 (len x.2.1)) <| .tt <| .tt <| .call (akF (((gi x.2.1 i.1 (0, [], [], ())).1, (gi x.2.1 i.1 (0, [], [], ())).2.1, (gi x.2.1 i.1 (0, [], [], ())).2.2.1, ()), ())) Dd1 fun y1 =>
 .ite (!y1.1)
 (.ok (.inr ((!decide (i.1 ≥ 0), ()))))
 (.tt <| .lt (w64 (i.1 + 1) : Int) fun z => .xC (xH z (len x.2.1) (x.2.1 : List xY) <| (xK (58 : FuncId) <| True ∧ True) ∧ True) <| .xC (xB (xM 82 x.1 (x.2.1 : List xY) x.2.2.1 x.2.2.2.1 x.2.2.2.2.1.1 x.2.2.2.2.1.2.1 x.2.2.2.2.1.2.2.1 <| xF x.2.2.2.2.2.1 x.2.2.2.2.2.2.1 x.2.2.2.2.2.2.2.1) True) <| .ok (.inl ((z, ())))))
 (.ok (.inr ((!decide (asT Int (-1) ≥ 0), ()))))
def aoP (x : Int × List xY × List (List Int) × List Int × wg × List xX × Int × Int × Unit) : TT wi :=
 .call (aeY ((x.1, x.2.1, x.2.2.1, x.2.2.2.1, (x.2.2.2.2.1.1, x.2.2.2.2.1.2.1, x.2.2.2.2.1.2.2.1, ()), x.2.2.2.2.2.1, x.2.2.2.2.2.2.1, x.2.2.2.2.2.2.2.1, ()), ())) Dd6 fun y =>
 .ite (y.1 == 0)
 (.tt <| .tt <| .tt <| .tt <| .loop 0 (.tt <| .xC (xH (0 : Int) (len x.2.1) (x.2.1 : List xY) <| (xK (58 : FuncId) <| True ∧ True) ∧ True) <| .xC (xB (xM 82 x.1 (x.2.1 : List xY) x.2.2.1 x.2.2.2.1 x.2.2.2.2.1.1 x.2.2.2.2.1.2.1 x.2.2.2.2.1.2.2.1 <| xF x.2.2.2.2.2.1 x.2.2.2.2.2.2.1 x.2.2.2.2.2.2.2.1) True) <| .ok ((0, ()))) (amK x y))
 (.ok ((false, ())))
def aJV : LTab := []
def axK (x : Int × List (Int × List Int × List xV × Unit) × List (List Int) × List Int × (List Int × Int × List Int × Unit) × List xX × Int × Int × Unit) : TT xX :=
 .call (aeY ((x.1, x.2.1, x.2.2.1, x.2.2.2.1, (x.2.2.2.2.1.1, x.2.2.2.2.1.2.1, x.2.2.2.2.1.2.2.1, ()), x.2.2.2.2.2.1, x.2.2.2.2.2.2.1, x.2.2.2.2.2.2.2.1, ()), ())) Dd6 fun y =>
 .ite (y.1 != 0)
 (.ok ((0, y.1, ())))
 (.ite (x.1 == 1)
 (.ok ((len x.2.1, 0, ())))
 (.ite (x.1 == 2)
 (.need (asT Int 0 ≤ 0 ∧ 0 < len x.2.2.1) <| .ok ((len (gi x.2.2.1 0 []), 0, ())))
 (.ite (x.1 == 3)
 (.ok ((len x.2.2.2.2.1.1, 0, ())))
 (.ok ((x.2.2.2.2.2.2.1, 0, ()))))))
def aHI : LTab := []
def asM (x : Int × List (Int × List Int × List xV × Unit) × List (List Int) × List Int × (List Int × Int × List Int × Unit) × List xX × Int × Int × Unit) : TT xX :=
 .call (aeY ((x.1, x.2.1, x.2.2.1, x.2.2.2.1, (x.2.2.2.2.1.1, x.2.2.2.2.1.2.1, x.2.2.2.2.1.2.2.1, ()), x.2.2.2.2.2.1, x.2.2.2.2.2.2.1, x.2.2.2.2.2.2.2.1, ()), ())) Dd6 fun y =>
 .ite (y.1 != 0)
 (.ok ((0, y.1, ())))
 (.ite (x.1 == 1)
 (.ok ((len x.2.1, 0, ())))
 (.ite (x.1 == 2)
 (.ok ((len x.2.2.1, 0, ())))
 (.ite (x.1 == 3)
 (.ok ((x.2.2.2.2.1.2.1, 0, ())))
 (.ok ((x.2.2.2.2.2.2.2.1, 0, ()))))))
end
set_option maxRecDepth 100000
open Go Go.Vg Go.Proofs
noncomputable section
def ay5 : LTab := []
def ajV (n : Int) (low : Int) (high : Int) : TT wi :=
 .ite (decide (n ≥ low))
 (.ok ((decide (n ≤ high), ())))
 (.ok ((false, ())))
def ay8 : LTab := [(160, 58, 3072, ⟨0, (Int) × (Int) × Unit, .dat (.s 4) xW <| .dat (.s 3) xW <| .nil, [2, 0], [], 0⟩)]
def amZ (size : List Int) (i : (Int) × (Int) × Unit) : TT (wE ⊕ wu) :=
 .ite (decide (i.1 < len size))
 (.need (inb i.1 (len size)) <| .tt <| .lt (w64 (i.1 + 1) : Int) fun z => .lt (w64 (i.2.1 * gi size i.1 0) : Int) fun z1 => .xC (xD z1 z (0 : Int) size) <| .tr <| .ok (.inl ((z, z1, ()))))
 (.ok (.inr ((i.2.1, ()))))
def ajX (size : List Int) : TT wu :=
 .loop 0 (.tt <| .xC (xD (1 : Int) (0 : Int) (0 : Int) size) <| .tr <| .ok ((0, 1, ()))) (amZ size)
def aBv : LTab := [(110, 58, 14336, ⟨0, (Int) × Unit, .dat (.s 3) xW <| .nil, [1], [0], 0⟩), (110, 250, 36864, ⟨1, (Int) × Unit, .dat (.s 4) xW <| .nil, [1], [0], 0⟩)]
def ajW (g : List Int × Int × List Int × Unit) (y : Bool × Unit) (y1 : Bool × Unit) (i : Int × Unit) (y3 : Int × Unit) (i1 : (Int) × Unit) : TT wU :=
 .ite (decide (i1.1 < len g.2.2.1))
 (.need (inb i1.1 (len g.2.2.1)) <| .call (adT (gi g.2.2.1 i1.1 0, 0, 65535, ())) Dd1 fun y4 =>
 .ite (!y4.1)
 (.ok (.inr (.inr ((false, ())))))
 (.tt <| .lt (w64 (i1.1 + 1) : Int) fun z1 => .xC (xK z1 <| wb ∧ True) <| .xC (xB (xD 79 g.1 g.2.1 g.2.2.1) True) <| .ok (.inl ((z1, ())))))
 (.ok (.inr (.inr ((true, ())))))
def agX (g : List Int × Int × List Int × Unit) (y : Bool × Unit) (y1 : Bool × Unit) (i : (Int) × Unit) : TT wd :=
 .ite (decide (i.1 < len g.1))
 (.need (inb i.1 (len g.1)) <| .call (adT (gi g.1 i.1 0, 2, 9, ())) Dd1 fun y2 =>
 .ite (!y2.1)
 (.ok (.inr ((false, ()))))
 (.tt <| .lt (w64 (i.1 + 1) : Int) fun z => .xC (xK z <| wb ∧ True) <| .xC (xB (xD 79 g.1 g.2.1 g.2.2.1) True) <| .ok (.inl ((z, ())))))
 (.call (ab7 (g.1, ())) Dd6 fun y3 =>
 .ite (len g.2.2.1 != w64 (y3.1 * g.2.1))
 (.ok (.inr ((false, ()))))
 (.ite (decide (len g.2.2.1 > 4096))
 (.ok (.inr ((false, ()))))
 (.loop 1 (.tt <| .xC wK <| .xC (xB (xD 79 g.1 g.2.1 g.2.2.1) True) <| .ok ((0, ()))) (ajW g y y1 i y3))))
def al4 (g : List Int × Int × List Int × Unit) : TT wi :=
 .call (adT (len g.1, 1, 4, ())) Dd1 fun y =>
 .ite (!y.1)
 (.ok ((false, ())))
 (.call (adT (g.2.1, 1, 4, ())) Dd1 fun y1 =>
 .ite (!y1.1)
 (.ok ((false, ())))
 (.loop 0 (.tt <| .xC wK <| .xC (xB (xD 79 g.1 g.2.1 g.2.2.1) True) <| .ok ((0, ()))) (agX g y y1)))
def aD5 : LTab := [(69, 58, 7168, ⟨0, (Int) × Unit, .dat (.s 5) xW <| .nil, [0, 1], [], 0⟩)]
def al5 (a : List Int) (b : List Int) (i : (Int) × Unit) : TT wd :=
 .ite (decide (i.1 < len a))
 (.need (inb i.1 (len a)) <| .need (inb i.1 (len b)) <| .ite (gi a i.1 0 != gi b i.1 0)
 (.ok (.inr ((false, ()))))
 (.tt <| .lt (w64 (i.1 + 1) : Int) fun z => .xC (xF z a b) <| .tr <| .ok (.inl ((z, ())))))
 (.ok (.inr ((true, ()))))
def an5 (a : List Int) (b : List Int) : TT wi :=
 .ite (len a != len b)
 (.ok ((false, ())))
 (.loop 0 (.tt <| .xC (xF (0 : Int) a b) <| .tr <| .ok ((0, ()))) (al5 a b))
def aD3 : LTab := []
def an4 (a : List Int × Int × List Int × Unit) (b : List Int × Int × List Int × Unit) : TT wi :=
 .call (adV (a.1, b.1, ())) Dd1 fun y =>
 .ite (y.1)
 (.ite (a.2.1 == b.2.1)
 (.call (adV (a.2.2.1, b.2.2.1, ())) Dd1 fun y1 =>
 .ok ((y1.1, ())))
 (.ok ((false, ()))))
 (.ok ((false, ())))
def aBp : LTab := []
def abD (code : Int) : TT wu :=
 .ite (code == 3)
 (.ite (code == 3)
 (.ok ((2, ())))
 (.ite (code == 10)
 (.ok ((3, ())))
 (.ok ((-1, ())))))
 (.ite (code == 4)
 (.ite (code == 4)
 (.ok ((2, ())))
 (.ite (code == 10)
 (.ok ((3, ())))
 (.ok ((-1, ())))))
 (.ite (code == 5)
 (.ite (code == 5)
 (.ok ((2, ())))
 (.ite (code == 10)
 (.ok ((3, ())))
 (.ok ((-1, ())))))
 (.ite (code == 6)
 (.ite (code == 6)
 (.ok ((2, ())))
 (.ite (code == 10)
 (.ok ((3, ())))
 (.ok ((-1, ())))))
 (.ite (code == 7)
 (.ok ((2, ())))
 (.ite (code == 10)
 (.ok ((3, ())))
 (.ok ((-1, ()))))))))
def al0 (code : Int) : TT wu :=
 .ite (code == 1)
 (.ite (code == 1)
  (.ok ((0, ())))
  (.ite (code == 8)
   (.ite (code == 8)
    (.ok ((1, ())))
    (abD code))
   (.ite (code == 9)
    (.ite (code == 9)
     (.ok ((1, ())))
     (abD code))
    (.ite (code == 12)
     (.ok ((1, ())))
     (abD code)))))
 (.ite (code == 2)
  (.ite (code == 2)
   (.ok ((0, ())))
   (.ite (code == 8)
    (.ite (code == 8)
     (.ok ((1, ())))
     (abD code))
    (.ite (code == 9)
     (.ite (code == 9)
      (.ok ((1, ())))
      (abD code))
     (.ite (code == 12)
      (.ok ((1, ())))
      (abD code)))))
  (.ite (code == 11)
   (.ok ((0, ())))
   (.ite (code == 8)
    (.ite (code == 8)
     (.ok ((1, ())))
     (abD code))
    (.ite (code == 9)
     (.ite (code == 9)
      (.ok ((1, ())))
      (abD code))
     (.ite (code == 12)
      (.ok ((1, ())))
      (abD code))))))
def ay1 : LTab := []
def ajS (s : Int × Int × Unit) (in0 : Int) (n : Int) : TT wi :=
 .ite (s.1 == 1)
 (.ite (decide (s.2.1 ≥ 0))
 (.ok ((decide (s.2.1 < in0), ())))
 (.ok ((false, ()))))
 (.ite (s.1 == 2)
 (.ite (decide (s.2.1 ≥ -1000000000))
 (.ok ((decide (s.2.1 ≤ 1000000000), ())))
 (.ok ((false, ()))))
 (.ite (s.1 == 11)
 (.ite (decide (s.2.1 ≥ 0))
 (.ok ((decide (s.2.1 < n), ())))
 (.ok ((false, ()))))
 (.ok ((s.2.1 == 0, ())))))
def aBq : LTab := [(161, 122, 24576, ⟨0, (Int) × (Int) × (Int) × Unit, .dat (.s 10) xW <| .dat (.s 9) xW <| .dat (.s 8) xW <| .nil, [0, 1, 2], [], 0⟩)]
def apE (p : List xX) (in0 : Int) (out0 : Int) (i : (Int) × (Int) × (Int) × Unit) : TT (wG ⊕ wD) :=
 .ite (decide (i.1 < len p))
 (.need (inb i.1 (len p)) <| .call (ab1 ((gi p i.1 (0, 0, ())).1, ())) Dd6 fun y =>
 .ite (decide (y.1 < 0))
 (.ok (.inr ((0, false, ()))))
 (.ite (decide (y.1 > i.2.2.1))
 (.ok (.inr ((0, false, ()))))
 (.need (inb i.1 (len p)) <| .call (ahA (gi p i.1 (0, 0, ()), in0, i.2.2.1, ())) Dd1 fun y1 =>
 .ite (!y1.1)
 (.ok (.inr ((0, false, ()))))
 (.tt <| .lt (w64 (i.1 + 1) : Int) fun z => .lt (if w64 (w64 (i.2.2.1 - y.1) + 1) > i.2.1 then w64 (w64 (i.2.2.1 - y.1) + 1) else i.2.1 : Int) fun z1 => .lt (w64 (w64 (i.2.2.1 - y.1) + 1) : Int) fun z2 => .xC (xN z2 z1 z p in0 out0) <| .tr <| .ok (.inl ((z, z1, z2, ())))))))
 (.ite (decide (i.2.1 ≤ 16))
 (.ok (.inr ((i.2.1, i.2.2.1 == out0, ()))))
 (.ok (.inr ((i.2.1, false, ())))))
def al1 (p : List xX) (in0 : Int) (out0 : Int) : TT wD :=
 .ite (decide (in0 < 1))
 (.ok ((0, false, ())))
 (.ite (decide (in0 > 4))
 (.ok ((0, false, ())))
 (.ite (decide (out0 < 1))
 (.ok ((0, false, ())))
 (.ite (decide (out0 > 4))
 (.ok ((0, false, ())))
 (.ite (decide (len p > 40))
 (.ok ((0, false, ())))
 (.loop 0 (.tt <| .xC (xN (0 : Int) (0 : Int) (0 : Int) p in0 out0) <| .tr <| .ok ((0, 0, 0, ()))) (apE p in0 out0))))))
def aBr : LTab := []
def al3 (p : List xX) (in0 : Int) (out0 : Int) : TT wi :=
 .call (agL (p, in0, out0, ())) aOU fun y =>
 .ok ((y.2.1, ()))
def aD0 : LTab := [(71, 58, 7168, ⟨0, (Int) × Unit, .dat (.s 5) xW <| .nil, [0, 1], [], 0⟩)]
def al2 (a : List xX) (b : List xX) (i : (Int) × Unit) : TT wd :=
 .ite (decide (i.1 < len a))
 (.need (inb i.1 (len a)) <| .need (inb i.1 (len b)) <| .ite (!(match (gi a i.1 (0, 0, ())).1 == (gi b i.1 (0, 0, ())).1 with | true => (match (gi a i.1 (0, 0, ())).2.1 == (gi b i.1 (0, 0, ())).2.1 with | true => true | false => false) | false => false))
 (.ok (.inr ((false, ()))))
 (.tt <| .lt (w64 (i.1 + 1) : Int) fun z => .xC (xF z a b) <| .tr <| .ok (.inl ((z, ())))))
 (.ok (.inr ((true, ()))))
def an3 (a : List xX) (b : List xX) : TT wi :=
 .ite (len a != len b)
 (.ok ((false, ())))
 (.loop 0 (.tt <| .xC (xF (0 : Int) a b) <| .tr <| .ok ((0, ()))) (al2 a b))
def aDX : LTab := []
def an0 (g : List Int × Int × List Int × Unit) : TT wi :=
 .ite (len g.1 == 0)
 (.ite (g.2.1 == 0)
 (.ok ((len g.2.2.1 == 0, ())))
 (.ok ((false, ()))))
 (.ok ((false, ())))
def aBl : LTab := [(158, 26, 2048, ⟨0, (Int) × Unit, .dat (.s 3) xW <| .nil, [0], [], 0⟩)]
def ajP (l : List Int) (i : (Int) × Unit) : TT wd :=
 .ite (decide (i.1 < len l))
 (.need (inb i.1 (len l)) <| .ite (decide (gi l i.1 0 < -1000000000))
 (.ok (.inr ((false, ()))))
 (.need (inb i.1 (len l)) <| .ite (decide (gi l i.1 0 > 1000000000))
 (.ok (.inr ((false, ()))))
 (.tt <| .lt (w64 (i.1 + 1) : Int) fun z => .xC (xL z l) <| .tr <| .ok (.inl ((z, ()))))))
 (.ok (.inr ((true, ()))))
def alW (l : List Int) : TT wi :=
 .loop 0 (.tt <| .xC (xL (0 : Int) l) <| .tr <| .ok ((0, ()))) (ajP l)
def aDW : LTab := [(109, 122, 34816, ⟨0, (Int) × Unit, .dat (.s 4) xW <| .nil, [3, 1], [0], 0⟩)]
def aiE (x : Int × List xY × List (List Int) × List Int × (List Int × Int × List Int × Unit) × List xX × Int × Int × Unit) (y : Bool × Unit) (i : (Int) × Unit) : TT wd :=
 .ite (decide (i.1 < len x.2.2.1))
 (.need (inb i.1 (len x.2.2.1)) <| .ite (len (gi x.2.2.1 i.1 []) != len (gi x.2.2.1 0 []))
 (.ok (.inr ((false, ()))))
 (.need (inb i.1 (len x.2.2.1)) <| .call (aeT (gi x.2.2.1 i.1 [], ())) Dd1 fun y1 =>
 .ite (!y1.1)
 (.ok (.inr ((false, ()))))
 (.tt <| .lt (w64 (i.1 + 1) : Int) fun z => .xC (xO z (len (gi x.2.2.1 0 [])) <| wb ∧ True) <| .xC (xB (xM 82 x.1 (x.2.1 : List xY) x.2.2.1 x.2.2.2.1 x.2.2.2.2.1.1 x.2.2.2.2.1.2.1 x.2.2.2.2.1.2.2.1 <| xF x.2.2.2.2.2.1 x.2.2.2.2.2.2.1 x.2.2.2.2.2.2.2.1) True) <| .ok (.inl ((z, ()))))))
 (.ite (decide (len (gi x.2.2.1 0 []) ≥ 1))
 (.ok (.inr ((decide (len (gi x.2.2.1 0 []) ≤ 4), ()))))
 (.ok (.inr ((false, ())))))
def anZ (x : Int × List xY × List (List Int) × List Int × wg × List xX × Int × Int × Unit) : TT wi :=
 .ite (decide (len x.2.2.1 < 1))
 (.ok ((false, ())))
 (.ite (decide (len x.2.2.1 > 4))
 (.ok ((false, ())))
 (.ite (len x.2.2.2.1 != len x.2.2.1)
 (.ok ((false, ())))
 (.call (aeT (x.2.2.2.1, ())) Dd1 fun y =>
 .ite (!y.1)
 (.ok ((false, ())))
 (.need (asT Int 0 ≤ 0 ∧ 0 < len x.2.2.1) <| .loop 0 (.tt <| .xC (xO (0 : Int) (len (gi x.2.2.1 0 [])) <| wb ∧ True) <| .xC (xB (xM 82 x.1 (x.2.1 : List xY) x.2.2.1 x.2.2.2.1 x.2.2.2.2.1.1 x.2.2.2.2.1.2.1 x.2.2.2.2.1.2.2.1 <| xF x.2.2.2.2.2.1 x.2.2.2.2.2.2.1 x.2.2.2.2.2.2.2.1) True) <| .ok ((0, ()))) (aiE x y)))))
def ayX : LTab := [(108, 26, 2048, ⟨0, (Int) × Unit, .dat (.s 3) xW <| .nil, [0], [], 0⟩)]
def afH (l : List xY) (i : (Int) × Unit) : TT wd :=
 .ite (decide (i.1 < len l))
 (.need (inb i.1 (len l)) <| .call (aeR (gi l i.1 (0, [], [], ()), ())) Dd1 fun y =>
 .ite (!y.1)
 (.ok (.inr ((false, ()))))
 (.tt <| .lt (w64 (i.1 + 1) : Int) fun z => .xC (xL z l) <| .tr <| .ok (.inl ((z, ())))))
 (.ite (decide (len l ≥ 1))
 (.ok (.inr ((decide (len l ≤ 4), ()))))
 (.ok (.inr ((false, ())))))
def ajQ (l : List xY) : TT wi :=
 .loop 0 (.tt <| .xC (xL (0 : Int) l) <| .tr <| .ok ((0, ()))) (afH l)
def aBm : LTab := []
def ahG (x : Int × List xY × List (List Int) × List Int × wg × List xX × Int × Int × Unit) (y : (Bool) × Unit) : TT wi :=
 .ite (x.1 == 1)
 (.call (acM (x.2.1, ())) Dd1 fun y5 =>
 .ite (y5.1)
 (.ite (len x.2.2.2.1 == 0)
 (.ite (y.1)
 (.ok ((false, ())))
 (.ok ((false, ()))))
 (.ok ((false, ()))))
 (.ok ((false, ()))))
 (.ite (x.1 == 2)
 (.call (aeU ((x.1, x.2.1, x.2.2.1, x.2.2.2.1, (x.2.2.2.2.1.1, x.2.2.2.2.1.2.1, x.2.2.2.2.1.2.2.1, ()), x.2.2.2.2.2.1, x.2.2.2.2.2.2.1, x.2.2.2.2.2.2.2.1, ()), ())) Dd1 fun y6 =>
 .ite (y6.1)
 (.ite (len x.2.1 == 0)
 (.ite (y.1)
 (.ok ((false, ())))
 (.ok ((false, ()))))
 (.ok ((false, ()))))
 (.ok ((false, ()))))
 (.ite (x.1 == 3)
 (.call (acZ ((x.2.2.2.2.1.1, x.2.2.2.2.1.2.1, x.2.2.2.2.1.2.2.1, ()), ())) Dd1 fun y7 =>
 .ite (y7.1)
 (.ite (len x.2.1 == 0)
 (.ite (len x.2.2.2.1 == 0)
 (.ok ((false, ())))
 (.ok ((false, ()))))
 (.ok ((false, ()))))
 (.ok ((false, ()))))
 (.ite (x.1 == 4)
 (.call (acY (x.2.2.2.2.2.1, x.2.2.2.2.2.2.1, x.2.2.2.2.2.2.2.1, ())) Dd1 fun y8 =>
 .ite (y8.1)
 (.ite (len x.2.1 == 0)
 (.ite (len x.2.2.2.1 == 0)
 (.ok ((y.1, ())))
 (.ok ((false, ()))))
 (.ok ((false, ()))))
 (.ok ((false, ()))))
 (.ok ((false, ()))))))
def ahF (x : Int × List xY × List (List Int) × List Int × wg × List xX × Int × Int × Unit) (y13 : (Bool) × Unit) : TT wi :=
 .ite (x.1 == 1)
 (.call (acM (x.2.1, ())) Dd1 fun y18 =>
 .ite (y18.1)
 (.ok ((false, ())))
 (.ok ((false, ()))))
 (.ite (x.1 == 2)
 (.call (aeU ((x.1, x.2.1, x.2.2.1, x.2.2.2.1, (x.2.2.2.2.1.1, x.2.2.2.2.1.2.1, x.2.2.2.2.1.2.2.1, ()), x.2.2.2.2.2.1, x.2.2.2.2.2.2.1, x.2.2.2.2.2.2.2.1, ()), ())) Dd1 fun y19 =>
 .ite (y19.1)
 (.ite (len x.2.1 == 0)
 (.ite (y13.1)
 (.ok ((false, ())))
 (.ok ((false, ()))))
 (.ok ((false, ()))))
 (.ok ((false, ()))))
 (.ite (x.1 == 3)
 (.call (acZ ((x.2.2.2.2.1.1, x.2.2.2.2.1.2.1, x.2.2.2.2.1.2.2.1, ()), ())) Dd1 fun y20 =>
 .ite (y20.1)
 (.ite (len x.2.1 == 0)
 (.ok ((false, ())))
 (.ok ((false, ()))))
 (.ok ((false, ()))))
 (.ite (x.1 == 4)
 (.call (acY (x.2.2.2.2.2.1, x.2.2.2.2.2.2.1, x.2.2.2.2.2.2.2.1, ())) Dd1 fun y21 =>
 .ite (y21.1)
 (.ite (len x.2.1 == 0)
 (.ok ((false, ())))
 (.ok ((false, ()))))
 (.ok ((false, ()))))
 (.ok ((false, ()))))))
def ahE (x : Int × List xY × List (List Int) × List Int × wg × List xX × Int × Int × Unit) (y : (Bool) × Unit) : TT wi :=
 .call (aeU ((x.1, x.2.1, x.2.2.1, x.2.2.2.1, (x.2.2.2.2.1.1, x.2.2.2.2.1.2.1, x.2.2.2.2.1.2.2.1, ()), x.2.2.2.2.2.1, x.2.2.2.2.2.2.1, x.2.2.2.2.2.2.2.1, ()), ())) Dd1 fun y2 =>
 .ite (y2.1)
 (.ite (len x.2.1 == 0)
 (.ite (y.1)
 (.ok ((x.2.2.2.2.2.2.2.1 == 0, ())))
 (.ok ((false, ()))))
 (.ok ((false, ()))))
 (.ok ((false, ())))
def alY (x : Int × List xY × List (List Int) × List Int × wg × List xX × Int × Int × Unit) : TT wi :=
 .ite (len x.2.2.1 == 0)
 (.call (ah3 ((x.2.2.2.2.1.1, x.2.2.2.2.1.2.1, x.2.2.2.2.1.2.2.1, ()), ())) Dd1 fun y =>
  .ite (len x.2.2.2.2.2.1 == 0)
  (.ite (x.2.2.2.2.2.2.1 == 0)
   (.ite (x.1 == 1)
    (.call (acM (x.2.1, ())) Dd1 fun y1 =>
     .ite (y1.1)
     (.ite (len x.2.2.2.1 == 0)
      (.ite (y.1)
       (.ok ((x.2.2.2.2.2.2.2.1 == 0, ())))
       (.ok ((false, ()))))
      (.ok ((false, ()))))
     (.ok ((false, ()))))
    (.ite (x.1 == 2)
     (ahE x y)
     (.ite (x.1 == 3)
      (.call (acZ ((x.2.2.2.2.1.1, x.2.2.2.2.1.2.1, x.2.2.2.2.1.2.2.1, ()), ())) Dd1 fun y3 =>
       .ite (y3.1)
       (.ite (len x.2.1 == 0)
        (.ite (len x.2.2.2.1 == 0)
         (.ok ((x.2.2.2.2.2.2.2.1 == 0, ())))
         (.ok ((false, ()))))
        (.ok ((false, ()))))
       (.ok ((false, ()))))
      (.ite (x.1 == 4)
       (.call (acY (x.2.2.2.2.2.1, x.2.2.2.2.2.2.1, x.2.2.2.2.2.2.2.1, ())) Dd1 fun y4 =>
        .ite (y4.1)
        (.ite (len x.2.1 == 0)
         (.ite (len x.2.2.2.1 == 0)
          (.ok ((y.1, ())))
          (.ok ((false, ()))))
         (.ok ((false, ()))))
        (.ok ((false, ()))))
       (.ok ((false, ())))))))
   (ahG x y))
  (ahG x y))
 (.call (ah3 ((x.2.2.2.2.1.1, x.2.2.2.2.1.2.1, x.2.2.2.2.1.2.2.1, ()), ())) Dd1 fun y13 =>
  .ite (len x.2.2.2.2.2.1 == 0)
  (.ite (x.2.2.2.2.2.2.1 == 0)
   (.ite (x.1 == 1)
    (.call (acM (x.2.1, ())) Dd1 fun y14 =>
     .ite (y14.1)
     (.ok ((false, ())))
     (.ok ((false, ()))))
    (.ite (x.1 == 2)
     (ahE x y13)
     (.ite (x.1 == 3)
      (.call (acZ ((x.2.2.2.2.1.1, x.2.2.2.2.1.2.1, x.2.2.2.2.1.2.2.1, ()), ())) Dd1 fun y16 =>
       .ite (y16.1)
       (.ite (len x.2.1 == 0)
        (.ok ((false, ())))
        (.ok ((false, ()))))
       (.ok ((false, ()))))
      (.ite (x.1 == 4)
       (.call (acY (x.2.2.2.2.2.1, x.2.2.2.2.2.2.1, x.2.2.2.2.2.2.2.1, ())) Dd1 fun y17 =>
        .ite (y17.1)
        (.ite (len x.2.1 == 0)
         (.ok ((false, ())))
         (.ok ((false, ()))))
        (.ok ((false, ()))))
       (.ok ((false, ())))))))
   (ahF x y13))
  (ahF x y13))
def aDY : LTab := [(34, 58, 66560, ⟨0, (Int) × Unit, .dat (.s 5) xW <| .nil, [3, 2], [1, 0], 0⟩), (34, 122, 72704, ⟨1, (Int) × Unit, .dat (.s 6) xW <| .nil, [3, 2], [1, 0], 0⟩)]
def alX (a : Int × List xY × List (List Int) × List Int × wg × List xX × Int × Int × Unit) (b : Int × List xY × List (List Int) × List Int × wg × List xX × Int × Int × Unit) (y : Bool × Unit) (y1 : Bool × Unit) (y2 : Bool × Unit) (i : Int × Unit) (i1 : (Int) × Unit) : TT wU :=
 .ite (decide (i1.1 < len a.2.2.1))
 (.need (inb i1.1 (len a.2.2.1)) <| .need (inb i1.1 (len b.2.2.1)) <| .call (adV (gi a.2.2.1 i1.1 [], gi b.2.2.1 i1.1 [], ())) Dd1 fun y4 =>
 .ite (!y4.1)
 (.ok (.inr (.inr ((false, ())))))
 (.tt <| .lt (w64 (i1.1 + 1) : Int) fun z1 => .xC (xK z1 <| wa ∧ wb ∧ True) <| .xC (xB (xM 82 b.1 (b.2.1 : List xY) b.2.2.1 b.2.2.2.1 b.2.2.2.2.1.1 b.2.2.2.2.1.2.1 b.2.2.2.2.1.2.2.1 <| xF b.2.2.2.2.2.1 b.2.2.2.2.2.2.1 b.2.2.2.2.2.2.2.1) <| xB (xM 82 a.1 (a.2.1 : List xY) a.2.2.1 a.2.2.2.1 a.2.2.2.2.1.1 a.2.2.2.2.1.2.1 a.2.2.2.2.1.2.2.1 <| xF a.2.2.2.2.2.1 a.2.2.2.2.2.2.1 a.2.2.2.2.2.2.2.1) True) <| .ok (.inl ((z1, ())))))
 (.ok (.inr (.inr ((true, ())))))
def aiF (a : Int × List xY × List (List Int) × List Int × (List Int × Int × List Int × Unit) × List xX × Int × Int × Unit) (b : Int × List xY × List (List Int) × List Int × (List Int × Int × List Int × Unit) × List xX × Int × Int × Unit) (y : Bool × Unit) (y1 : Bool × Unit) (y2 : Bool × Unit) (i : (Int) × Unit) : TT wd :=
 .ite (decide (i.1 < len a.2.1))
 (.need (inb i.1 (len a.2.1)) <| .need (inb i.1 (len b.2.1)) <| .call (akD (gi a.2.1 i.1 (0, [], [], ()), gi b.2.1 i.1 (0, [], [], ()), ())) Dd1 fun y3 =>
 .ite (!y3.1)
 (.ok (.inr ((false, ()))))
 (.tt <| .lt (w64 (i.1 + 1) : Int) fun z => .xC (xK z <| wa ∧ wb ∧ True) <| .xC (xB (xM 82 b.1 (b.2.1 : List xY) b.2.2.1 b.2.2.2.1 b.2.2.2.2.1.1 b.2.2.2.2.1.2.1 b.2.2.2.2.1.2.2.1 <| xF b.2.2.2.2.2.1 b.2.2.2.2.2.2.1 b.2.2.2.2.2.2.2.1) <| xB (xM 82 a.1 (a.2.1 : List xY) a.2.2.1 a.2.2.2.1 a.2.2.2.2.1.1 a.2.2.2.2.1.2.1 a.2.2.2.2.1.2.2.1 <| xF a.2.2.2.2.2.1 a.2.2.2.2.2.2.1 a.2.2.2.2.2.2.2.1) True) <| .ok (.inl ((z, ())))))
 (.loop 1 (.tt <| .xC wB <| .xC (xB (xM 82 b.1 (b.2.1 : List xY) b.2.2.1 b.2.2.2.1 b.2.2.2.2.1.1 b.2.2.2.2.1.2.1 b.2.2.2.2.1.2.2.1 <| xF b.2.2.2.2.2.1 b.2.2.2.2.2.2.1 b.2.2.2.2.2.2.2.1) <| xB (xM 82 a.1 (a.2.1 : List xY) a.2.2.1 a.2.2.2.1 a.2.2.2.2.1.1 a.2.2.2.2.1.2.1 a.2.2.2.2.1.2.2.1 <| xF a.2.2.2.2.2.1 a.2.2.2.2.2.2.1 a.2.2.2.2.2.2.2.1) True) <| .ok ((0, ()))) (alX a b y y1 y2 i))
def an1 (a : Int × List xY × List (List Int) × List Int × wg × List xX × Int × Int × Unit) (b : Int × List xY × List (List Int) × List Int × wg × List xX × Int × Int × Unit) : TT wi :=
 .ite (a.1 != b.1)
 (.ok ((false, ())))
 (.ite (a.2.2.2.2.2.2.1 != b.2.2.2.2.2.2.1)
 (.ok ((false, ())))
 (.ite (a.2.2.2.2.2.2.2.1 != b.2.2.2.2.2.2.2.1)
 (.ok ((false, ())))
 (.ite (len a.2.1 != len b.2.1)
 (.ok ((false, ())))
 (.ite (len a.2.2.1 != len b.2.2.1)
 (.ok ((false, ())))
 (.call (adV (a.2.2.2.1, b.2.2.2.1, ())) Dd1 fun y =>
 .ite (!y.1)
 (.ok ((false, ())))
 (.call (ah6 ((a.2.2.2.2.1.1, a.2.2.2.2.1.2.1, a.2.2.2.2.1.2.2.1, ()), (b.2.2.2.2.1.1, b.2.2.2.2.1.2.1, b.2.2.2.2.1.2.2.1, ()), ())) Dd1 fun y1 =>
 .ite (!y1.1)
 (.ok ((false, ())))
 (.call (ah5 (a.2.2.2.2.2.1, b.2.2.2.2.2.1, ())) Dd1 fun y2 =>
 .ite (!y2.1)
 (.ok ((false, ())))
 (.loop 0 (.tt <| .xC wB <| .xC (xB (xM 82 b.1 (b.2.1 : List xY) b.2.2.1 b.2.2.2.1 b.2.2.2.2.1.1 b.2.2.2.2.1.2.1 b.2.2.2.2.1.2.2.1 <| xF b.2.2.2.2.2.1 b.2.2.2.2.2.2.1 b.2.2.2.2.2.2.2.1) <| xB (xM 82 a.1 (a.2.1 : List xY) a.2.2.1 a.2.2.2.1 a.2.2.2.2.1.1 a.2.2.2.2.1.2.1 a.2.2.2.2.1.2.2.1 <| xF a.2.2.2.2.2.1 a.2.2.2.2.2.2.1 a.2.2.2.2.2.2.2.1) True) <| .ok ((0, ()))) (aiF a b y y1 y2)))))))))
def aBo : LTab := [(31, 58, 6144, ⟨0, (Int) × Unit, .dat (.s 3) xW <| .nil, [1], [0], 0⟩)]
def ajR (x : Int × List xY × List (List Int) × List Int × (List Int × Int × List Int × Unit) × List xX × Int × Int × Unit) (y : Bool × Unit) (i : (Int) × Unit) : TT wd :=
 .ite (decide (i.1 < len x.2.1))
 (.need (inb i.1 (len x.2.1)) <| .call (ah0 (gi x.2.1 i.1 (0, [], [], ()), ())) Dd1 fun y1 =>
 .ite (!y1.1)
 (.ok (.inr ((false, ()))))
 (.tt <| .lt (w64 (i.1 + 1) : Int) fun z => .xC (xK z <| wb ∧ True) <| .xC (xB (xM 82 x.1 (x.2.1 : List xY) x.2.2.1 x.2.2.2.1 x.2.2.2.2.1.1 x.2.2.2.2.1.2.1 x.2.2.2.2.1.2.2.1 <| xF x.2.2.2.2.2.1 x.2.2.2.2.2.2.1 x.2.2.2.2.2.2.2.1) True) <| .ok (.inl ((z, ())))))
 (.ok (.inr ((true, ()))))
def alZ (x : Int × List xY × List (List Int) × List Int × wg × List xX × Int × Int × Unit) : TT wi :=
 .call (adH ((x.1, x.2.1, x.2.2.1, x.2.2.2.1, (x.2.2.2.2.1.1, x.2.2.2.2.1.2.1, x.2.2.2.2.1.2.2.1, ()), x.2.2.2.2.2.1, x.2.2.2.2.2.2.1, x.2.2.2.2.2.2.2.1, ()), ())) Dd1 fun y =>
 .ite (!y.1)
 (.ok ((false, ())))
 (.loop 0 (.tt <| .xC wK <| .xC (xB (xM 82 x.1 (x.2.1 : List xY) x.2.2.1 x.2.2.2.1 x.2.2.2.2.1.1 x.2.2.2.2.1.2.1 x.2.2.2.2.1.2.2.1 <| xF x.2.2.2.2.2.1 x.2.2.2.2.2.2.1 x.2.2.2.2.2.2.2.1) True) <| .ok ((0, ()))) (ajR x y))
def aFU : LTab := []
def aq9 (x : Int × List (Int × List Int × List xV × Unit) × List (List Int) × List Int × (List Int × Int × List Int × Unit) × List xX × Int × Int × Unit) : TT xX :=
 .call (adH ((x.1, x.2.1, x.2.2.1, x.2.2.2.1, (x.2.2.2.2.1.1, x.2.2.2.2.1.2.1, x.2.2.2.2.1.2.2.1, ()), x.2.2.2.2.2.1, x.2.2.2.2.2.2.1, x.2.2.2.2.2.2.2.1, ()), ())) Dd1 fun y =>
 .ite (!y.1)
 (.ok ((0, 130, ())))
 (.ite (x.1 == 1)
 (.ok ((len x.2.1, 0, ())))
 (.ite (x.1 == 2)
 (.need (asT Int 0 ≤ 0 ∧ 0 < len x.2.2.1) <| .ok ((len (gi x.2.2.1 0 []), 0, ())))
 (.ite (x.1 == 3)
 (.ok ((len x.2.2.2.2.1.1, 0, ())))
 (.ok ((x.2.2.2.2.2.2.1, 0, ()))))))
def aDZ : LTab := []
def an2 (x : Int × List (Int × List Int × List xV × Unit) × List (List Int) × List Int × (List Int × Int × List Int × Unit) × List xX × Int × Int × Unit) : TT xX :=
 .call (adH ((x.1, x.2.1, x.2.2.1, x.2.2.2.1, (x.2.2.2.2.1.1, x.2.2.2.2.1.2.1, x.2.2.2.2.1.2.2.1, ()), x.2.2.2.2.2.1, x.2.2.2.2.2.2.1, x.2.2.2.2.2.2.2.1, ()), ())) Dd1 fun y =>
 .ite (!y.1)
 (.ok ((0, 130, ())))
 (.ite (x.1 == 1)
 (.ok ((len x.2.1, 0, ())))
 (.ite (x.1 == 2)
 (.ok ((len x.2.2.1, 0, ())))
 (.ite (x.1 == 3)
 (.ok ((x.2.2.2.2.1.2.1, 0, ())))
 (.ok ((x.2.2.2.2.2.2.2.1, 0, ()))))))
end
set_option maxRecDepth 100000
open Go Go.Vg Go.Proofs
noncomputable section
def aE1 : LTab := []
def aoY (n : Int) (low : Int) (high : Int) : TT wi :=
 .ite (decide (low ≤ n))
 (.ok ((decide (n ≤ high), ())))
 (.ok ((false, ())))
def auD : LTab := [(155, 3, 1024, ⟨0, (Bool) × Unit, .dat (.s 2) (Ty.bool) <| .nil, [0], [], 0⟩), (155, 58, 4096, ⟨1, (Int) × Unit, .dat (.s 15) xW <| .nil, [14, 13], [], 0⟩)]
def aj9 (ajB : List Int) (j : Bool × Unit) (i : (Int) × Unit) : TT wd :=
 .ite (decide (i.1 < len ajB))
 (.need (inb i.1 (len ajB)) <| .call (ac5 (gi ajB i.1 0, 0, 65535, ())) Dd1 fun y =>
 .ite (!y.1)
 (.ok (.inr ((false, ()))))
 (.tt <| .lt (w64 (i.1 + 1) : Int) fun z => .xC (xF z (len ajB) ajB) <| .tr <| .ok (.inl ((z, ())))))
 (.ok (.inr ((true, ()))))
def as2 (ajB : List Int) (j : (Bool) × Unit) : TT wi :=
 .loop 1 (.tt <| .xC (xF (0 : Int) (len ajB) ajB) <| .tr <| .ok ((0, ()))) (aj9 ajB j)
def ahI (ajB : List Int) : TT wi :=
 .join 0 (ι := (Bool) × Unit) (.ite (decide (len ajB < 2))
 (.ok (.inr ((false, ()))))
 (.ite (decide (len ajB > 17))
 (.ok (.inr ((false, ()))))
 (.tt <| .xC (xL false ajB) <| .tr <| .ok (.inl ((false, ())))))) (as2 ajB)
def aES : LTab := [(235, 26, 13312, ⟨0, (Int) × Unit, .dat (.s 17) xW <| .nil, [16, 1], [0], 0⟩), (235, 7, 14336, ⟨1, Unit, .nil, [1], [0], 0⟩), (235, 124, 22528, ⟨2, (Int) × (Int) × Unit, .dat (.s 6) xW <| .dat (.s 5) xW <| .nil, [], [0], 0⟩)]
def asP (p : xV × Int × Bool × Unit) (i : Int × Unit) (j : Unit) (i1 : (Int) × (Int) × Unit) : TT (wE ⊕ wd) :=
 .ite (i1.1 != 0)
 (.need (i1.1 ≠ 0) <| .tt <| .lt (Int.tmod i1.2.1 i1.1 : Int) fun z3 => .xC (xL i1.1 z3) <| .xC (xB (xM 178 p.1.1 p.1.2.1 p.1.2.2.1 p.1.2.2.2.1 p.1.2.2.2.2.1 p.1.2.2.2.2.2.1 p.2.1 <| xQ p.2.2.1) True) <| .ok (.inl ((z3, i1.1, ()))))
 (.ok (.inr (.inr ((i1.2.1 == 1, ())))))
def aCf (p : xV × Int × Bool × Unit) (i : Int × Unit) (j : Unit) : TT wd :=
 .loop 2 (.tt <| .lt (p.1.2.2.2.2.1 : Int) fun z1 => .lt (p.1.2.2.2.1 : Int) fun z2 => .xC (xL z2 z1) <| .xC (xB (xM 178 p.1.1 p.1.2.1 p.1.2.2.1 z2 z1 p.1.2.2.2.2.2.1 p.2.1 <| xQ p.2.2.1) True) <| .ok ((z1, z2, ()))) (asP p i j)
def aeN (p : xV × Int × Bool × Unit) (i : (Int) × Unit) : TT wd :=
 .ite (decide (i.1 < 3))
 (.need (inb i.1 (↑3 : Int)) <| .call (ac5 (gi ([p.1.2.1, p.1.2.2.1, p.1.2.2.2.2.2.1]) i.1 0, -100000000, 100000000, ())) Dd1 fun y =>
 .ite (!y.1)
 (.ok (.inr ((false, ()))))
 (.tt <| .lt (w64 (i.1 + 1) : Int) fun z => .xC (xO z ([p.1.2.1, p.1.2.2.1, p.1.2.2.2.2.2.1] : List Int) <| wb ∧ True) <| .xC (xB (xM 178 p.1.1 p.1.2.1 p.1.2.2.1 p.1.2.2.2.1 p.1.2.2.2.2.1 p.1.2.2.2.2.2.1 p.2.1 <| xQ p.2.2.1) True) <| .ok (.inl ((z, ())))))
 (.join 1 (ι := Unit) (.call (ac5 (p.1.1, w64 (p.2.1 + 1), 1000000, ())) Dd1 fun y1 =>
 .ite (!y1.1)
 (.ok (.inr (.inr ((false, ())))))
 (.call (ac5 (p.1.2.2.2.1, 1, 36, ())) Dd1 fun y2 =>
 .ite (!y2.1)
 (.ok (.inr (.inr ((false, ())))))
 (.call (ac5 (p.1.2.2.2.2.1, 1, 12, ())) Dd1 fun y3 =>
 .ite (!y3.1)
 (.ok (.inr (.inr ((false, ())))))
 (.tt <| .xC (wb ∧ True) <| .xC (xB (xM 178 p.1.1 p.1.2.1 p.1.2.2.1 p.1.2.2.2.1 p.1.2.2.2.2.1 p.1.2.2.2.2.2.1 p.2.1 <| xQ p.2.2.1) True) <| .ok (.inl (())))))) (aCf p i))
def aoT (p : xV × Int × Bool × Unit) : TT wi :=
 .loop 0 (.tt <| .xC (xO (0 : Int) ([p.1.2.1, p.1.2.2.1, p.1.2.2.2.2.2.1] : List Int) <| wb ∧ True) <| .xC (xB (xM 178 p.1.1 p.1.2.1 p.1.2.2.1 p.1.2.2.2.1 p.1.2.2.2.2.1 p.1.2.2.2.2.2.1 p.2.1 <| xQ p.2.2.1) True) <| .ok ((0, ()))) (aeN p)
def aoZ : LTab := [(156, 6, 2048, ⟨0, (Bool) × Unit, .dat (.s 2) (Ty.bool) <| .nil, [1], [0], 0⟩), (157, 14, 14336, ⟨1, (Int) × (Int) × Unit, .dat (.s 9) xW <| .dat (.s 3) xW <| .nil, [8, 7, 0], [8, 4, 2, 0], 0⟩)]
def ag6 (c : Int × List Int × List xV × Unit) (j : Bool × Unit) (i : (Int) × (Int) × Unit) : TT (wE ⊕ wi) :=
 .ite (decide (i.1 < len c.2.2.1))
 (.need (inb i.1 (len c.2.2.1)) <| .call (aeZ ((((gi c.2.2.1 i.1 (0, 0, 0, 0, 0, 0, ())).1, (gi c.2.2.1 i.1 (0, 0, 0, 0, 0, 0, ())).2.1, (gi c.2.2.1 i.1 (0, 0, 0, 0, 0, 0, ())).2.2.1, (gi c.2.2.1 i.1 (0, 0, 0, 0, 0, 0, ())).2.2.2.1, (gi c.2.2.1 i.1 (0, 0, 0, 0, 0, 0, ())).2.2.2.2.1, (gi c.2.2.1 i.1 (0, 0, 0, 0, 0, 0, ())).2.2.2.2.2.1, ()), i.2.1, i.1 == 0, ()), ())) Dd1 fun y =>
 .ite (!y.1)
 (.ok (.inr ((false, ()))))
 (.tt <| .lt (w64 (i.1 + 1) : Int) fun z => .lt ((gi c.2.2.1 i.1 (0, 0, 0, 0, 0, 0, ())).1 : Int) fun z1 => .xC (xJ z1 z (len c.2.2.1) c.2.2.1 <| (xR 8 true) ∧ True) <| .xC (xB (xS (LoopState.ready : LoopState) (none : Option Code) 34 (#[17] : Array Tmp) (atP (ai9 Tryz.f156) [1, 0, 1, 1, 1, 0, 1, 0, 0]) (atP (ai9 Tryz.f156) [1, 0, 1, 1, 1, 0, 1, 0, 1]) <| (xK (157 : FuncId) <| True ∧ wP ∧ True) ∧ (xK ((c.1, c.2.1, c.2.2.1, ()) : Int × List Int × List xV × Unit) <| wl ∧ (xK j.1 <| wb ∧ True))) <| xB (xD 111 c.1 c.2.1 c.2.2.1) <| xB (xL 4 true) <| xB (xD 111 c.1 c.2.1 c.2.2.1) True) <| .ok (.inl ((z, z1, ())))))
 (.need (inb (w64 (len c.2.2.1 - 1)) (len c.2.2.1)) <| .ok (.inr (((gi c.2.2.1 (w64 (len c.2.2.1 - 1)) (0, 0, 0, 0, 0, 0, ())).1 == 1000000, ()))))
def anE (c : Int × List Int × List xV × Unit) (j : (Bool) × Unit) : TT wi :=
 .tt <| .tt <| .tt <| .tt <| .loop 1 (.tt <| .xC (xJ (0 : Int) (0 : Int) (len c.2.2.1) c.2.2.1 <| (xR 8 true) ∧ True) <| .xC (xB (xS (LoopState.ready : LoopState) (none : Option Code) 34 (#[17] : Array Tmp) (atP (ai9 Tryz.f156) [1, 0, 1, 1, 1, 0, 1, 0, 0]) (atP (ai9 Tryz.f156) [1, 0, 1, 1, 1, 0, 1, 0, 1]) <| (xK (157 : FuncId) <| True ∧ wP ∧ True) ∧ (xK ((c.1, c.2.1, c.2.2.1, ()) : Int × List Int × List xV × Unit) <| wl ∧ (xK j.1 <| wb ∧ True))) <| xB (xD 111 c.1 c.2.1 c.2.2.1) <| xB (xL 4 true) <| xB (xD 111 c.1 c.2.1 c.2.2.1) True) <| .ok ((0, 0, ()))) (ag6 c j)
def aeQ (c : Int × List Int × List xV × Unit) : TT wi :=
 .join 0 (ι := (Bool) × Unit) (.ite (decide (len c.2.2.1 < 1))
 (.ok (.inr ((false, ()))))
 (.ite (decide (len c.2.2.1 > 4))
 (.ok (.inr ((false, ()))))
 (.tt <| .xC (xK false <| wb ∧ True) <| .xC (xB (xD 111 c.1 c.2.1 c.2.2.1) True) <| .ok (.inl ((false, ())))))) (anE c)
def aH9 : LTab := []
def as4 (c : Int × List Int × List xV × Unit) : TT wu :=
 .ite (c.1 == 1)
 (.ite (len c.2.1 == 0)
 (.ite (!len c.2.2.1 == 0)
 (.ok ((90, ())))
 (.ok ((0, ()))))
 (.ok ((90, ()))))
 (.ite (c.1 == 2)
 (.call (ahK (c.2.1, ())) Dd1 fun y =>
 .ite (y.1)
 (.ite (!len c.2.2.1 == 0)
 (.ok ((90, ())))
 (.ok ((0, ()))))
 (.ok ((90, ()))))
 (.ite (c.1 == 3)
 (.ite (len c.2.1 == 0)
 (.call (ae1 ((c.1, c.2.1, c.2.2.1, ()), ())) Dd1 fun y1 =>
 .ite (!y1.1)
 (.ok ((90, ())))
 (.ok ((0, ()))))
 (.ok ((90, ()))))
 (.ok ((90, ())))))
def aLw : LTab := [(66, 58, 9216, ⟨0, (Int) × Unit, .dat (.s 13) xW <| .nil, [12, 0, 1], [], 0⟩)]
def aCL (s1 : List Int) (s2 : List Int) (i : (Int) × Unit) : TT wd :=
 .ite (decide (i.1 < len s1))
 (.need (inb i.1 (len s1)) <| .need (inb i.1 (len s2)) <| .ite (gi s1 i.1 0 != gi s2 i.1 0)
 (.ok (.inr ((false, ()))))
 (.tt <| .lt (w64 (i.1 + 1) : Int) fun z => .xC (xD z (len s1) s1 s2) <| .tr <| .ok (.inl ((z, ())))))
 (.ok (.inr ((true, ()))))
def aA5 (s1 : List Int) (s2 : List Int) : TT wi :=
 .ite (len s1 != len s2)
 (.ok ((false, ())))
 (.loop 0 (.tt <| .xC (xD (0 : Int) (len s1) s1 s2) <| .tr <| .ok ((0, ()))) (aCL s1 s2))
def aLu : LTab := [(113, 58, 9216, ⟨0, (Int) × Unit, .dat (.s 13) xW <| .nil, [12, 0, 1], [], 0⟩)]
def aCK (s1 : List xV) (s2 : List xV) (i : (Int) × Unit) : TT wd :=
 .ite (decide (i.1 < len s1))
 (.need (inb i.1 (len s1)) <| .need (inb i.1 (len s2)) <| .ite (!(match (gi s1 i.1 (0, 0, 0, 0, 0, 0, ())).1 == (gi s2 i.1 (0, 0, 0, 0, 0, 0, ())).1 with | true => (match (gi s1 i.1 (0, 0, 0, 0, 0, 0, ())).2.1 == (gi s2 i.1 (0, 0, 0, 0, 0, 0, ())).2.1 with | true => (match (gi s1 i.1 (0, 0, 0, 0, 0, 0, ())).2.2.1 == (gi s2 i.1 (0, 0, 0, 0, 0, 0, ())).2.2.1 with | true => (match (gi s1 i.1 (0, 0, 0, 0, 0, 0, ())).2.2.2.1 == (gi s2 i.1 (0, 0, 0, 0, 0, 0, ())).2.2.2.1 with | true => (match (gi s1 i.1 (0, 0, 0, 0, 0, 0, ())).2.2.2.2.1 == (gi s2 i.1 (0, 0, 0, 0, 0, 0, ())).2.2.2.2.1 with | true => (match (gi s1 i.1 (0, 0, 0, 0, 0, 0, ())).2.2.2.2.2.1 == (gi s2 i.1 (0, 0, 0, 0, 0, 0, ())).2.2.2.2.2.1 with | true => true | false => false) | false => false) | false => false) | false => false) | false => false) | false => false))
 (.ok (.inr ((false, ()))))
 (.tt <| .lt (w64 (i.1 + 1) : Int) fun z => .xC (xD z (len s1) s1 s2) <| .tr <| .ok (.inl ((z, ())))))
 (.ok (.inr ((true, ()))))
def aA3 (s1 : List xV) (s2 : List xV) : TT wi :=
 .ite (len s1 != len s2)
 (.ok ((false, ())))
 (.loop 0 (.tt <| .xC (xD (0 : Int) (len s1) s1 s2) <| .tr <| .ok ((0, ()))) (aCK s1 s2))
def aJ5 : LTab := []
def axV (a : Int × List Int × List xV × Unit) (b : Int × List Int × List xV × Unit) : TT wi :=
 .ite (a.1 == b.1)
 (.call (ahJ (a.2.1, b.2.1, ())) Dd1 fun y =>
 .ite (y.1)
 (.call (atG (a.2.2.1, b.2.2.1, ())) Dd1 fun y1 =>
 .ok ((y1.1, ())))
 (.ok ((false, ()))))
 (.ok ((false, ())))
def aH8 : LTab := [(157, 14, 16384, ⟨0, (Int) × (Int) × Unit, .dat (.s 9) xW <| .dat (.s 3) xW <| .nil, [8, 7, 0], [10, 6, 1, 0], 0⟩)]
def avT (c : Int × List Int × List xV × Unit) (y : Int × Unit) (i : (Int) × (Int) × Unit) : TT (wE ⊕ wi) :=
 .ite (decide (i.1 < len c.2.2.1))
 (.need (inb i.1 (len c.2.2.1)) <| .ite ((gi c.2.2.1 i.1 (0, 0, 0, 0, 0, 0, ())).2.2.2.2.1 != 1)
 (.ok (.inr ((false, ()))))
 (.tt <| .lt (w64 (i.1 + 1) : Int) fun z => .lt ((gi c.2.2.1 i.1 (0, 0, 0, 0, 0, 0, ())).1 : Int) fun z1 => .xC (xJ z1 z (len c.2.2.1) c.2.2.1 <| (xR 10 true) ∧ True) <| .xC (xB (xS (LoopState.ready : LoopState) (none : Option Code) 14 (#[9] : Array Tmp) (atP (ai9 Tryz.f59) [1, 1, 0, 1, 0, 0]) (atP (ai9 Tryz.f59) [1, 1, 0, 1, 0, 1]) <| (xK (157 : FuncId) <| True ∧ (xI 6 0 true) ∧ True) ∧ (xJ ((c.1, c.2.1, c.2.2.1, ()) : Int × List Int × List xV × Unit) (y.1 != 0) y.1 ((c.1, c.2.1, c.2.2.1, ()) : Int × List Int × List xV × Unit) <| wa ∧ wb ∧ xQ c)) <| xB (xD 111 c.1 c.2.1 c.2.2.1) <| xB (xL 4 false) <| xB (xD 111 c.1 c.2.1 c.2.2.1) True) <| .ok (.inl ((z, z1, ())))))
 (.ok (.inr ((true, ()))))
def as3 (c : Int × List Int × List xV × Unit) : TT wi :=
 .call (akG ((c.1, c.2.1, c.2.2.1, ()), ())) Dd6 fun y =>
 .ite (y.1 != 0)
 (.ok ((false, ())))
 (.tt <| .tt <| .tt <| .tt <| .loop 0 (.tt <| .xC (xJ (0 : Int) (0 : Int) (len c.2.2.1) c.2.2.1 <| (xR 10 true) ∧ True) <| .xC (xB (xS (LoopState.ready : LoopState) (none : Option Code) 14 (#[9] : Array Tmp) (atP (ai9 Tryz.f59) [1, 1, 0, 1, 0, 0]) (atP (ai9 Tryz.f59) [1, 1, 0, 1, 0, 1]) <| (xK (157 : FuncId) <| True ∧ (xI 6 0 true) ∧ True) ∧ (xJ ((c.1, c.2.1, c.2.2.1, ()) : Int × List Int × List xV × Unit) (y.1 != 0) y.1 ((c.1, c.2.1, c.2.2.1, ()) : Int × List Int × List xV × Unit) <| wa ∧ wb ∧ xQ c)) <| xB (xD 111 c.1 c.2.1 c.2.2.1) <| xB (xL 4 false) <| xB (xD 111 c.1 c.2.1 c.2.2.1) True) <| .ok ((0, 0, ()))) (avT c y))
end
open Go Go.Vg
theorem aAG (n a b : Int) (y) (h : ac5 (n, a, b, ()) = some y) : (aoY n a b).toO = some y := by
 injection h with h
 subst h
 unfold aoY
 by_cases c : a ≤ n
 ·refine uT (zl c) ?_
  rw [abQ]
  congr 2
  exact decide_eq_decide.2 ⟨fun h => ⟨c, h⟩, fun h => h.2⟩
 ·refine uF (zk c) ?_
  rw [abQ, zk (fun h : inR n a b => c h.1)]
theorem abW (n a b : Int) : ac5 (n, a, b, ()) = some (decide (inR n a b), ()) := rfl
theorem ap2 (l : List Int) (y) (h : ahK (l, ()) = some y) : (ahI l).toO = some y := by
 injection h with h
 subst h
 unfold ahI
 dsimp only
 by_cases h1 : l.length < 2
 ·rw [zk (fun h : ae4 l => by have := h.1; omega)]
  exact uR _ (uT sd rfl)
 by_cases h2 : l.length > 17
 ·rw [zk (fun h : ae4 l => by have := h.2.1; omega)]
  exact uR _ (uF sd (uT sd rfl))
 refine uL (false, ()) (uF sd (uF sd rfl)) ?_
 refine uO (0, ()) rfl ?_
 refine abA (fun i : Int × Unit => ∃ k : Nat, k ≤ l.length ∧ i = ((k : Int), ()) ∧ ∀ v ∈ l.take k, inR v 0 65535) (fun i => ((l.length : Int) - i.1).toNat) (fun _ => (decide (ae4 l), ())) ?_ _ ⟨0, by omega, rfl, by simp⟩
 rintro i ⟨k, h3, rfl, h4⟩
 simp only [aj9, aaI]
 rcases zH k l.length with hk | hk
 ·have e : l.getD k 0 = l[k] := by simp [hk]
  rw [e]
  by_cases c : inR l[k] 0 65535
  ·left
   refine ⟨(((k + 1 : Nat) : Int), ()), ?_, ⟨k + 1, by omega, rfl, ?_⟩, by simp only; omega, ze⟩
   ·refine uT sd (uN sd (uC _ (abW _ _ _) (uF (by rw [zl c]; rfl) ?_)))
    repeat refine za ?_
    simp (disch := omega) only [abQ, aaD, aAV, aAW, aFn, aaI, zw, zz, aaB, zB]
    rfl
   ·intro v hv
    rw [zR hk] at hv
    rcases zx.1 hv with hv | hv
    ·exact h4 v hv
    ·rw [zG.1 hv]; exact c
  ·right
   rw [zk (fun h : ae4 l => c (h.2.2 _ (yi hk)))]
   exact uT sd (uN sd (uC _ (abW _ _ _) (uT (by rw [zk c]; rfl) rfl)))
 ·right
  rw [zq hk] at h4
  rw [zl (show ae4 l from ⟨by omega, by omega, h4⟩)]
  exact uF sd rfl
theorem aJN {a b : Int} (ha : 0 ≤ a) (hb : 0 < b) : Nat.gcd b.natAbs (Int.tmod a b).natAbs = Nat.gcd a.natAbs b.natAbs := by
 obtain ⟨m, rfl⟩ := yF ha
 obtain ⟨n, rfl⟩ := yF (Int.le_of_lt hb)
 rw [zU ha]
 have : ((m : Int) % (n : Int)) = ((m % n : Nat) : Int) := zf
 rw [this, xn, xn, xn, Nat.gcd_comm n, Nat.gcd_comm m n, Nat.gcd_rec n m]
theorem aFi {p : PcT} (h : inR p.2.1 0 1000000) : aeZ (p, ()) = some (decide (ahM p.2.1 p.1), ()) := by unfold aeZ; rw [if_pos h]
theorem aAs (p : PcT) (y) (h : aeZ (p, ()) = some y) : (aoT p).toO = some y := by
 unfold aeZ at h
 split at h
 case isFalse => cases h
 case isTrue hfrom =>
 injection h with h
 subst h
 obtain ⟨hf0, hf1⟩ := hfrom
 dsimp only at hf0 hf1 ⊢
 obtain ⟨⟨till, mul, add, nu, de, off, u⟩, fr, first, u'⟩ := p
 dsimp only at hf0 hf1 ⊢
 unfold aoT
 refine uO (0, ()) rfl ?_
 have bad : ∀ b : Bool, b = false → (decide (ahM fr (till, mul, add, nu, de, off, u)), ()) = (false, ()) ∨ ahM fr (till, mul, add, nu, de, off, u) := fun b hb => by
  by_cases c : ahM fr (till, mul, add, nu, de, off, u)
  ·exact Or.inr c
  ·left; rw [zk c]
 have step : ∀ (k : Nat) (x : Int), k < 3 → gi [mul, add, off] (k : Int) 0 = x → (inR x (-100000000) 100000000 → (aeN ((till, mul, add, nu, de, off, u), fr, first, u') ((k : Int), ())).toO = some (.inl (((k + 1 : Nat) : Int), ()))) ∧ (¬ inR x (-100000000) 100000000 → (aeN ((till, mul, add, nu, de, off, u), fr, first, u') ((k : Int), ())).toO = some (.inr (false, ()))) := by
  intro k x hk hx
  constructor
  ·intro c
   unfold aeN
   dsimp only
   refine uT sd (uN ⟨by omega, by omega⟩ ?_)
   rw [hx]
   refine uC _ (abW _ _ _) (uF (by rw [zl c]; rfl) ?_)
   repeat refine za ?_
   simp (disch := omega) only [abQ, aaD, aAV, aAW, aFn, aaI, zw, zz, aaB, zB]
   rfl
  ·intro c
   unfold aeN
   dsimp only
   refine uT sd (uN ⟨by omega, by omega⟩ ?_)
   rw [hx]
   exact uC _ (abW _ _ _) (uT (by rw [zk c]; rfl) rfl)
 by_cases c1 : inR mul (-100000000) 100000000
 case neg =>
  rw [zk (fun h : ahM _ _ => c1 h.1.1)]
  exact ahX ((step 0 mul zc rfl).2 c1)
 rw [akO ((step 0 mul zc rfl).1 c1)]
 by_cases c2 : inR add (-100000000) 100000000
 case neg =>
  rw [zk (fun h : ahM _ _ => c2 h.1.2.1)]
  exact ahX ((step 1 add zc rfl).2 c2)
 rw [akO ((step 1 add zc rfl).1 c2)]
 by_cases c3 : inR off (-100000000) 100000000
 case neg =>
  rw [zk (fun h : ahM _ _ => c3 h.1.2.2.1)]
  exact ahX ((step 2 off zc rfl).2 c3)
 rw [akO ((step 2 off zc rfl).1 c3)]
 refine ahX ?_
 unfold aeN
 refine uF rfl ?_
 dsimp only
 have hw : w64 (fr + 1) = fr + 1 := aaD zc
 by_cases c4 : inR till (fr + 1) 1000000
 case neg =>
  rw [zk (fun h : ahM _ _ => c4 h.2)]
  refine uR _ (uC _ (abW _ _ _) (uT (by rw [hw, zk c4]; rfl) rfl))
 by_cases c5 : inR nu 1 36
 case neg =>
  rw [zk (fun h : ahM _ _ => c5 h.1.2.2.2.1)]
  refine uR _ (uC _ (abW _ _ _) (uF (by rw [hw, zl c4]; rfl) (uC _ (abW _ _ _) (uT (by rw [zk c5]; rfl) rfl))))
 by_cases c6 : inR de 1 12
 case neg =>
  rw [zk (fun h : ahM _ _ => c6 h.1.2.2.2.2.1)]
  refine uR _ (uC _ (abW _ _ _) (uF (by rw [hw, zl c4]; rfl) (uC _ (abW _ _ _) (uF (by rw [zl c5]; rfl) (uC _ (abW _ _ _) (uT (by rw [zk c6]; rfl) rfl))))))
 refine uL () (uC _ (abW _ _ _) (uF (by rw [hw, zl c4]; rfl) (uC _ (abW _ _ _) (uF (by rw [zl c5]; rfl) (uC _ (abW _ _ _) (uF (by rw [zl c6]; rfl) rfl)))))) ?_
 refine uO (de, nu, ()) rfl ?_
 have hd : decide (ahM fr (till, mul, add, nu, de, off, u)) = decide (Nat.gcd nu.natAbs de.natAbs = 1) := decide_eq_decide.2 ⟨fun h => h.1.2.2.2.2.2, fun h => ⟨⟨c1, c2, c3, c5, c6, h⟩, c4⟩⟩
 rw [hd]
 refine abA (fun i : Int × Int × Unit => 0 ≤ i.1 ∧ 0 ≤ i.2.1 ∧ Nat.gcd i.2.1.natAbs i.1.natAbs = Nat.gcd nu.natAbs de.natAbs) (fun i => i.1.toNat) (fun _ => (.inr (decide (Nat.gcd nu.natAbs de.natAbs = 1), ()) : (Int × Unit) ⊕ (Bool × Unit))) ?_ _ ⟨by show (0 : Int) ≤ de; have := c6.1; omega, by show (0 : Int) ≤ nu; have := c5.1; omega, rfl⟩
 rintro ⟨b, a, u2⟩ ⟨g1, g2, g3⟩
 dsimp only at g1 g2 g3
 unfold asP
 by_cases hb : b = 0
 ·right
  subst hb
  refine uF rfl ?_
  have g4 : a.natAbs = Nat.gcd nu.natAbs de.natAbs := by simpa using g3
  show some (Sum.inr (Sum.inr (a == 1, ()))) = _
  by_cases c : a = 1
  ·rw [zl (show Nat.gcd nu.natAbs de.natAbs = 1 by omega), c]; rfl
  ·rw [zk (show ¬ Nat.gcd nu.natAbs de.natAbs = 1 by omega), beq_eq_false_iff_ne.2 c]
 ·left
  have hlt : Int.tmod a b < b := by rw [zU g2]; exact yJ _ zc
  have hge : 0 ≤ Int.tmod a b := by rw [zU g2]; exact yW _ hb
  refine ⟨(Int.tmod a b, b, ()), ?_, ⟨hge, by dsimp only; omega, ?_⟩, by dsimp only; omega, ze⟩
  ·refine uT (by simpa using hb) (uN hb ?_)
   repeat refine za ?_
   rfl
  ·dsimp only
   rw [← g3]; exact aJN g2 zc
abbrev zs : ajC := (0, 0, 0, 0, 0, 0, ())
theorem aDI {last : Int} : agT last [] ↔ last = 1000000 := Iff.rfl
theorem aA7 {last : Int} {s : ajC} {r : List ajC} : agT last (s :: r) ↔ ahM last s ∧ agT s.1 r := Iff.rfl
theorem amP (c : CvT) (y) (h : ae1 (c, ()) = some y) : (aeQ c).toO = some y := by
 injection h with h
 subst h
 obtain ⟨kind, tab, l, u0⟩ := c
 dsimp only
 unfold aeQ
 dsimp only
 by_cases h1 : l.length < 1
 ·rw [zk (fun h : adK l => by have := h.1; omega)]
  exact uR _ (uT sd rfl)
 by_cases h2 : l.length > 4
 ·rw [zk (fun h : adK l => by have := h.2.1; omega)]
  exact uR _ (uF sd (uT sd rfl))
 refine uL (false, ()) (uF sd (uF sd rfl)) ?_
 refine uO (0, 0, ()) rfl ?_
 have hl : decide (adK l) = decide (agT 0 l) := decide_eq_decide.2 ⟨fun h => h.2.2, fun h => ⟨by omega, by omega, h⟩⟩
 rw [hl]
 refine abA (fun i : Int × Int × Unit => ∃ k : Nat, k ≤ l.length ∧ i.1 = (k : Int) ∧ inR i.2.1 0 1000000 ∧ (agT 0 l ↔ agT i.2.1 (l.drop k)) ∧ (k ≠ 0 → i.2.1 = (l.getD (k - 1) zs).1)) (fun i => ((l.length : Int) - i.1).toNat) (fun _ => (decide (agT 0 l), ())) ?_ _ ⟨0, by omega, rfl, ⟨by simp, by simp⟩, by simp, by simp⟩
 rintro ⟨i, last, u⟩ ⟨k, h3, h4, h5, h6, h7⟩
 dsimp only at h4 h5 h6 h7
 subst h4
 simp only [ag6, aaI]
 rcases zH k l.length with hk | hk
 ·have e : l.getD k zs = l[k] := by simp [hk]
  have hv : aeZ ((((l.getD k zs).1, (l.getD k zs).2.1, (l.getD k zs).2.2.1, (l.getD k zs).2.2.2.1, (l.getD k zs).2.2.2.2.1, (l.getD k zs).2.2.2.2.2.1, ()), last, (k : Int) == 0, ()), ()) = some (decide (ahM last l[k]), ()) := by
   rw [aFi h5, e]
  rw [yj hk, aA7] at h6
  by_cases c : ahM last l[k]
  ·left
   refine ⟨(((k + 1 : Nat) : Int), l[k].1, ()), ?_, ⟨k + 1, by omega, rfl, ⟨?_, c.2.2⟩, ⟨fun h => (h6.1 h).2, fun h => h6.2 ⟨c, h⟩⟩, fun _ => by rw [Nat.add_sub_cancel, e]⟩, by dsimp only; omega, ze⟩
   ·refine uT sd (uN sd (uC _ hv (uF (by rw [zl c]; rfl) ?_)))
    repeat refine za ?_
    rw [aaD (x := (k : Int) + 1) zc]
    show some (Sum.inl (((k + 1 : Nat) : Int), (l.getD k zs).1, ())) = _
    rw [e]
   ·have := h5.1; have := c.2.1; dsimp only; omega
  ·right
   rw [zk (fun h => c (h6.1 h).1)]
   exact uT sd (uN sd (uC _ hv (uT (by rw [zk c]; rfl) rfl)))
 ·right
  have hkl : k = l.length := zc
  subst hkl
  rw [List.drop_length, aDI] at h6
  have hw : w64 (len l - 1) = ((l.length - 1 : Nat) : Int) := by rw [aaB, aaD (x := (l.length : Int) - 1) zc]; omega
  simp only [hw, aaI]
  refine uF sd (uN sd ?_)
  rw [h7 zc] at h6
  show some (Sum.inr ((l.getD (l.length - 1) zs).1 == 1000000, ())) = _
  by_cases c : (l.getD (l.length - 1) zs).1 = 1000000
  ·rw [zl (h6.2 c), zr.2 c]
  ·rw [zk (fun h => c (h6.1 h)), beq_eq_false_iff_ne.2 c]
theorem aiL {α : Type} (l : List α) : (len l == 0) = decide (l = []) := by
 cases l with
 | nil => rfl
 | cons a l => rw [zk zf, beq_eq_false_iff_ne]; simp [len]; omega
theorem aCr (c : CvT) (y) (h : akG (c, ()) = some y) : (as4 c).toO = some y := by
 injection h with h
 subst h
 obtain ⟨kind, tab, l, u⟩ := c
 unfold as4
 dsimp only
 simp only [aiL]
 by_cases k1 : kind = 1
 ·subst k1
  refine uT rfl ?_
  by_cases a1 : tab = []
  ·refine uT (zl a1) ?_
   by_cases a2 : l = []
   ·rw [if_pos (show acK (1, tab, l, u) from Or.inl ⟨rfl, a1, a2⟩)]
    exact uF (by rw [zl a2]; rfl) rfl
   ·rw [if_neg (fun h => by rcases h with h | h | h; exact a2 h.2.2; exact absurd h.1 zh; exact absurd h.1 zh)]
    exact uT (by rw [zk a2]; rfl) rfl
  ·rw [if_neg (fun h => by rcases h with h | h | h; exact a1 h.2.1; exact absurd h.1 zh; exact absurd h.1 zh)]
   exact uF (zk a1) rfl
 refine uF (beq_eq_false_iff_ne.2 k1) ?_
 by_cases k2 : kind = 2
 ·subst k2
  refine uT rfl (uC (decide (ae4 tab), ()) rfl ?_)
  by_cases a1 : ae4 tab
  ·refine uT (zl a1) ?_
   by_cases a2 : l = []
   ·rw [if_pos (show acK (2, tab, l, u) from Or.inr (Or.inl ⟨rfl, a1, a2⟩))]
    exact uF (by rw [zl a2]; rfl) rfl
   ·rw [if_neg (fun h => by rcases h with h | h | h; exact absurd h.1 zh; exact a2 h.2.2; exact absurd h.1 zh)]
    exact uT (by rw [zk a2]; rfl) rfl
  ·rw [if_neg (fun h => by rcases h with h | h | h; exact absurd h.1 zh; exact a1 h.2.1; exact absurd h.1 zh)]
   exact uF (zk a1) rfl
 refine uF (beq_eq_false_iff_ne.2 k2) ?_
 by_cases k3 : kind = 3
 ·subst k3
  refine uT rfl ?_
  by_cases a1 : tab = []
  ·refine uT (zl a1) (uC (decide (adK l), ()) rfl ?_)
   by_cases a2 : adK l
   ·rw [if_pos (show acK (3, tab, l, u) from Or.inr (Or.inr ⟨rfl, a1, a2⟩))]
    exact uF (by rw [zl a2]; rfl) rfl
   ·rw [if_neg (fun h => by rcases h with h | h | h; exact absurd h.1 zh; exact absurd h.1 zh; exact a2 h.2.2)]
    exact uT (by rw [zk a2]; rfl) rfl
  ·rw [if_neg (fun h => by rcases h with h | h | h; exact absurd h.1 zh; exact absurd h.1 zh; exact a1 h.2.1)]
   exact uF (zk a1) rfl
 ·rw [if_neg (fun h => by rcases h with h | h | h; exact k1 h.1; exact k2 h.1; exact k3 h.1)]
  exact uF (beq_eq_false_iff_ne.2 k3) rfl
theorem atK (c : CvT) : akG (c, ()) = some (if acK c then 0 else 90, ()) := rfl
theorem apB {α : Type} {s t : List α} {k : Nat} (hs : k < s.length) (ht : k < t.length) (h : s.take k = t.take k) (he : s[k] = t[k]) : s.take (k + 1) = t.take (k + 1) := by
 rw [zR hs, zR ht, h, he]
theorem aMC {a b : ajC} (h : a ≠ b) : (!match a.1 == b.1 with
 | true =>
  match a.2.1 == b.2.1 with
  | true =>
   match a.2.2.1 == b.2.2.1 with
   | true =>
    match a.2.2.2.1 == b.2.2.2.1 with
    | true =>
     match a.2.2.2.2.1 == b.2.2.2.2.1 with
     | true =>
      match a.2.2.2.2.2.1 == b.2.2.2.2.2.1 with
      | true => true
      | false => false
     | false => false
    | false => false
   | false => false
  | false => false
 | false => false) = true := by
 obtain ⟨a1, a2, a3, a4, a5, a6, a7⟩ := a
 obtain ⟨b1, b2, b3, b4, b5, b6, b7⟩ := b
 dsimp only
 by_cases c1 : a1 = b1
 case neg => rw [beq_eq_false_iff_ne.2 c1]; rfl
 by_cases c2 : a2 = b2
 case neg => rw [zr.2 c1, beq_eq_false_iff_ne.2 c2]; rfl
 by_cases c3 : a3 = b3
 case neg => rw [zr.2 c1, zr.2 c2, beq_eq_false_iff_ne.2 c3]; rfl
 by_cases c4 : a4 = b4
 case neg => rw [zr.2 c1, zr.2 c2, zr.2 c3, beq_eq_false_iff_ne.2 c4]; rfl
 by_cases c5 : a5 = b5
 case neg => rw [zr.2 c1, zr.2 c2, zr.2 c3, zr.2 c4, beq_eq_false_iff_ne.2 c5]; rfl
 by_cases c6 : a6 = b6
 case neg => rw [zr.2 c1, zr.2 c2, zr.2 c3, zr.2 c4, zr.2 c5, beq_eq_false_iff_ne.2 c6]; rfl
 ·subst c1 c2 c3 c4 c5 c6; exact absurd rfl h
theorem aFC (s t : List Int) (y) (h : ahJ (s, t, ()) = some y) : (aA5 s t).toO = some y := by
 unfold ahJ at h
 split at h
 case isFalse => cases h
 case isTrue hl =>
 injection h with h
 subst h
 dsimp only at hl ⊢
 unfold aA5
 by_cases h1 : s.length = t.length
 case neg =>
  rw [aaJ (fun h => h1 (by rw [h]))]
  exact uT sd rfl
 refine uF sd (uO (0, ()) rfl ?_)
 refine abA (fun i : Int × Unit => ∃ k : Nat, k ≤ s.length ∧ i = ((k : Int), ()) ∧ s.take k = t.take k) (fun i => ((s.length : Int) - i.1).toNat) (fun _ => (eqb s t, ())) ?_ _ ⟨0, by omega, rfl, by simp⟩
 rintro i ⟨k, h2, rfl, h3⟩
 simp only [aCL, aaI]
 rcases zH k s.length with hk | hk
 ·have e1 : s.getD k 0 = s[k] := by simp [hk]
  have e2 : t.getD k 0 = t[k] := by simp [show k < t.length by omega]
  rw [e1, e2]
  by_cases c : s[k] = t[k]
  ·left
   refine ⟨(((k + 1 : Nat) : Int), ()), ?_, ⟨k + 1, by omega, rfl, apB hk zc h3 c⟩, by dsimp only; omega, ze⟩
   refine uT sd (uN sd (uN sd (uF ?_ ?_)))
   ·rw [c]; simp
   ·repeat refine za ?_
    rw [aaD (x := (k : Int) + 1) zc]; rfl
  ·right
   rw [aaJ (fun h : s = t => c (by subst h; rfl))]
   refine uT sd (uN sd (uN sd (uT ?_ rfl)))
   simpa using c
 ·right
  rw [zq hk, zq zc] at h3
  rw [ab2 h3]
  exact uF sd rfl
theorem aFA (s t : List ajC) (y) (h : atG (s, t, ()) = some y) : (aA3 s t).toO = some y := by
 unfold atG at h
 split at h
 case isFalse => cases h
 case isTrue hl =>
 injection h with h
 subst h
 dsimp only at hl ⊢
 unfold aA3
 by_cases h1 : s.length = t.length
 case neg =>
  rw [aaJ (fun h => h1 (by rw [h]))]
  exact uT sd rfl
 refine uF sd (uO (0, ()) rfl ?_)
 refine abA (fun i : Int × Unit => ∃ k : Nat, k ≤ s.length ∧ i = ((k : Int), ()) ∧ s.take k = t.take k) (fun i => ((s.length : Int) - i.1).toNat) (fun _ => (eqb s t, ())) ?_ _ ⟨0, by omega, rfl, by simp⟩
 rintro i ⟨k, h2, rfl, h3⟩
 simp only [aCK, aaI]
 rcases zH k s.length with hk | hk
 ·have e1 : s.getD k zs = s[k] := by simp [hk]
  have e2 : t.getD k zs = t[k] := by simp [show k < t.length by omega]
  rw [e1, e2]
  by_cases c : s[k] = t[k]
  ·left
   refine ⟨(((k + 1 : Nat) : Int), ()), ?_, ⟨k + 1, by omega, rfl, apB hk zc h3 c⟩, by dsimp only; omega, ze⟩
   refine uT sd (uN sd (uN sd (uF ?_ ?_)))
   ·rw [c]; simp
   ·repeat refine za ?_
    rw [aaD (x := (k : Int) + 1) zc]; rfl
  ·right
   rw [aaJ (fun h : s = t => c (by subst h; rfl))]
   refine uT sd (uN sd (uN sd (uT ?_ rfl)))
   exact aMC c
 ·right
  rw [zq hk, zq zc] at h3
  rw [ab2 h3]
  exact uF sd rfl
theorem aE2 (a b : CvT) (y) (h : anK (a, b, ()) = some y) : (axV a b).toO = some y := by
 unfold anK at h
 split at h
 case isFalse => cases h
 case isTrue hl =>
 injection h with h
 subst h
 obtain ⟨k1, t1, s1, u1⟩ := a
 obtain ⟨k2, t2, s2, u2⟩ := b
 dsimp only at hl ⊢
 unfold axV
 dsimp only
 by_cases c1 : k1 = k2
 ·refine uT (zr.2 c1) ?_
  refine uC (eqb t1 t2, ()) (by unfold ahJ; rw [if_pos hl.1]) ?_
  by_cases c2 : t1 = t2
  ·refine uT (ab2 c2) ?_
   refine uC (eqb s1 s2, ()) (by unfold atG; rw [if_pos hl.2]) ?_
   by_cases c3 : s1 = s2
   ·subst c1 c2 c3
    rw [abQ, ab2 rfl, ab2 rfl]
   ·rw [abQ, aaJ c3, aaJ (fun h => c3 (by injection h with _ h; injection h with _ h; injection h with h _))]
  ·refine uF (aaJ c2) ?_
   rw [abQ, aaJ (fun h => c2 (by injection h with _ h; injection h with h _))]
 ·refine uF (beq_eq_false_iff_ne.2 c1) ?_
  rw [abQ, aaJ (fun h => c1 (by injection h with h _))]
theorem aCq (c : CvT) (y) (h : akF (c, ()) = some y) : (as3 c).toO = some y := by
 injection h with h
 subst h
 obtain ⟨kind, tab, l, u0⟩ := c
 unfold as3
 refine uC _ (atK _) ?_
 dsimp only
 by_cases hr : acK (kind, tab, l, ())
 case neg =>
  rw [zk (fun h : agC _ => hr h.1), if_neg hr]
  exact uT rfl rfl
 rw [if_pos hr]
 have hlen : l.length ≤ 4 := by
  rcases hr with h | h | h
  ·rw [show l = [] from h.2.2]; simp
  ·rw [show l = [] from h.2.2]; simp
  ·exact h.2.2.2.1
 have hd : decide (agC (kind, tab, l, u0)) = decide (∀ s ∈ l, s.2.2.2.2.1 = 1) := decide_eq_decide.2 ⟨fun h => h.2, fun h => ⟨hr, h⟩⟩
 rw [hd]
 refine uF rfl (uV (uV (uV (uV ?_))))
 refine uO (0, 0, ()) rfl ?_
 refine abA (fun i : Int × Int × Unit => ∃ k : Nat, k ≤ l.length ∧ i.1 = (k : Int) ∧ ∀ s ∈ l.take k, s.2.2.2.2.1 = 1) (fun i => ((l.length : Int) - i.1).toNat) (fun _ => (decide (∀ s ∈ l, s.2.2.2.2.1 = 1), ())) ?_ _ ⟨0, by omega, rfl, by simp⟩
 rintro ⟨i, w, u⟩ ⟨k, h1, h2, h3⟩
 dsimp only at h2
 subst h2
 unfold avT
 simp only [aaI]
 rcases zH k l.length with hk | hk
 ·have e : l.getD k zs = l[k] := by simp [hk]
  by_cases c : l[k].2.2.2.2.1 = 1
  ·left
   refine ⟨(((k + 1 : Nat) : Int), l[k].1, ()), ?_, ⟨k + 1, by omega, rfl, ?_⟩, by dsimp only; omega, ze⟩
   ·refine uT sd (uN sd (uF ?_ ?_))
    ·show ((l.getD k zs).2.2.2.2.1 != 1) = false
     rw [e, c]; rfl
    ·repeat refine za ?_
     rw [aaD (x := (k : Int) + 1) zc]
     show some (Sum.inl (((k + 1 : Nat) : Int), (l.getD k zs).1, ())) = _
     rw [e]
   ·intro s hs
    rw [zR hk] at hs
    rcases zx.1 hs with hs | hs
    ·exact h3 s hs
    ·rw [zG.1 hs]; exact c
  ·right
   rw [zk (fun h : ∀ s ∈ l, s.2.2.2.2.1 = 1 => c (h _ (yi hk)))]
   refine uT sd (uN sd (uT ?_ rfl))
   show ((l.getD k zs).2.2.2.2.1 != 1) = true
   rw [e]; simpa using c
 ·right
  rw [zq hk] at h3
  rw [zl h3]
  exact uF sd rfl
end Go.Vs
