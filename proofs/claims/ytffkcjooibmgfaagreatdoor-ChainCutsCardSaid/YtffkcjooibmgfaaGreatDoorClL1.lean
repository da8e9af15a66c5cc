/-
  Trees of what the functions compute, and their laws. Own work; no condition.
-/
import Derived.Test.YtffkcjooibmgfaaGreatDoorClX1
import Derived.KernelRfl
import Derived.Test.YtffkcjooibmgfaaGreatDoorProg
set_option linter.unusedVariables false
set_option linter.unusedSimpArgs false
namespace Go.Vs
open Go Go.Vg Go.Proofs
theorem aB7 : (aJC .unit (.pair .bool .unit) aq5).ok Tryz.prog Gt 4 := by
 refine aJn (by kernel_rfl) (fun w ok vs x y hG hok hvs hy => ?_)
 have hy' : y = (true, ()) := (Option.some.inj hy).symm
 subst hy'
 exact Go.Vg.top_at.2 w ok vs x hG.1 hok hvs rfl
set_option maxRecDepth 100000
open Go Go.Vg Go.Proofs
noncomputable section
def aIM : LTab := [(46, 58, 9216, ⟨0, (Int) × Unit, .dat (.s 13) xW <| .nil, [12, 0, 1], [], 0⟩)]
def atW (s1 : List xX) (s2 : List xX) (i : (Int) × Unit) : TT wg :=
 .ite (decide (i.1 < len s1))
 (.need (inb i.1 (len s1)) <| .need (inb i.1 (len s2)) <| .ite (!(match (gi s1 i.1 (0, 0, ())).1 == (gi s2 i.1 (0, 0, ())).1 with | true => (match (gi s1 i.1 (0, 0, ())).2.1 == (gi s2 i.1 (0, 0, ())).2.1 with | true => true | false => false) | false => false))
 (.ok (.inr ((false, ()))))
 (.tt <| .lt (w64 (i.1 + 1) : Int) fun z => .xC (xD z (len s1) s1 s2) <| .tr <| .ok (.inl ((z, ())))))
 (.ok (.inr ((true, ()))))
def ayY (s1 : List xX) (s2 : List xX) : TT wc :=
 .ite (len s1 != len s2)
 (.ok ((false, ())))
 (.loop 0 (.tt <| .xC (xD (0 : Int) (len s1) s1 s2) <| .tr <| .ok ((0, ()))) (atW s1 s2))
def aCr : LTab := []
def amH (n : Int) (low : Int) (high : Int) : TT wc :=
 .ite (decide (low ≤ n))
 (.ok ((decide (n ≤ high), ())))
 (.ok ((false, ())))
def az6 : LTab := [(195, 58, 5120, ⟨0, (Int) × (Int) × Unit, .dat (.s 8) xW <| .dat (.s 3) xW <| .nil, [7, 6, 2], [], 0⟩)]
def anM (numbers : List Int) (i : (Int) × (Int) × Unit) : TT (wA ⊕ wo) :=
 .ite (decide (i.1 < len numbers))
 (.need (inb i.1 (len numbers)) <| .tt <| .lt (w64 (i.1 + 1) : Int) fun z => .lt (w64 (i.2.1 * gi numbers i.1 0) : Int) fun z1 => .xC (xE z1 z (len numbers) numbers (0 : Int)) <| .tr <| .ok (.inl ((z, z1, ()))))
 (.ok (.inr ((i.2.1, ()))))
def akW (numbers : List Int) : TT wo :=
 .loop 0 (.tt <| .xC (xE (1 : Int) (0 : Int) (len numbers) numbers (0 : Int)) <| .tr <| .ok ((0, 1, ()))) (anM numbers)
def aEU : LTab := [(120, 58, 17408, ⟨0, (Int) × Unit, .dat (.s 21) xW <| .nil, [20, 19, 1], [0], 0⟩), (120, 250, 38912, ⟨1, (Int) × Unit, .dat (.s 48) xW <| .nil, [47, 46], [0], 0⟩)]
def amI (g : List Int × Int × List Int × Unit) (y : Bool × Unit) (y1 : Bool × Unit) (i : Int × Unit) (y3 : Int × Unit) (i1 : (Int) × Unit) : TT (wC ⊕ (wC ⊕ wo)) :=
 .ite (decide (i1.1 < len g.2.2.1))
 (.need (inb i1.1 (len g.2.2.1)) <| .call (aeP (gi g.2.2.1 i1.1 0, 0, 65535, ())) Dd1 fun y4 =>
 .ite (!y4.1)
 (.ok (.inr (.inr ((100, ())))))
 (.tt <| .lt (w64 (i1.1 + 1) : Int) fun z1 => .xC (xF z1 (len g.2.2.1) g.2.2.1) <| .xC (xB (xD 56 g.1 g.2.1 g.2.2.1) True) <| .ok (.inl ((z1, ())))))
 (.ok (.inr (.inr ((0, ())))))
def ajN (g : List Int × Int × List Int × Unit) (y : Bool × Unit) (y1 : Bool × Unit) (i : (Int) × Unit) : TT (wC ⊕ wo) :=
 .ite (decide (i.1 < len g.1))
 (.need (inb i.1 (len g.1)) <| .call (aeP (gi g.1 i.1 0, 2, 9, ())) Dd1 fun y2 =>
 .ite (!y2.1)
 (.ok (.inr ((100, ()))))
 (.tt <| .lt (w64 (i.1 + 1) : Int) fun z => .xC (xH z (len g.1) g.1 <| xZ ∧ True) <| .xC (xB (xD 56 g.1 g.2.1 g.2.2.1) True) <| .ok (.inl ((z, ())))))
 (.ite (decide (len g.2.2.1 > 4096))
 (.ok (.inr ((100, ()))))
 (.call (adC (g.1, ())) Dd6 fun y3 =>
 .ite (len g.2.2.1 != w64 (y3.1 * g.2.1))
 (.ok (.inr ((100, ()))))
 (.loop 1 (.tt <| .xC (xF (0 : Int) (len g.2.2.1) g.2.2.1) <| .xC (xB (xD 56 g.1 g.2.1 g.2.2.1) True) <| .ok ((0, ()))) (amI g y y1 i y3))))
def apX (g : List Int × Int × List Int × Unit) : TT wo :=
 .call (aeP (len g.1, 1, 4, ())) Dd1 fun y =>
 .ite (!y.1)
 (.ok ((100, ())))
 (.call (aeP (g.2.1, 1, 4, ())) Dd1 fun y1 =>
 .ite (!y1.1)
 (.ok ((100, ())))
 (.loop 0 (.tt <| .xC (xH (0 : Int) (len g.1) g.1 <| xZ ∧ True) <| .xC (xB (xD 56 g.1 g.2.1 g.2.2.1) True) <| .ok ((0, ()))) (ajN g y y1)))
def aHh : LTab := []
def auS (a : List Int × Int × List Int × Unit) (b : List Int × Int × List Int × Unit) : TT wc :=
 .ite (a.2.1 == b.2.1)
 (.call (agW (a.1, b.1, ())) Dd1 fun y =>
 .ite (y.1)
 (.call (agW (a.2.2.1, b.2.2.1, ())) Dd1 fun y1 =>
 .ok ((y1.1, ())))
 (.ok ((false, ()))))
 (.ok ((false, ())))
def aB3 : LTab := []
def abF (code : Int) : TT wy :=
 .ite (code == 3)
 (.ite (code == 3)
 (.ok ((2, true, ())))
 (.ite (code == 10)
 (.ok ((3, true, ())))
 (.ok ((0, false, ())))))
 (.ite (code == 4)
 (.ite (code == 4)
 (.ok ((2, true, ())))
 (.ite (code == 10)
 (.ok ((3, true, ())))
 (.ok ((0, false, ())))))
 (.ite (code == 5)
 (.ite (code == 5)
 (.ok ((2, true, ())))
 (.ite (code == 10)
 (.ok ((3, true, ())))
 (.ok ((0, false, ())))))
 (.ite (code == 6)
 (.ite (code == 6)
 (.ok ((2, true, ())))
 (.ite (code == 10)
 (.ok ((3, true, ())))
 (.ok ((0, false, ())))))
 (.ite (code == 7)
 (.ok ((2, true, ())))
 (.ite (code == 10)
 (.ok ((3, true, ())))
 (.ok ((0, false, ()))))))))
def amA (code : Int) : TT wy :=
 .ite (code == 1)
 (.ite (code == 1)
  (.ok ((0, true, ())))
  (.ite (code == 8)
   (.ite (code == 8)
    (.ok ((1, true, ())))
    (abF code))
   (.ite (code == 9)
    (.ite (code == 9)
     (.ok ((1, true, ())))
     (abF code))
    (.ite (code == 12)
     (.ok ((1, true, ())))
     (abF code)))))
 (.ite (code == 2)
  (.ite (code == 2)
   (.ok ((0, true, ())))
   (.ite (code == 8)
    (.ite (code == 8)
     (.ok ((1, true, ())))
     (abF code))
    (.ite (code == 9)
     (.ite (code == 9)
      (.ok ((1, true, ())))
      (abF code))
     (.ite (code == 12)
      (.ok ((1, true, ())))
      (abF code)))))
  (.ite (code == 11)
   (.ok ((0, true, ())))
   (.ite (code == 8)
    (.ite (code == 8)
     (.ok ((1, true, ())))
     (abF code))
    (.ite (code == 9)
     (.ite (code == 9)
      (.ok ((1, true, ())))
      (abF code))
     (.ite (code == 12)
      (.ok ((1, true, ())))
      (abF code))))))
def auF : LTab := []
def ahO (op : Int × Int × Unit) (in0 : Int) (length : Int) : TT wc :=
 .ite (op.1 == 1)
 (.ite (decide (0 ≤ op.2.1))
 (.ok ((decide (op.2.1 ≤ w64 (in0 - 1)), ())))
 (.ok ((false, ()))))
 (.ite (op.1 == 2)
 (.ite (decide (-1000000000 ≤ op.2.1))
 (.ok ((decide (op.2.1 ≤ 1000000000), ())))
 (.ok ((false, ()))))
 (.ite (op.1 == 11)
 (.ite (decide (0 ≤ op.2.1))
 (.ok ((decide (op.2.1 ≤ w64 (length - 1)), ())))
 (.ok ((false, ()))))
 (.ite (decide (0 ≤ op.2.1))
 (.ok ((decide (op.2.1 ≤ 0), ())))
 (.ok ((false, ()))))))
def azK : LTab := [(196, 506, 30720, ⟨0, (Int) × (Int) × (Int) × Unit, .dat (.s 38) xW <| .dat (.s 9) xW <| .dat (.c 0 0) xW <| .nil, [37, 36, 8, 7, 6, 1, 2], [1, 0], 0⟩)]
def adY : TT (ww ⊕ xX) :=
 .triv (asT Int (-9223372036854775808) ≤ 120 ∧ asT Int 120 ≤ 9223372036854775807) zd <| .triv (asT Int (-9223372036854775808) ≤ 120 ∧ asT Int 120 ≤ 9223372036854775807) zd <| .tt <| .triv (Exit.normal = Exit.normal ∨ Exit.normal = Exit.ret) (Or.inl rfl) <| .ok (.inr ((0, 120, ())))
def afR : TT (ww ⊕ xX) :=
 .tt <| .tt <| .triv (asT Int (-9223372036854775808) ≤ 120 ∧ asT Int 120 ≤ 9223372036854775807) zd <| .triv (asT Int (-9223372036854775808) ≤ 120 ∧ asT Int 120 ≤ 9223372036854775807) zd <| .tt <| .triv (Exit.normal = Exit.normal ∨ Exit.normal = Exit.ret) (Or.inl rfl) <| .ok (.inr ((0, 120, ())))
def anF (p : List xX) (in0 : Int) (out0 : Int) (i : (Int) × (Int) × (Int) × Unit) : TT (ww ⊕ xX) :=
 .ite (decide (i.1 < len p))
 (.need (inb i.1 (len p)) <| .call (ahF ((gi p i.1 (0, 0, ())).1, ())) aL9 fun y =>
  .ite (y.2.1)
  (.ite (decide (y.1 ≤ i.2.1))
   (.call (ad3 (((gi p i.1 (0, 0, ())).1, (gi p i.1 (0, 0, ())).2.1, ()), in0, i.2.1, ())) Dd1 fun y1 =>
    .tt <| .tt <| .ite (!y1.1)
    (adY)
    (.tt <| .tt <| .ite (!decide (w64 (i.2.1 + w64 (1 - y.1)) ≤ 16))
     (adY)
     (.tt <| .lt (w64 (i.1 + 1) : Int) fun z => .lt (w64 (i.2.1 + w64 (1 - y.1)) : Int) fun z1 => .lt (if z1 > i.2.2.1 then z1 else i.2.2.1 : Int) fun z2 => .xC (xJ z1 z (len p) p <| (xK (289 : FuncId) <| True ∧ True) ∧ wd ∧ xZ ∧ xL in0 out0) <| .xC (xB (xL 30 (0 : Int)) <| xB (xL 3 z2) True) <| .ok (.inl ((z, z1, z2, ()))))))
   (afR))
  (afR))
 (.tt <| .tt <| .ite (!i.2.1 == out0)
  (adY)
  (.tt <| .triv (Exit.normal = Exit.normal ∨ Exit.normal = Exit.ret) (Or.inl rfl) <| .ok (.inr ((i.2.2.1, 0, ())))))
def ac5 : TT xX :=
 .tt <| .tt <| .triv (asT Int (-9223372036854775808) ≤ 120 ∧ asT Int 120 ≤ 9223372036854775807) zd <| .triv (asT Int (-9223372036854775808) ≤ 120 ∧ asT Int 120 ≤ 9223372036854775807) zd <| .tt <| .triv (Exit.normal = Exit.normal ∨ Exit.normal = Exit.ret) (Or.inl rfl) <| .ok ((0, 120, ()))
def akP (p : List xX) (in0 : Int) (out0 : Int) : TT xX :=
 .ite (decide (1 ≤ in0))
 (.ite (decide (in0 ≤ 4))
  (.ite (decide (1 ≤ out0))
   (.ite (decide (out0 ≤ 4))
    (.tt <| .tt <| .ite (!decide (len p ≤ 40))
     (.triv (asT Int (-9223372036854775808) ≤ 120 ∧ asT Int 120 ≤ 9223372036854775807) zd <| .triv (asT Int (-9223372036854775808) ≤ 120 ∧ asT Int 120 ≤ 9223372036854775807) zd <| .tt <| .triv (Exit.normal = Exit.normal ∨ Exit.normal = Exit.ret) (Or.inl rfl) <| .ok ((0, 120, ())))
     (.loop 0 (.tt <| .xC (xJ (0 : Int) (0 : Int) (len p) p <| (xK (289 : FuncId) <| True ∧ True) ∧ wd ∧ xZ ∧ xL in0 out0) <| .xC (xB (xL 30 (0 : Int)) <| xB (xL 3 (0 : Int)) True) <| .ok ((0, 0, 0, ()))) (anF p in0 out0)))
    (ac5))
   (ac5))
  (ac5))
 (ac5)
def aB4 : LTab := []
def amB (p : List xX) (in0 : Int) (out0 : Int) : TT wo :=
 .call (af6 (p, in0, out0, ())) aMk fun y =>
 .ok ((y.2.1, ()))
def aHm : LTab := []
def au0 (n : Int) : TT wc :=
 .ite (decide (n < -1000000000))
 (.ok ((true, ())))
 (.ok ((decide (n > 1000000000), ())))
def aqC : LTab := [(286, 26, 17408, ⟨0, (Int) × Unit, .dat (.s 8) xW <| .nil, [7, 0, 1], [], 0⟩)]
def ae7 (l : List xY) (i : (Int) × Unit) : TT wg :=
 .ite (decide (i.1 < len l))
 (.need (inb i.1 (len l)) <| .tt <| .tt <| .call (alW (((gi l i.1 (0, [], [], ())).1, (gi l i.1 (0, [], [], ())).2.1, (gi l i.1 (0, [], [], ())).2.2.1, ()), ())) Dd6 fun y =>
 .ite (y.1 != 0)
 (.ok (.inr ((!decide (i.1 ≥ 0), ()))))
 (.tt <| .lt (w64 (i.1 + 1) : Int) fun z => .xC (xH z (len l) l <| (xK (191 : FuncId) <| True ∧ True) ∧ True) <| .tr <| .ok (.inl ((z, ())))))
 (.ok (.inr ((!decide (asT Int (-1) ≥ 0), ()))))
def afZ (l : List xY) : TT wc :=
 .ite (decide (len l < 1))
 (.ok ((false, ())))
 (.ite (decide (len l > 4))
 (.ok ((false, ())))
 (.tt <| .tt <| .tt <| .tt <| .loop 0 (.tt <| .xC (xH (0 : Int) (len l) l <| (xK (191 : FuncId) <| True ∧ True) ∧ True) <| .tr <| .ok ((0, ()))) (ae7 l)))
def aqB : LTab := [(119, 250, 30720, ⟨0, (Int) × Unit, .dat (.s 35) xW <| .nil, [34, 33, 5, 1], [], 0⟩), (287, 26, 48128, ⟨1, (Int) × Unit, .dat (.s 8) xW <| .nil, [7, 0, 1], [], 0⟩), (287, 26, 39936, ⟨2, (Int) × Unit, .dat (.s 8) xW <| .nil, [7, 0, 1], [], 0⟩)]
def abI (rows : List (List Int)) (offset : List Int) (i : Int × Unit) (i1 : (Int) × Unit) : TT (wC ⊕ wg) :=
 .ite (decide (i1.1 < len (gi rows i.1 [])))
 (.need (inb i1.1 (len (gi rows i.1 []))) <| .call (alT (gi (gi rows i.1 []) i1.1 0, ())) Dd1 fun y =>
 .ite (y.1)
 (.ite (decide (i1.1 ≥ 0))
 (.ok (.inr (.inr ((false, ())))))
 (.tt <| .lt (w64 (i.1 + 1) : Int) fun z => .xC (xE z (len rows) rows (len (gi rows 0 [])) offset) <| .tr <| .ok (.inr (.inl ((z, ()))))))
 (.tt <| .lt (w64 (i1.1 + 1) : Int) fun z1 => .xC (xH z1 (len (gi rows i.1 [])) (gi rows i.1 []) <| (xK (193 : FuncId) <| True ∧ True) ∧ True) <| .tr <| .ok (.inl ((z1, ())))))
 (.tt <| .lt (w64 (i.1 + 1) : Int) fun z2 => .xC (xE z2 (len rows) rows (len (gi rows 0 [])) offset) <| .tr <| .ok (.inr (.inl ((z2, ())))))
def ae6 (rows : List (List Int)) (offset : List Int) (i : Int × Unit) (i2 : (Int) × Unit) : TT (wC ⊕ wg) :=
 .ite (decide (i2.1 < len offset))
 (.need (inb i2.1 (len offset)) <| .call (alT (gi offset i2.1 0, ())) Dd1 fun y1 =>
 .ite (y1.1)
 (.ok (.inr (.inr ((!decide (i2.1 ≥ 0), ())))))
 (.tt <| .lt (w64 (i2.1 + 1) : Int) fun z3 => .xC (xH z3 (len offset) offset <| (xK (193 : FuncId) <| True ∧ True) ∧ True) <| .tr <| .ok (.inl ((z3, ())))))
 (.ok (.inr (.inr ((!decide (asT Int (-1) ≥ 0), ())))))
def adA (rows : List (List Int)) (offset : List Int) (i : (Int) × Unit) : TT wg :=
 .ite (decide (i.1 < len rows))
 (.need (inb i.1 (len rows)) <| .ite (len (gi rows i.1 []) != len (gi rows 0 []))
 (.ok (.inr ((false, ()))))
 (.tt <| .tt <| .tt <| .tt <| .loop 1 (.tt <| .xC (xH (0 : Int) (len (gi rows i.1 [])) (gi rows i.1 []) <| (xK (193 : FuncId) <| True ∧ True) ∧ True) <| .tr <| .ok ((0, ()))) (abI rows offset i)))
 (.tt <| .tt <| .tt <| .tt <| .loop 2 (.tt <| .xC (xH (0 : Int) (len offset) offset <| (xK (193 : FuncId) <| True ∧ True) ∧ True) <| .tr <| .ok ((0, ()))) (ae6 rows offset i))
def afY (rows : List (List Int)) (offset : List Int) : TT wc :=
 .ite (decide (len rows < 1))
 (.ok ((false, ())))
 (.ite (decide (len rows > 4))
 (.ok ((false, ())))
 (.ite (len offset != len rows)
 (.ok ((false, ())))
 (.need (asT Int 0 ≤ 0 ∧ 0 < len rows) <| .ite (decide (len (gi rows 0 []) < 1))
 (.ok ((false, ())))
 (.ite (decide (len (gi rows 0 []) > 4))
 (.ok ((false, ())))
 (.loop 0 (.tt <| .xC (xE (0 : Int) (len rows) rows (len (gi rows 0 [])) offset) <| .tr <| .ok ((0, ()))) (adA rows offset))))))
def aCB : LTab := []
def ah0 (x : Int × List xY × List (List Int) × List Int × wb × List xX × Int × Int × Unit) : TT wo :=
 .ite (len x.2.2.2.2.2.1 == 0)
 (.ite (x.2.2.2.2.2.2.1 == 0)
 (.ite (x.1 == 1)
 (.ite (len x.2.2.2.1 == 0)
 (.ok ((130, ())))
 (.ok ((130, ()))))
 (.ite (x.1 == 2)
 (.ite (len x.2.1 == 0)
 (.ok ((130, ())))
 (.ok ((130, ()))))
 (.ite (x.1 == 3)
 (.ite (len x.2.1 == 0)
 (.ite (len x.2.2.2.1 == 0)
 (.ite (x.2.2.2.2.2.2.2.1 == 0)
 (.call (ahG ((x.2.2.2.2.1.1, x.2.2.2.2.1.2.1, x.2.2.2.2.1.2.2.1, ()), ())) Dd6 fun y6 =>
 .ite (!y6.1 == 0)
 (.ok ((130, ())))
 (.ok ((0, ()))))
 (.ok ((130, ()))))
 (.ok ((130, ()))))
 (.ok ((130, ()))))
 (.ite (x.1 == 4)
 (.ite (len x.2.1 == 0)
 (.ite (len x.2.2.2.1 == 0)
 (.ok ((130, ())))
 (.ok ((130, ()))))
 (.ok ((130, ()))))
 (.ok ((130, ())))))))
 (.ite (x.1 == 1)
 (.ite (len x.2.2.2.1 == 0)
 (.ok ((130, ())))
 (.ok ((130, ()))))
 (.ite (x.1 == 2)
 (.ite (len x.2.1 == 0)
 (.ok ((130, ())))
 (.ok ((130, ()))))
 (.ite (x.1 == 3)
 (.ite (len x.2.1 == 0)
 (.ite (len x.2.2.2.1 == 0)
 (.ok ((130, ())))
 (.ok ((130, ()))))
 (.ok ((130, ()))))
 (.ite (x.1 == 4)
 (.ite (len x.2.1 == 0)
 (.ite (len x.2.2.2.1 == 0)
 (.ok ((130, ())))
 (.ok ((130, ()))))
 (.ok ((130, ()))))
 (.ok ((130, ()))))))))
 (.ite (x.1 == 1)
 (.ite (len x.2.2.2.1 == 0)
 (.ok ((130, ())))
 (.ok ((130, ()))))
 (.ite (x.1 == 2)
 (.ite (len x.2.1 == 0)
 (.ok ((130, ())))
 (.ok ((130, ()))))
 (.ite (x.1 == 3)
 (.ite (len x.2.1 == 0)
 (.ite (len x.2.2.2.1 == 0)
 (.ok ((130, ())))
 (.ok ((130, ()))))
 (.ok ((130, ()))))
 (.ite (x.1 == 4)
 (.ite (len x.2.1 == 0)
 (.ite (len x.2.2.2.1 == 0)
 (.ok ((130, ())))
 (.ok ((130, ()))))
 (.ok ((130, ()))))
 (.ok ((130, ())))))))
def ahZ (x : Int × List xY × List (List Int) × List Int × wb × List xX × Int × Int × Unit) : TT wo :=
 .ite (len x.2.2.2.2.2.1 == 0)
 (.ite (x.2.2.2.2.2.2.1 == 0)
 (.ite (x.1 == 1)
 (.ok ((130, ())))
 (.ite (x.1 == 2)
 (.ite (len x.2.1 == 0)
 (.ok ((130, ())))
 (.ok ((130, ()))))
 (.ite (x.1 == 3)
 (.ite (len x.2.1 == 0)
 (.ok ((130, ())))
 (.ok ((130, ()))))
 (.ite (x.1 == 4)
 (.ite (len x.2.1 == 0)
 (.ok ((130, ())))
 (.ok ((130, ()))))
 (.ok ((130, ())))))))
 (.ite (x.1 == 1)
 (.ok ((130, ())))
 (.ite (x.1 == 2)
 (.ite (len x.2.1 == 0)
 (.ok ((130, ())))
 (.ok ((130, ()))))
 (.ite (x.1 == 3)
 (.ite (len x.2.1 == 0)
 (.ok ((130, ())))
 (.ok ((130, ()))))
 (.ite (x.1 == 4)
 (.ite (len x.2.1 == 0)
 (.ok ((130, ())))
 (.ok ((130, ()))))
 (.ok ((130, ()))))))))
 (.ite (x.1 == 1)
 (.ok ((130, ())))
 (.ite (x.1 == 2)
 (.ite (len x.2.1 == 0)
 (.ok ((130, ())))
 (.ok ((130, ()))))
 (.ite (x.1 == 3)
 (.ite (len x.2.1 == 0)
 (.ok ((130, ())))
 (.ok ((130, ()))))
 (.ite (x.1 == 4)
 (.ite (len x.2.1 == 0)
 (.ok ((130, ())))
 (.ok ((130, ()))))
 (.ok ((130, ())))))))
def ahY (x : Int × List xY × List (List Int) × List Int × wb × List xX × Int × Int × Unit) : TT wo :=
 .ite (x.1 == 1)
 (.ite (len x.2.2.2.1 == 0)
 (.ite (len x.2.2.2.2.1.2.2.1 == 0)
 (.ok ((130, ())))
 (.ok ((130, ()))))
 (.ok ((130, ()))))
 (.ite (x.1 == 2)
 (.ite (len x.2.1 == 0)
 (.ite (len x.2.2.2.2.1.2.2.1 == 0)
 (.ok ((130, ())))
 (.ok ((130, ()))))
 (.ok ((130, ()))))
 (.ite (x.1 == 3)
 (.ite (len x.2.1 == 0)
 (.ite (len x.2.2.2.1 == 0)
 (.ok ((130, ())))
 (.ok ((130, ()))))
 (.ok ((130, ()))))
 (.ite (x.1 == 4)
 (.ite (len x.2.1 == 0)
 (.ite (len x.2.2.2.1 == 0)
 (.ite (len x.2.2.2.2.1.2.2.1 == 0)
 (.call (afJ (x.2.2.2.2.2.1, x.2.2.2.2.2.2.1, x.2.2.2.2.2.2.2.1, ())) Dd6 fun y4 =>
 .ite (!y4.1 == 0)
 (.ok ((130, ())))
 (.ok ((0, ()))))
 (.ok ((130, ()))))
 (.ok ((130, ()))))
 (.ok ((130, ()))))
 (.ok ((130, ()))))))
def ahX (x : Int × List xY × List (List Int) × List Int × wb × List xX × Int × Int × Unit) : TT wo :=
 .ite (x.1 == 1)
 (.ok ((130, ())))
 (.ite (x.1 == 2)
 (.ite (len x.2.1 == 0)
 (.ite (len x.2.2.2.2.1.2.2.1 == 0)
 (.ok ((130, ())))
 (.ok ((130, ()))))
 (.ok ((130, ()))))
 (.ite (x.1 == 3)
 (.ite (len x.2.1 == 0)
 (.ok ((130, ())))
 (.ok ((130, ()))))
 (.ite (x.1 == 4)
 (.ite (len x.2.1 == 0)
 (.ok ((130, ())))
 (.ok ((130, ()))))
 (.ok ((130, ()))))))
def amR (x : Int × List xY × List (List Int) × List Int × wb × List xX × Int × Int × Unit) : TT wo :=
 .ite (len x.2.2.1 == 0)
 (.ite (len x.2.2.2.2.1.1 == 0)
  (.ite (x.2.2.2.2.1.2.1 == 0)
   (.ite (len x.2.2.2.2.2.1 == 0)
    (.ite (x.2.2.2.2.2.2.1 == 0)
     (.ite (x.1 == 1)
      (.ite (len x.2.2.2.1 == 0)
       (.ite (len x.2.2.2.2.1.2.2.1 == 0)
        (.ite (x.2.2.2.2.2.2.2.1 == 0)
         (.call (acX (x.2.1, ())) Dd1 fun y =>
          .ite (!y.1)
          (.ok ((130, ())))
          (.ok ((0, ()))))
         (.ok ((130, ()))))
        (.ok ((130, ()))))
       (.ok ((130, ()))))
      (.ite (x.1 == 2)
       (.ite (len x.2.1 == 0)
        (.ite (len x.2.2.2.2.1.2.2.1 == 0)
         (.ite (x.2.2.2.2.2.2.2.1 == 0)
          (.call (acF (x.2.2.1, x.2.2.2.1, ())) Dd1 fun y1 =>
           .ite (!y1.1)
           (.ok ((130, ())))
           (.ok ((0, ()))))
          (.ok ((130, ()))))
         (.ok ((130, ()))))
        (.ok ((130, ()))))
       (.ite (x.1 == 3)
        (.ite (len x.2.1 == 0)
         (.ite (len x.2.2.2.1 == 0)
          (.ite (x.2.2.2.2.2.2.2.1 == 0)
           (.call (ahG ((x.2.2.2.2.1.1, x.2.2.2.2.1.2.1, x.2.2.2.2.1.2.2.1, ()), ())) Dd6 fun y2 =>
            .ite (!y2.1 == 0)
            (.ok ((130, ())))
            (.ok ((0, ()))))
           (.ok ((130, ()))))
          (.ok ((130, ()))))
         (.ok ((130, ()))))
        (.ite (x.1 == 4)
         (.ite (len x.2.1 == 0)
          (.ite (len x.2.2.2.1 == 0)
           (.ite (len x.2.2.2.2.1.2.2.1 == 0)
            (.call (afJ (x.2.2.2.2.2.1, x.2.2.2.2.2.2.1, x.2.2.2.2.2.2.2.1, ())) Dd6 fun y3 =>
             .ite (!y3.1 == 0)
             (.ok ((130, ())))
             (.ok ((0, ()))))
            (.ok ((130, ()))))
           (.ok ((130, ()))))
          (.ok ((130, ()))))
         (.ok ((130, ())))))))
     (ahY x))
    (ahY x))
   (ah0 x))
  (ah0 x))
 (.ite (len x.2.2.2.2.1.1 == 0)
  (.ite (x.2.2.2.2.1.2.1 == 0)
   (.ite (len x.2.2.2.2.2.1 == 0)
    (.ite (x.2.2.2.2.2.2.1 == 0)
     (.ite (x.1 == 1)
      (.ok ((130, ())))
      (.ite (x.1 == 2)
       (.ite (len x.2.1 == 0)
        (.ite (len x.2.2.2.2.1.2.2.1 == 0)
         (.ite (x.2.2.2.2.2.2.2.1 == 0)
          (.call (acF (x.2.2.1, x.2.2.2.1, ())) Dd1 fun y8 =>
           .ite (!y8.1)
           (.ok ((130, ())))
           (.ok ((0, ()))))
          (.ok ((130, ()))))
         (.ok ((130, ()))))
        (.ok ((130, ()))))
       (.ite (x.1 == 3)
        (.ite (len x.2.1 == 0)
         (.ok ((130, ())))
         (.ok ((130, ()))))
        (.ite (x.1 == 4)
         (.ite (len x.2.1 == 0)
          (.ok ((130, ())))
          (.ok ((130, ()))))
         (.ok ((130, ())))))))
     (ahX x))
    (ahX x))
   (ahZ x))
  (ahZ x))
def aFb : LTab := [(40, 58, 36864, ⟨0, (Int) × Unit, .dat (.s 17) xW <| .nil, [16, 15, 1, 2], [1, 0], 0⟩), (42, 58, 54272, ⟨1, (Int) × Unit, .dat (.s 17) xW <| .nil, [16, 15, 1, 2], [1, 0], 0⟩)]
def ajQ (a : Int × List xY × List (List Int) × List Int × wb × List xX × Int × Int × Unit) (b : Int × List xY × List (List Int) × List Int × wb × List xX × Int × Int × Unit) (i : Int × Unit) (i1 : (Int) × Unit) : TT (wC ⊕ wg) :=
 .ite (decide (i1.1 < len a.2.2.1))
 (.need (inb i1.1 (len a.2.2.1)) <| .need (inb i1.1 (len b.2.2.1)) <| .tt <| .tt <| .call (agW (gi a.2.2.1 i1.1 [], gi b.2.2.1 i1.1 [], ())) Dd1 fun y1 =>
 .ite (!y1.1)
 (.ok (.inr (.inr ((false, ())))))
 (.tt <| .lt (w64 (i1.1 + 1) : Int) fun z1 => .xC (xJ z1 (len a.2.2.1) a.2.2.1 b.2.2.1 <| (xK (43 : FuncId) <| True ∧ True) ∧ True) <| .xC (xB (xM 59 b.1 (b.2.1 : List xY) b.2.2.1 b.2.2.2.1 b.2.2.2.2.1.1 b.2.2.2.2.1.2.1 b.2.2.2.2.1.2.2.1 <| xF b.2.2.2.2.2.1 b.2.2.2.2.2.2.1 b.2.2.2.2.2.2.2.1) <| xB (xM 59 a.1 (a.2.1 : List xY) a.2.2.1 a.2.2.2.1 a.2.2.2.2.1.1 a.2.2.2.2.1.2.1 a.2.2.2.2.1.2.2.1 <| xF a.2.2.2.2.2.1 a.2.2.2.2.2.2.1 a.2.2.2.2.2.2.2.1) True) <| .ok (.inl ((z1, ())))))
 (.call (agW (a.2.2.2.1, b.2.2.2.1, ())) Dd1 fun y2 =>
 .ite (y2.1)
 (.call (alS ((a.2.2.2.2.1.1, a.2.2.2.2.1.2.1, a.2.2.2.2.1.2.2.1, ()), (b.2.2.2.2.1.1, b.2.2.2.2.1.2.1, b.2.2.2.2.1.2.2.1, ()), ())) Dd1 fun y3 =>
 .ite (y3.1)
 (.call (aq7 (a.2.2.2.2.2.1, b.2.2.2.2.2.1, ())) Dd1 fun y4 =>
 .ok (.inr (.inr ((y4.1, ())))))
 (.ok (.inr (.inr ((false, ()))))))
 (.ok (.inr (.inr ((false, ()))))))
def ajR (a : Int × List xY × List (List Int) × List Int × wb × List xX × Int × Int × Unit) (b : Int × List xY × List (List Int) × List Int × wb × List xX × Int × Int × Unit) (i : (Int) × Unit) : TT wg :=
 .ite (decide (i.1 < len a.2.1))
 (.need (inb i.1 (len a.2.1)) <| .need (inb i.1 (len b.2.1)) <| .call (alV (((gi a.2.1 i.1 (0, [], [], ())).1, (gi a.2.1 i.1 (0, [], [], ())).2.1, (gi a.2.1 i.1 (0, [], [], ())).2.2.1, ()), ((gi b.2.1 i.1 (0, [], [], ())).1, (gi b.2.1 i.1 (0, [], [], ())).2.1, (gi b.2.1 i.1 (0, [], [], ())).2.2.1, ()), ())) Dd1 fun y =>
 .ite (!y.1)
 (.ok (.inr ((false, ()))))
 (.tt <| .lt (w64 (i.1 + 1) : Int) fun z => .xC (xJ z (len a.2.1) (a.2.1 : List xY) (b.2.1 : List xY) <| (xK (41 : FuncId) <| True ∧ True) ∧ True) <| .xC (xB (xM 59 b.1 (b.2.1 : List xY) b.2.2.1 b.2.2.2.1 b.2.2.2.2.1.1 b.2.2.2.2.1.2.1 b.2.2.2.2.1.2.2.1 <| xF b.2.2.2.2.2.1 b.2.2.2.2.2.2.1 b.2.2.2.2.2.2.2.1) <| xB (xM 59 a.1 (a.2.1 : List xY) a.2.2.1 a.2.2.2.1 a.2.2.2.2.1.1 a.2.2.2.2.1.2.1 a.2.2.2.2.1.2.2.1 <| xF a.2.2.2.2.2.1 a.2.2.2.2.2.2.1 a.2.2.2.2.2.2.2.1) True) <| .ok (.inl ((z, ())))))
 (.tt <| .tt <| .ite (len a.2.2.1 != len b.2.2.1)
 (.ok (.inr ((false, ()))))
 (.loop 1 (.tt <| .xC (xJ (0 : Int) (len a.2.2.1) a.2.2.1 b.2.2.1 <| (xK (43 : FuncId) <| True ∧ True) ∧ True) <| .xC (xB (xM 59 b.1 (b.2.1 : List xY) b.2.2.1 b.2.2.2.1 b.2.2.2.2.1.1 b.2.2.2.2.1.2.1 b.2.2.2.2.1.2.2.1 <| xF b.2.2.2.2.2.1 b.2.2.2.2.2.2.1 b.2.2.2.2.2.2.2.1) <| xB (xM 59 a.1 (a.2.1 : List xY) a.2.2.1 a.2.2.2.1 a.2.2.2.2.1.1 a.2.2.2.2.1.2.1 a.2.2.2.2.1.2.2.1 <| xF a.2.2.2.2.2.1 a.2.2.2.2.2.2.1 a.2.2.2.2.2.2.2.1) True) <| .ok ((0, ()))) (ajQ a b i)))
def aqD (a : Int × List xY × List (List Int) × List Int × wb × List xX × Int × Int × Unit) (b : Int × List xY × List (List Int) × List Int × wb × List xX × Int × Int × Unit) : TT wc :=
 .ite (a.1 == b.1)
 (.ite (a.2.2.2.2.2.2.1 == b.2.2.2.2.2.2.1)
 (.ite (a.2.2.2.2.2.2.2.1 == b.2.2.2.2.2.2.2.1)
 (.tt <| .tt <| .ite (len a.2.1 != len b.2.1)
 (.ok ((false, ())))
 (.loop 0 (.tt <| .xC (xJ (0 : Int) (len a.2.1) (a.2.1 : List xY) (b.2.1 : List xY) <| (xK (41 : FuncId) <| True ∧ True) ∧ True) <| .xC (xB (xM 59 b.1 (b.2.1 : List xY) b.2.2.1 b.2.2.2.1 b.2.2.2.2.1.1 b.2.2.2.2.1.2.1 b.2.2.2.2.1.2.2.1 <| xF b.2.2.2.2.2.1 b.2.2.2.2.2.2.1 b.2.2.2.2.2.2.2.1) <| xB (xM 59 a.1 (a.2.1 : List xY) a.2.2.1 a.2.2.2.1 a.2.2.2.2.1.1 a.2.2.2.2.1.2.1 a.2.2.2.2.1.2.2.1 <| xF a.2.2.2.2.2.1 a.2.2.2.2.2.2.1 a.2.2.2.2.2.2.2.1) True) <| .ok ((0, ()))) (ajR a b)))
 (.ok ((false, ()))))
 (.ok ((false, ()))))
 (.ok ((false, ())))
def aHn : LTab := []
def au1 (x : Int × List (Int × List Int × List xV × Unit) × List (List Int) × List Int × (List Int × Int × List Int × Unit) × List xX × Int × Int × Unit) : TT xX :=
 .call (afK ((x.1, x.2.1, x.2.2.1, x.2.2.2.1, (x.2.2.2.2.1.1, x.2.2.2.2.1.2.1, x.2.2.2.2.1.2.2.1, ()), x.2.2.2.2.2.1, x.2.2.2.2.2.2.1, x.2.2.2.2.2.2.2.1, ()), ())) Dd6 fun y =>
 .ite (y.1 != 0)
 (.ok ((0, y.1, ())))
 (.ite (x.1 == 1)
 (.ok ((len x.2.1, 0, ())))
 (.ite (x.1 == 2)
 (.need (asT Int 0 ≤ 0 ∧ 0 < len x.2.2.1) <| .ok ((len (gi x.2.2.1 0 []), 0, ())))
 (.ite (x.1 == 3)
 (.ok ((len x.2.2.2.2.1.1, 0, ())))
 (.ok ((x.2.2.2.2.2.2.1, 0, ()))))))
def aFc : LTab := []
def aqE (x : Int × List (Int × List Int × List xV × Unit) × List (List Int) × List Int × (List Int × Int × List Int × Unit) × List xX × Int × Int × Unit) : TT xX :=
 .call (afK ((x.1, x.2.1, x.2.2.1, x.2.2.2.1, (x.2.2.2.2.1.1, x.2.2.2.2.1.2.1, x.2.2.2.2.1.2.2.1, ()), x.2.2.2.2.2.1, x.2.2.2.2.2.2.1, x.2.2.2.2.2.2.2.1, ()), ())) Dd6 fun y =>
 .ite (y.1 != 0)
 (.ok ((0, y.1, ())))
 (.ite (x.1 == 1)
 (.ok ((len x.2.1, 0, ())))
 (.ite (x.1 == 2)
 (.ok ((len x.2.2.1, 0, ())))
 (.ite (x.1 == 3)
 (.ok ((x.2.2.2.2.1.2.1, 0, ())))
 (.ok ((x.2.2.2.2.2.2.2.1, 0, ()))))))
end
set_option maxRecDepth 100000
open Go Go.Vg Go.Proofs
noncomputable section
def awF : LTab := []
def aiT (n : Int) (low : Int) (high : Int) : TT wc :=
 .ite (decide (n ≥ low))
 (.ok ((decide (n ≤ high), ())))
 (.ok ((false, ())))
def awH : LTab := [(123, 58, 3072, ⟨0, (Int) × (Int) × Unit, .dat (.s 4) xW <| .dat (.s 3) xW <| .nil, [2, 0], [], 0⟩)]
def ak9 (size : List Int) (i : (Int) × (Int) × Unit) : TT (wA ⊕ wo) :=
 .ite (decide (i.1 < len size))
 (.need (inb i.1 (len size)) <| .tt <| .lt (w64 (i.1 + 1) : Int) fun z => .lt (w64 (i.2.1 * gi size i.1 0) : Int) fun z1 => .xC (xD z1 z (0 : Int) size) <| .tr <| .ok (.inl ((z, z1, ()))))
 (.ok (.inr ((i.2.1, ()))))
def aiV (size : List Int) : TT wo :=
 .loop 0 (.tt <| .xC (xD (1 : Int) (0 : Int) (0 : Int) size) <| .tr <| .ok ((0, 1, ()))) (ak9 size)
def azH : LTab := [(85, 58, 14336, ⟨0, (Int) × Unit, .dat (.s 3) xW <| .nil, [1], [0], 0⟩), (85, 250, 36864, ⟨1, (Int) × Unit, .dat (.s 4) xW <| .nil, [1], [0], 0⟩)]
def aiU (g : List Int × Int × List Int × Unit) (y : Bool × Unit) (y1 : Bool × Unit) (i : Int × Unit) (y3 : Int × Unit) (i1 : (Int) × Unit) : TT (wC ⊕ wg) :=
 .ite (decide (i1.1 < len g.2.2.1))
 (.need (inb i1.1 (len g.2.2.1)) <| .call (adO (gi g.2.2.1 i1.1 0, 0, 65535, ())) Dd1 fun y4 =>
 .ite (!y4.1)
 (.ok (.inr (.inr ((false, ())))))
 (.tt <| .lt (w64 (i1.1 + 1) : Int) fun z1 => .xC (xK z1 <| xZ ∧ True) <| .xC (xB (xD 56 g.1 g.2.1 g.2.2.1) True) <| .ok (.inl ((z1, ())))))
 (.ok (.inr (.inr ((true, ())))))
def agD (g : List Int × Int × List Int × Unit) (y : Bool × Unit) (y1 : Bool × Unit) (i : (Int) × Unit) : TT wg :=
 .ite (decide (i.1 < len g.1))
 (.need (inb i.1 (len g.1)) <| .call (adO (gi g.1 i.1 0, 2, 9, ())) Dd1 fun y2 =>
 .ite (!y2.1)
 (.ok (.inr ((false, ()))))
 (.tt <| .lt (w64 (i.1 + 1) : Int) fun z => .xC (xK z <| xZ ∧ True) <| .xC (xB (xD 56 g.1 g.2.1 g.2.2.1) True) <| .ok (.inl ((z, ())))))
 (.call (ab4 (g.1, ())) Dd6 fun y3 =>
 .ite (len g.2.2.1 != w64 (y3.1 * g.2.1))
 (.ok (.inr ((false, ()))))
 (.ite (decide (len g.2.2.1 > 4096))
 (.ok (.inr ((false, ()))))
 (.loop 1 (.tt <| .xC (xK (0 : Int) <| xZ ∧ True) <| .xC (xB (xD 56 g.1 g.2.1 g.2.2.1) True) <| .ok ((0, ()))) (aiU g y y1 i y3))))
def akO (g : List Int × Int × List Int × Unit) : TT wc :=
 .call (adO (len g.1, 1, 4, ())) Dd1 fun y =>
 .ite (!y.1)
 (.ok ((false, ())))
 (.call (adO (g.2.1, 1, 4, ())) Dd1 fun y1 =>
 .ite (!y1.1)
 (.ok ((false, ())))
 (.loop 0 (.tt <| .xC (xK (0 : Int) <| xZ ∧ True) <| .xC (xB (xD 56 g.1 g.2.1 g.2.2.1) True) <| .ok ((0, ()))) (agD g y y1)))
def azC : LTab := []
def aa7 (code : Int) : TT wo :=
 .ite (code == 3)
 (.ite (code == 3)
 (.ok ((2, ())))
 (.ite (code == 10)
 (.ok ((3, ())))
 (.ok ((-1, ())))))
 (.ite (code == 4)
 (.ite (code == 4)
 (.ok ((2, ())))
 (.ite (code == 10)
 (.ok ((3, ())))
 (.ok ((-1, ())))))
 (.ite (code == 5)
 (.ite (code == 5)
 (.ok ((2, ())))
 (.ite (code == 10)
 (.ok ((3, ())))
 (.ok ((-1, ())))))
 (.ite (code == 6)
 (.ite (code == 6)
 (.ok ((2, ())))
 (.ite (code == 10)
 (.ok ((3, ())))
 (.ok ((-1, ())))))
 (.ite (code == 7)
 (.ok ((2, ())))
 (.ite (code == 10)
 (.ok ((3, ())))
 (.ok ((-1, ()))))))))
def akL (code : Int) : TT wo :=
 .ite (code == 1)
 (.ite (code == 1)
  (.ok ((0, ())))
  (.ite (code == 8)
   (.ite (code == 8)
    (.ok ((1, ())))
    (aa7 code))
   (.ite (code == 9)
    (.ite (code == 9)
     (.ok ((1, ())))
     (aa7 code))
    (.ite (code == 12)
     (.ok ((1, ())))
     (aa7 code)))))
 (.ite (code == 2)
  (.ite (code == 2)
   (.ok ((0, ())))
   (.ite (code == 8)
    (.ite (code == 8)
     (.ok ((1, ())))
     (aa7 code))
    (.ite (code == 9)
     (.ite (code == 9)
      (.ok ((1, ())))
      (aa7 code))
     (.ite (code == 12)
      (.ok ((1, ())))
      (aa7 code)))))
  (.ite (code == 11)
   (.ok ((0, ())))
   (.ite (code == 8)
    (.ite (code == 8)
     (.ok ((1, ())))
     (aa7 code))
    (.ite (code == 9)
     (.ite (code == 9)
      (.ok ((1, ())))
      (aa7 code))
     (.ite (code == 12)
      (.ok ((1, ())))
      (aa7 code))))))
def awC : LTab := []
def aiQ (s : Int × Int × Unit) (in0 : Int) (n : Int) : TT wc :=
 .ite (s.1 == 1)
 (.ite (decide (s.2.1 ≥ 0))
 (.ok ((decide (s.2.1 < in0), ())))
 (.ok ((false, ()))))
 (.ite (s.1 == 2)
 (.ite (decide (s.2.1 ≥ -1000000000))
 (.ok ((decide (s.2.1 ≤ 1000000000), ())))
 (.ok ((false, ()))))
 (.ite (s.1 == 11)
 (.ite (decide (s.2.1 ≥ 0))
 (.ok ((decide (s.2.1 < n), ())))
 (.ok ((false, ()))))
 (.ok ((s.2.1 == 0, ())))))
def azD : LTab := [(128, 122, 24576, ⟨0, (Int) × (Int) × (Int) × Unit, .dat (.s 10) xW <| .dat (.s 9) xW <| .dat (.s 8) xW <| .nil, [0, 1, 2], [], 0⟩)]
def anB (p : List xX) (in0 : Int) (out0 : Int) (i : (Int) × (Int) × (Int) × Unit) : TT (ww ⊕ wy) :=
 .ite (decide (i.1 < len p))
 (.need (inb i.1 (len p)) <| .call (abX ((gi p i.1 (0, 0, ())).1, ())) Dd6 fun y =>
 .ite (decide (y.1 < 0))
 (.ok (.inr ((0, false, ()))))
 (.ite (decide (y.1 > i.2.2.1))
 (.ok (.inr ((0, false, ()))))
 (.need (inb i.1 (len p)) <| .call (agO (gi p i.1 (0, 0, ()), in0, i.2.2.1, ())) Dd1 fun y1 =>
 .ite (!y1.1)
 (.ok (.inr ((0, false, ()))))
 (.tt <| .lt (w64 (i.1 + 1) : Int) fun z => .lt (if w64 (w64 (i.2.2.1 - y.1) + 1) > i.2.1 then w64 (w64 (i.2.2.1 - y.1) + 1) else i.2.1 : Int) fun z1 => .lt (w64 (w64 (i.2.2.1 - y.1) + 1) : Int) fun z2 => .xC (xN z2 z1 z p in0 out0) <| .tr <| .ok (.inl ((z, z1, z2, ())))))))
 (.ite (decide (i.2.1 ≤ 16))
 (.ok (.inr ((i.2.1, i.2.2.1 == out0, ()))))
 (.ok (.inr ((i.2.1, false, ())))))
def akM (p : List xX) (in0 : Int) (out0 : Int) : TT wy :=
 .ite (decide (in0 < 1))
 (.ok ((0, false, ())))
 (.ite (decide (in0 > 4))
 (.ok ((0, false, ())))
 (.ite (decide (out0 < 1))
 (.ok ((0, false, ())))
 (.ite (decide (out0 > 4))
 (.ok ((0, false, ())))
 (.ite (decide (len p > 40))
 (.ok ((0, false, ())))
 (.loop 0 (.tt <| .xC (xN (0 : Int) (0 : Int) (0 : Int) p in0 out0) <| .tr <| .ok ((0, 0, 0, ()))) (anB p in0 out0))))))
def azE : LTab := []
def akN (p : List xX) (in0 : Int) (out0 : Int) : TT wc :=
 .call (af5 (p, in0, out0, ())) aL9 fun y =>
 .ok ((y.2.1, ()))
def aBX : LTab := []
def al8 (g : List Int × Int × List Int × Unit) : TT wc :=
 .ite (len g.1 == 0)
 (.ite (g.2.1 == 0)
 (.ok ((len g.2.2.1 == 0, ())))
 (.ok ((false, ()))))
 (.ok ((false, ())))
def azA : LTab := [(126, 26, 2048, ⟨0, (Int) × Unit, .dat (.s 3) xW <| .nil, [0], [], 0⟩)]
def aiO (l : List Int) (i : (Int) × Unit) : TT wg :=
 .ite (decide (i.1 < len l))
 (.need (inb i.1 (len l)) <| .ite (decide (gi l i.1 0 < -1000000000))
 (.ok (.inr ((false, ()))))
 (.need (inb i.1 (len l)) <| .ite (decide (gi l i.1 0 > 1000000000))
 (.ok (.inr ((false, ()))))
 (.tt <| .lt (w64 (i.1 + 1) : Int) fun z => .xC (xL z l) <| .tr <| .ok (.inl ((z, ()))))))
 (.ok (.inr ((true, ()))))
def akJ (l : List Int) : TT wc :=
 .loop 0 (.tt <| .xC (xL (0 : Int) l) <| .tr <| .ok ((0, ()))) (aiO l)
def aBW : LTab := [(84, 122, 34816, ⟨0, (Int) × Unit, .dat (.s 4) xW <| .nil, [3, 1], [0], 0⟩)]
def ahM (x : Int × List xY × List (List Int) × List Int × wb × List xX × Int × Int × Unit) (y : Bool × Unit) (i : (Int) × Unit) : TT wg :=
 .ite (decide (i.1 < len x.2.2.1))
 (.need (inb i.1 (len x.2.2.1)) <| .ite (len (gi x.2.2.1 i.1 []) != len (gi x.2.2.1 0 []))
 (.ok (.inr ((false, ()))))
 (.need (inb i.1 (len x.2.2.1)) <| .call (aeM (gi x.2.2.1 i.1 [], ())) Dd1 fun y1 =>
 .ite (!y1.1)
 (.ok (.inr ((false, ()))))
 (.tt <| .lt (w64 (i.1 + 1) : Int) fun z => .xC (xO z (len (gi x.2.2.1 0 [])) <| xZ ∧ True) <| .xC (xB (xM 59 x.1 (x.2.1 : List xY) x.2.2.1 x.2.2.2.1 x.2.2.2.2.1.1 x.2.2.2.2.1.2.1 x.2.2.2.2.1.2.2.1 <| xF x.2.2.2.2.2.1 x.2.2.2.2.2.2.1 x.2.2.2.2.2.2.2.1) True) <| .ok (.inl ((z, ()))))))
 (.ite (decide (len (gi x.2.2.1 0 []) ≥ 1))
 (.ok (.inr ((decide (len (gi x.2.2.1 0 []) ≤ 4), ()))))
 (.ok (.inr ((false, ())))))
def al7 (x : Int × List xY × List (List Int) × List Int × wb × List xX × Int × Int × Unit) : TT wc :=
 .ite (decide (len x.2.2.1 < 1))
 (.ok ((false, ())))
 (.ite (decide (len x.2.2.1 > 4))
 (.ok ((false, ())))
 (.ite (len x.2.2.2.1 != len x.2.2.1)
 (.ok ((false, ())))
 (.call (aeM (x.2.2.2.1, ())) Dd1 fun y =>
 .ite (!y.1)
 (.ok ((false, ())))
 (.need (asT Int 0 ≤ 0 ∧ 0 < len x.2.2.1) <| .loop 0 (.tt <| .xC (xO (0 : Int) (len (gi x.2.2.1 0 [])) <| xZ ∧ True) <| .xC (xB (xM 59 x.1 (x.2.1 : List xY) x.2.2.1 x.2.2.2.1 x.2.2.2.2.1.1 x.2.2.2.2.1.2.1 x.2.2.2.2.1.2.2.1 <| xF x.2.2.2.2.2.1 x.2.2.2.2.2.2.1 x.2.2.2.2.2.2.2.1) True) <| .ok ((0, ()))) (ahM x y)))))
def av9 : LTab := [(83, 26, 2048, ⟨0, (Int) × Unit, .dat (.s 3) xW <| .nil, [0], [], 0⟩)]
def afC (l : List xY) (i : (Int) × Unit) : TT wg :=
 .ite (decide (i.1 < len l))
 (.need (inb i.1 (len l)) <| .call (afI (gi l i.1 (0, [], [], ()), ())) Dd1 fun y =>
 .ite (!y.1)
 (.ok (.inr ((false, ()))))
 (.tt <| .lt (w64 (i.1 + 1) : Int) fun z => .xC (xL z l) <| .tr <| .ok (.inl ((z, ())))))
 (.ite (decide (len l ≥ 1))
 (.ok (.inr ((decide (len l ≤ 4), ()))))
 (.ok (.inr ((false, ())))))
def aiP (l : List xY) : TT wc :=
 .loop 0 (.tt <| .xC (xL (0 : Int) l) <| .tr <| .ok ((0, ()))) (afC l)
def azB : LTab := []
def agT (x : Int × List xY × List (List Int) × List Int × wb × List xX × Int × Int × Unit) (y : (Bool) × Unit) : TT wc :=
 .ite (x.1 == 1)
 (.call (acH (x.2.1, ())) Dd1 fun y5 =>
 .ite (y5.1)
 (.ite (len x.2.2.2.1 == 0)
 (.ite (y.1)
 (.ok ((false, ())))
 (.ok ((false, ()))))
 (.ok ((false, ()))))
 (.ok ((false, ()))))
 (.ite (x.1 == 2)
 (.call (aeN ((x.1, x.2.1, x.2.2.1, x.2.2.2.1, (x.2.2.2.2.1.1, x.2.2.2.2.1.2.1, x.2.2.2.2.1.2.2.1, ()), x.2.2.2.2.2.1, x.2.2.2.2.2.2.1, x.2.2.2.2.2.2.2.1, ()), ())) Dd1 fun y6 =>
 .ite (y6.1)
 (.ite (len x.2.1 == 0)
 (.ite (y.1)
 (.ok ((false, ())))
 (.ok ((false, ()))))
 (.ok ((false, ()))))
 (.ok ((false, ()))))
 (.ite (x.1 == 3)
 (.call (acW ((x.2.2.2.2.1.1, x.2.2.2.2.1.2.1, x.2.2.2.2.1.2.2.1, ()), ())) Dd1 fun y7 =>
 .ite (y7.1)
 (.ite (len x.2.1 == 0)
 (.ite (len x.2.2.2.1 == 0)
 (.ok ((false, ())))
 (.ok ((false, ()))))
 (.ok ((false, ()))))
 (.ok ((false, ()))))
 (.ite (x.1 == 4)
 (.call (acV (x.2.2.2.2.2.1, x.2.2.2.2.2.2.1, x.2.2.2.2.2.2.2.1, ())) Dd1 fun y8 =>
 .ite (y8.1)
 (.ite (len x.2.1 == 0)
 (.ite (len x.2.2.2.1 == 0)
 (.ok ((y.1, ())))
 (.ok ((false, ()))))
 (.ok ((false, ()))))
 (.ok ((false, ()))))
 (.ok ((false, ()))))))
def agS (x : Int × List xY × List (List Int) × List Int × wb × List xX × Int × Int × Unit) (y13 : (Bool) × Unit) : TT wc :=
 .ite (x.1 == 1)
 (.call (acH (x.2.1, ())) Dd1 fun y18 =>
 .ite (y18.1)
 (.ok ((false, ())))
 (.ok ((false, ()))))
 (.ite (x.1 == 2)
 (.call (aeN ((x.1, x.2.1, x.2.2.1, x.2.2.2.1, (x.2.2.2.2.1.1, x.2.2.2.2.1.2.1, x.2.2.2.2.1.2.2.1, ()), x.2.2.2.2.2.1, x.2.2.2.2.2.2.1, x.2.2.2.2.2.2.2.1, ()), ())) Dd1 fun y19 =>
 .ite (y19.1)
 (.ite (len x.2.1 == 0)
 (.ite (y13.1)
 (.ok ((false, ())))
 (.ok ((false, ()))))
 (.ok ((false, ()))))
 (.ok ((false, ()))))
 (.ite (x.1 == 3)
 (.call (acW ((x.2.2.2.2.1.1, x.2.2.2.2.1.2.1, x.2.2.2.2.1.2.2.1, ()), ())) Dd1 fun y20 =>
 .ite (y20.1)
 (.ite (len x.2.1 == 0)
 (.ok ((false, ())))
 (.ok ((false, ()))))
 (.ok ((false, ()))))
 (.ite (x.1 == 4)
 (.call (acV (x.2.2.2.2.2.1, x.2.2.2.2.2.2.1, x.2.2.2.2.2.2.2.1, ())) Dd1 fun y21 =>
 .ite (y21.1)
 (.ite (len x.2.1 == 0)
 (.ok ((false, ())))
 (.ok ((false, ()))))
 (.ok ((false, ()))))
 (.ok ((false, ()))))))
def agR (x : Int × List xY × List (List Int) × List Int × wb × List xX × Int × Int × Unit) (y : (Bool) × Unit) : TT wc :=
 .call (aeN ((x.1, x.2.1, x.2.2.1, x.2.2.2.1, (x.2.2.2.2.1.1, x.2.2.2.2.1.2.1, x.2.2.2.2.1.2.2.1, ()), x.2.2.2.2.2.1, x.2.2.2.2.2.2.1, x.2.2.2.2.2.2.2.1, ()), ())) Dd1 fun y2 =>
 .ite (y2.1)
 (.ite (len x.2.1 == 0)
 (.ite (y.1)
 (.ok ((x.2.2.2.2.2.2.2.1 == 0, ())))
 (.ok ((false, ()))))
 (.ok ((false, ()))))
 (.ok ((false, ())))
def akK (x : Int × List xY × List (List Int) × List Int × wb × List xX × Int × Int × Unit) : TT wc :=
 .ite (len x.2.2.1 == 0)
 (.call (ahE ((x.2.2.2.2.1.1, x.2.2.2.2.1.2.1, x.2.2.2.2.1.2.2.1, ()), ())) Dd1 fun y =>
  .ite (len x.2.2.2.2.2.1 == 0)
  (.ite (x.2.2.2.2.2.2.1 == 0)
   (.ite (x.1 == 1)
    (.call (acH (x.2.1, ())) Dd1 fun y1 =>
     .ite (y1.1)
     (.ite (len x.2.2.2.1 == 0)
      (.ite (y.1)
       (.ok ((x.2.2.2.2.2.2.2.1 == 0, ())))
       (.ok ((false, ()))))
      (.ok ((false, ()))))
     (.ok ((false, ()))))
    (.ite (x.1 == 2)
     (agR x y)
     (.ite (x.1 == 3)
      (.call (acW ((x.2.2.2.2.1.1, x.2.2.2.2.1.2.1, x.2.2.2.2.1.2.2.1, ()), ())) Dd1 fun y3 =>
       .ite (y3.1)
       (.ite (len x.2.1 == 0)
        (.ite (len x.2.2.2.1 == 0)
         (.ok ((x.2.2.2.2.2.2.2.1 == 0, ())))
         (.ok ((false, ()))))
        (.ok ((false, ()))))
       (.ok ((false, ()))))
      (.ite (x.1 == 4)
       (.call (acV (x.2.2.2.2.2.1, x.2.2.2.2.2.2.1, x.2.2.2.2.2.2.2.1, ())) Dd1 fun y4 =>
        .ite (y4.1)
        (.ite (len x.2.1 == 0)
         (.ite (len x.2.2.2.1 == 0)
          (.ok ((y.1, ())))
          (.ok ((false, ()))))
         (.ok ((false, ()))))
        (.ok ((false, ()))))
       (.ok ((false, ())))))))
   (agT x y))
  (agT x y))
 (.call (ahE ((x.2.2.2.2.1.1, x.2.2.2.2.1.2.1, x.2.2.2.2.1.2.2.1, ()), ())) Dd1 fun y13 =>
  .ite (len x.2.2.2.2.2.1 == 0)
  (.ite (x.2.2.2.2.2.2.1 == 0)
   (.ite (x.1 == 1)
    (.call (acH (x.2.1, ())) Dd1 fun y14 =>
     .ite (y14.1)
     (.ok ((false, ())))
     (.ok ((false, ()))))
    (.ite (x.1 == 2)
     (agR x y13)
     (.ite (x.1 == 3)
      (.call (acW ((x.2.2.2.2.1.1, x.2.2.2.2.1.2.1, x.2.2.2.2.1.2.2.1, ()), ())) Dd1 fun y16 =>
       .ite (y16.1)
       (.ite (len x.2.1 == 0)
        (.ok ((false, ())))
        (.ok ((false, ()))))
       (.ok ((false, ()))))
      (.ite (x.1 == 4)
       (.call (acV (x.2.2.2.2.2.1, x.2.2.2.2.2.2.1, x.2.2.2.2.2.2.2.1, ())) Dd1 fun y17 =>
        .ite (y17.1)
        (.ite (len x.2.1 == 0)
         (.ok ((false, ())))
         (.ok ((false, ()))))
        (.ok ((false, ()))))
       (.ok ((false, ())))))))
   (agS x y13))
  (agS x y13))
def aBY : LTab := []
def al9 (x : Int × List (Int × List Int × List xV × Unit) × List (List Int) × List Int × (List Int × Int × List Int × Unit) × List xX × Int × Int × Unit) : TT xX :=
 .call (af4 ((x.1, x.2.1, x.2.2.1, x.2.2.2.1, (x.2.2.2.2.1.1, x.2.2.2.2.1.2.1, x.2.2.2.2.1.2.2.1, ()), x.2.2.2.2.2.1, x.2.2.2.2.2.2.1, x.2.2.2.2.2.2.2.1, ()), ())) Dd1 fun y =>
 .ite (!y.1)
 (.ok ((0, 130, ())))
 (.ite (x.1 == 1)
 (.ok ((len x.2.1, 0, ())))
 (.ite (x.1 == 2)
 (.ok ((len x.2.2.1, 0, ())))
 (.ite (x.1 == 3)
 (.ok ((x.2.2.2.2.1.2.1, 0, ())))
 (.ok ((x.2.2.2.2.2.2.2.1, 0, ()))))))
end
set_option maxRecDepth 100000
open Go Go.Vg Go.Proofs
noncomputable section
def aCL : LTab := []
def amY (n : Int) (low : Int) (high : Int) : TT wc :=
 .ite (decide (low ≤ n))
 (.ok ((decide (n ≤ high), ())))
 (.ok ((false, ())))
def ar5 : LTab := [(207, 3, 1024, ⟨0, (Bool) × Unit, .dat (.s 2) (Ty.bool) <| .nil, [0], [], 0⟩), (207, 58, 4096, ⟨1, (Int) × Unit, .dat (.s 15) xW <| .nil, [14, 13], [], 0⟩)]
def ai6 (aiC : List Int) (j : Bool × Unit) (i : (Int) × Unit) : TT wg :=
 .ite (decide (i.1 < len aiC))
 (.need (inb i.1 (len aiC)) <| .call (ac2 (gi aiC i.1 0, 0, 65535, ())) Dd1 fun y =>
 .ite (!y.1)
 (.ok (.inr ((false, ()))))
 (.tt <| .lt (w64 (i.1 + 1) : Int) fun z => .xC (xF z (len aiC) aiC) <| .tr <| .ok (.inl ((z, ())))))
 (.ok (.inr ((true, ()))))
def aqT (aiC : List Int) (j : (Bool) × Unit) : TT wc :=
 .loop 1 (.tt <| .xC (xF (0 : Int) (len aiC) aiC) <| .tr <| .ok ((0, ()))) (ai6 aiC j)
def agV (aiC : List Int) : TT wc :=
 .join 0 (ι := (Bool) × Unit) (.ite (decide (len aiC < 2))
 (.ok (.inr ((false, ()))))
 (.ite (decide (len aiC > 17))
 (.ok (.inr ((false, ()))))
 (.tt <| .xC (xL false aiC) <| .tr <| .ok (.inl ((false, ())))))) (aqT aiC)
def aCC : LTab := [(294, 26, 13312, ⟨0, (Int) × Unit, .dat (.s 17) xW <| .nil, [16, 1], [0], 0⟩), (294, 7, 14336, ⟨1, Unit, .nil, [1], [0], 0⟩), (294, 124, 22528, ⟨2, (Int) × (Int) × Unit, .dat (.s 6) xW <| .dat (.s 5) xW <| .nil, [], [0], 0⟩)]
def aqH (p : xV × Int × Bool × Unit) (i : Int × Unit) (j : Unit) (i1 : (Int) × (Int) × Unit) : TT (wA ⊕ wg) :=
 .ite (i1.1 != 0)
 (.need (i1.1 ≠ 0) <| .tt <| .lt (Int.tmod i1.2.1 i1.1 : Int) fun z3 => .xC (xL i1.1 z3) <| .xC (xB (xM 298 p.1.1 p.1.2.1 p.1.2.2.1 p.1.2.2.2.1 p.1.2.2.2.2.1 p.1.2.2.2.2.2.1 p.2.1 <| xQ p.2.2.1) True) <| .ok (.inl ((z3, i1.1, ()))))
 (.ok (.inr (.inr ((i1.2.1 == 1, ())))))
def aAk (p : xV × Int × Bool × Unit) (i : Int × Unit) (j : Unit) : TT wg :=
 .loop 2 (.tt <| .lt (p.1.2.2.2.2.1 : Int) fun z1 => .lt (p.1.2.2.2.1 : Int) fun z2 => .xC (xL z2 z1) <| .xC (xB (xM 298 p.1.1 p.1.2.1 p.1.2.2.1 z2 z1 p.1.2.2.2.2.2.1 p.2.1 <| xQ p.2.2.1) True) <| .ok ((z1, z2, ()))) (aqH p i j)
def aeI (p : xV × Int × Bool × Unit) (i : (Int) × Unit) : TT wg :=
 .ite (decide (i.1 < 3))
 (.need (inb i.1 (↑3 : Int)) <| .call (ac2 (gi ([p.1.2.1, p.1.2.2.1, p.1.2.2.2.2.2.1]) i.1 0, -100000000, 100000000, ())) Dd1 fun y =>
 .ite (!y.1)
 (.ok (.inr ((false, ()))))
 (.tt <| .lt (w64 (i.1 + 1) : Int) fun z => .xC (xO z ([p.1.2.1, p.1.2.2.1, p.1.2.2.2.2.2.1] : List Int) <| xZ ∧ True) <| .xC (xB (xM 298 p.1.1 p.1.2.1 p.1.2.2.1 p.1.2.2.2.1 p.1.2.2.2.2.1 p.1.2.2.2.2.2.1 p.2.1 <| xQ p.2.2.1) True) <| .ok (.inl ((z, ())))))
 (.join 1 (ι := Unit) (.call (ac2 (p.1.1, w64 (p.2.1 + 1), 1000000, ())) Dd1 fun y1 =>
 .ite (!y1.1)
 (.ok (.inr (.inr ((false, ())))))
 (.call (ac2 (p.1.2.2.2.1, 1, 36, ())) Dd1 fun y2 =>
 .ite (!y2.1)
 (.ok (.inr (.inr ((false, ())))))
 (.call (ac2 (p.1.2.2.2.2.1, 1, 12, ())) Dd1 fun y3 =>
 .ite (!y3.1)
 (.ok (.inr (.inr ((false, ())))))
 (.tt <| .xC (xZ ∧ True) <| .xC (xB (xM 298 p.1.1 p.1.2.1 p.1.2.2.1 p.1.2.2.2.1 p.1.2.2.2.2.1 p.1.2.2.2.2.2.1 p.2.1 <| xQ p.2.2.1) True) <| .ok (.inl (())))))) (aAk p i))
def amU (p : xV × Int × Bool × Unit) : TT wc :=
 .loop 0 (.tt <| .xC (xO (0 : Int) ([p.1.2.1, p.1.2.2.1, p.1.2.2.2.2.2.1] : List Int) <| xZ ∧ True) <| .xC (xB (xM 298 p.1.1 p.1.2.1 p.1.2.2.1 p.1.2.2.2.1 p.1.2.2.2.2.1 p.1.2.2.2.2.2.1 p.2.1 <| xQ p.2.2.1) True) <| .ok ((0, ()))) (aeI p)
def amZ : LTab := [(208, 6, 2048, ⟨0, (Bool) × Unit, .dat (.s 2) (Ty.bool) <| .nil, [1], [0], 0⟩), (301, 14, 14336, ⟨1, (Int) × (Int) × Unit, .dat (.s 9) xW <| .dat (.s 3) xW <| .nil, [8, 7, 0], [8, 4, 2, 0], 0⟩)]
def agL (c : Int × List Int × List xV × Unit) (j : Bool × Unit) (i : (Int) × (Int) × Unit) : TT (wA ⊕ wc) :=
 .ite (decide (i.1 < len c.2.2.1))
 (.need (inb i.1 (len c.2.2.1)) <| .call (aeQ ((((gi c.2.2.1 i.1 (0, 0, 0, 0, 0, 0, ())).1, (gi c.2.2.1 i.1 (0, 0, 0, 0, 0, 0, ())).2.1, (gi c.2.2.1 i.1 (0, 0, 0, 0, 0, 0, ())).2.2.1, (gi c.2.2.1 i.1 (0, 0, 0, 0, 0, 0, ())).2.2.2.1, (gi c.2.2.1 i.1 (0, 0, 0, 0, 0, 0, ())).2.2.2.2.1, (gi c.2.2.1 i.1 (0, 0, 0, 0, 0, 0, ())).2.2.2.2.2.1, ()), i.2.1, i.1 == 0, ()), ())) Dd1 fun y =>
 .ite (!y.1)
 (.ok (.inr ((false, ()))))
 (.tt <| .lt (w64 (i.1 + 1) : Int) fun z => .lt ((gi c.2.2.1 i.1 (0, 0, 0, 0, 0, 0, ())).1 : Int) fun z1 => .xC (xJ z1 z (len c.2.2.1) c.2.2.1 <| (xR 8 true) ∧ True) <| .xC (xB (xS (LoopState.ready : LoopState) (none : Option Code) 34 (#[17] : Array Tmp) (avS (anU Tryz.f208) [1, 0, 1, 1, 1, 0, 1, 0, 0]) (avS (anU Tryz.f208) [1, 0, 1, 1, 1, 0, 1, 0, 1]) <| (xK (301 : FuncId) <| True ∧ wG ∧ True) ∧ (xK ((c.1, c.2.1, c.2.2.1, ()) : Int × List Int × List xV × Unit) <| (xI 2 0 true) ∧ (xK j.1 <| xZ ∧ True))) <| xB (xD 102 c.1 c.2.1 c.2.2.1) <| xB (xL 4 true) <| xB (xD 102 c.1 c.2.1 c.2.2.1) True) <| .ok (.inl ((z, z1, ())))))
 (.need (inb (w64 (len c.2.2.1 - 1)) (len c.2.2.1)) <| .ok (.inr (((gi c.2.2.1 (w64 (len c.2.2.1 - 1)) (0, 0, 0, 0, 0, 0, ())).1 == 1000000, ()))))
def alN (c : Int × List Int × List xV × Unit) (j : (Bool) × Unit) : TT wc :=
 .tt <| .tt <| .tt <| .tt <| .loop 1 (.tt <| .xC (xJ (0 : Int) (0 : Int) (len c.2.2.1) c.2.2.1 <| (xR 8 true) ∧ True) <| .xC (xB (xS (LoopState.ready : LoopState) (none : Option Code) 34 (#[17] : Array Tmp) (avS (anU Tryz.f208) [1, 0, 1, 1, 1, 0, 1, 0, 0]) (avS (anU Tryz.f208) [1, 0, 1, 1, 1, 0, 1, 0, 1]) <| (xK (301 : FuncId) <| True ∧ wG ∧ True) ∧ (xK ((c.1, c.2.1, c.2.2.1, ()) : Int × List Int × List xV × Unit) <| (xI 2 0 true) ∧ (xK j.1 <| xZ ∧ True))) <| xB (xD 102 c.1 c.2.1 c.2.2.1) <| xB (xL 4 true) <| xB (xD 102 c.1 c.2.1 c.2.2.1) True) <| .ok ((0, 0, ()))) (agL c j)
def aeL (c : Int × List Int × List xV × Unit) : TT wc :=
 .join 0 (ι := (Bool) × Unit) (.ite (decide (len c.2.2.1 < 1))
 (.ok (.inr ((false, ()))))
 (.ite (decide (len c.2.2.1 > 4))
 (.ok (.inr ((false, ()))))
 (.tt <| .xC (xK false <| xZ ∧ True) <| .xC (xB (xD 102 c.1 c.2.1 c.2.2.1) True) <| .ok (.inl ((false, ())))))) (alN c)
def aFD : LTab := []
def aqU (c : Int × List Int × List xV × Unit) : TT wo :=
 .ite (c.1 == 1)
 (.ite (len c.2.1 == 0)
 (.ite (!len c.2.2.1 == 0)
 (.ok ((90, ())))
 (.ok ((0, ()))))
 (.ok ((90, ()))))
 (.ite (c.1 == 2)
 (.call (agX (c.2.1, ())) Dd1 fun y =>
 .ite (y.1)
 (.ite (!len c.2.2.1 == 0)
 (.ok ((90, ())))
 (.ok ((0, ()))))
 (.ok ((90, ()))))
 (.ite (c.1 == 3)
 (.ite (len c.2.1 == 0)
 (.call (aeS ((c.1, c.2.1, c.2.2.1, ()), ())) Dd1 fun y1 =>
 .ite (!y1.1)
 (.ok ((90, ())))
 (.ok ((0, ()))))
 (.ok ((90, ()))))
 (.ok ((90, ())))))
def aIN : LTab := [(44, 58, 9216, ⟨0, (Int) × Unit, .dat (.s 13) xW <| .nil, [12, 0, 1], [], 0⟩)]
def aAQ (s1 : List Int) (s2 : List Int) (i : (Int) × Unit) : TT wg :=
 .ite (decide (i.1 < len s1))
 (.need (inb i.1 (len s1)) <| .need (inb i.1 (len s2)) <| .ite (gi s1 i.1 0 != gi s2 i.1 0)
 (.ok (.inr ((false, ()))))
 (.tt <| .lt (w64 (i.1 + 1) : Int) fun z => .xC (xD z (len s1) s1 s2) <| .tr <| .ok (.inl ((z, ())))))
 (.ok (.inr ((true, ()))))
def ayZ (s1 : List Int) (s2 : List Int) : TT wc :=
 .ite (len s1 != len s2)
 (.ok ((false, ())))
 (.loop 0 (.tt <| .xC (xD (0 : Int) (len s1) s1 s2) <| .tr <| .ok ((0, ()))) (aAQ s1 s2))
def aIL : LTab := [(76, 58, 9216, ⟨0, (Int) × Unit, .dat (.s 13) xW <| .nil, [12, 0, 1], [], 0⟩)]
def aAP (s1 : List xV) (s2 : List xV) (i : (Int) × Unit) : TT wg :=
 .ite (decide (i.1 < len s1))
 (.need (inb i.1 (len s1)) <| .need (inb i.1 (len s2)) <| .ite (!(match (gi s1 i.1 (0, 0, 0, 0, 0, 0, ())).1 == (gi s2 i.1 (0, 0, 0, 0, 0, 0, ())).1 with | true => (match (gi s1 i.1 (0, 0, 0, 0, 0, 0, ())).2.1 == (gi s2 i.1 (0, 0, 0, 0, 0, 0, ())).2.1 with | true => (match (gi s1 i.1 (0, 0, 0, 0, 0, 0, ())).2.2.1 == (gi s2 i.1 (0, 0, 0, 0, 0, 0, ())).2.2.1 with | true => (match (gi s1 i.1 (0, 0, 0, 0, 0, 0, ())).2.2.2.1 == (gi s2 i.1 (0, 0, 0, 0, 0, 0, ())).2.2.2.1 with | true => (match (gi s1 i.1 (0, 0, 0, 0, 0, 0, ())).2.2.2.2.1 == (gi s2 i.1 (0, 0, 0, 0, 0, 0, ())).2.2.2.2.1 with | true => (match (gi s1 i.1 (0, 0, 0, 0, 0, 0, ())).2.2.2.2.2.1 == (gi s2 i.1 (0, 0, 0, 0, 0, 0, ())).2.2.2.2.2.1 with | true => true | false => false) | false => false) | false => false) | false => false) | false => false) | false => false))
 (.ok (.inr ((false, ()))))
 (.tt <| .lt (w64 (i.1 + 1) : Int) fun z => .xC (xD z (len s1) s1 s2) <| .tr <| .ok (.inl ((z, ())))))
 (.ok (.inr ((true, ()))))
def ayX (s1 : List xV) (s2 : List xV) : TT wc :=
 .ite (len s1 != len s2)
 (.ok ((false, ())))
 (.loop 0 (.tt <| .xC (xD (0 : Int) (len s1) s1 s2) <| .tr <| .ok ((0, ()))) (aAP s1 s2))
def aHy : LTab := []
def avD (a : Int × List Int × List xV × Unit) (b : Int × List Int × List xV × Unit) : TT wc :=
 .ite (a.1 == b.1)
 (.call (agW (a.2.1, b.2.1, ())) Dd1 fun y =>
 .ite (y.1)
 (.call (aq6 (a.2.2.1, b.2.2.1, ())) Dd1 fun y1 =>
 .ok ((y1.1, ())))
 (.ok ((false, ()))))
 (.ok ((false, ())))
end
open Go Go.Vg
theorem ax9 (n a b : Int) (y) (h : ac2 (n, a, b, ()) = some y) : (amY n a b).toO = some y := by
 injection h with h
 subst h
 unfold amY
 by_cases c : a ≤ n
 ·refine uT (zn c) ?_
  rw [abQ]
  congr 2
  exact decide_eq_decide.2 ⟨fun h => ⟨c, h⟩, fun h => h.2⟩
 ·refine uF (zl c) ?_
  rw [abQ, zl (fun h : inR n a b => c h.1)]
theorem abP (n a b : Int) : ac2 (n, a, b, ()) = some (decide (inR n a b), ()) := rfl
theorem an3 (l : List Int) (y) (h : agX (l, ()) = some y) : (agV l).toO = some y := by
 injection h with h
 subst h
 unfold agV
 dsimp only
 by_cases h1 : l.length < 2
 ·rw [zl (fun h : aeY l => by have := h.1; omega)]
  exact uR _ (uT sd rfl)
 by_cases h2 : l.length > 17
 ·rw [zl (fun h : aeY l => by have := h.2.1; omega)]
  exact uR _ (uF sd (uT sd rfl))
 refine uL (false, ()) (uF sd (uF sd rfl)) ?_
 refine uO (0, ()) rfl ?_
 refine acJ (fun i : Int × Unit => ∃ k : Nat, k ≤ l.length ∧ i = ((k : Int), ()) ∧ ∀ v ∈ l.take k, inR v 0 65535) (fun i => ((l.length : Int) - i.1).toNat) (fun _ => (decide (aeY l), ())) ?_ _ ⟨0, by omega, rfl, by simp⟩
 rintro i ⟨k, h3, rfl, h4⟩
 simp only [ai6, aaL]
 rcases zO k l.length with hk | hk
 ·have e : l.getD k 0 = l[k] := by simp [hk]
  rw [e]
  by_cases c : inR l[k] 0 65535
  ·left
   refine ⟨(((k + 1 : Nat) : Int), ()), ?_, ⟨k + 1, by omega, rfl, ?_⟩, by simp only; omega, zf⟩
   ·refine uT sd (uN sd (uC _ (abP _ _ _) (uF (by rw [zn c]; rfl) ?_)))
    repeat refine za ?_
    simp (disch := omega) only [abQ, aaF, ayP, ayQ, aC4, aaL, zx, zA, aaB, zF]
    rfl
   ·intro v hv
    rw [yc hk] at hv
    rcases zw.1 hv with hv | hv
    ·exact h4 v hv
    ·rw [zJ.1 hv]; exact c
  ·right
   rw [zl (fun h : aeY l => c (h.2.2 _ (yv hk)))]
   exact uT sd (uN sd (uC _ (abP _ _ _) (uT (by rw [zl c]; rfl) rfl)))
 ·right
  rw [zy hk] at h4
  rw [zn (show aeY l from ⟨by omega, by omega, h4⟩)]
  exact uF sd rfl
theorem aHg {a b : Int} (ha : 0 ≤ a) (hb : 0 < b) : Nat.gcd b.natAbs (Int.tmod a b).natAbs = Nat.gcd a.natAbs b.natAbs := by
 obtain ⟨m, rfl⟩ := yG ha
 obtain ⟨n, rfl⟩ := yG (Int.le_of_lt hb)
 rw [zQ ha]
 have : ((m : Int) % (n : Int)) = ((m % n : Nat) : Int) := ze
 rw [this, xm, xm, xm, Nat.gcd_comm n, Nat.gcd_comm m n, Nat.gcd_rec n m]
theorem aC0 {p : PcT} (h : inR p.2.1 0 1000000) : aeQ (p, ()) = some (decide (ag0 p.2.1 p.1), ()) := by unfold aeQ; rw [if_pos h]
theorem axV (p : PcT) (y) (h : aeQ (p, ()) = some y) : (amU p).toO = some y := by
 unfold aeQ at h
 split at h
 case isFalse => cases h
 case isTrue hfrom =>
 injection h with h
 subst h
 obtain ⟨hf0, hf1⟩ := hfrom
 dsimp only at hf0 hf1 ⊢
 obtain ⟨⟨till, mul, add, nu, de, off, u⟩, fr, first, u'⟩ := p
 dsimp only at hf0 hf1 ⊢
 unfold amU
 refine uO (0, ()) rfl ?_
 have bad : ∀ b : Bool, b = false → (decide (ag0 fr (till, mul, add, nu, de, off, u)), ()) = (false, ()) ∨ ag0 fr (till, mul, add, nu, de, off, u) := fun b hb => by
  by_cases c : ag0 fr (till, mul, add, nu, de, off, u)
  ·exact Or.inr c
  ·left; rw [zl c]
 have step : ∀ (k : Nat) (x : Int), k < 3 → gi [mul, add, off] (k : Int) 0 = x → (inR x (-100000000) 100000000 → (aeI ((till, mul, add, nu, de, off, u), fr, first, u') ((k : Int), ())).toO = some (.inl (((k + 1 : Nat) : Int), ()))) ∧ (¬ inR x (-100000000) 100000000 → (aeI ((till, mul, add, nu, de, off, u), fr, first, u') ((k : Int), ())).toO = some (.inr (false, ()))) := by
  intro k x hk hx
  constructor
  ·intro c
   unfold aeI
   dsimp only
   refine uT sd (uN ⟨by omega, by omega⟩ ?_)
   rw [hx]
   refine uC _ (abP _ _ _) (uF (by rw [zn c]; rfl) ?_)
   repeat refine za ?_
   simp (disch := omega) only [abQ, aaF, ayP, ayQ, aC4, aaL, zx, zA, aaB, zF]
   rfl
  ·intro c
   unfold aeI
   dsimp only
   refine uT sd (uN ⟨by omega, by omega⟩ ?_)
   rw [hx]
   exact uC _ (abP _ _ _) (uT (by rw [zl c]; rfl) rfl)
 by_cases c1 : inR mul (-100000000) 100000000
 case neg =>
  rw [zl (fun h : ag0 _ _ => c1 h.1.1)]
  exact ahA ((step 0 mul zc rfl).2 c1)
 rw [ajJ ((step 0 mul zc rfl).1 c1)]
 by_cases c2 : inR add (-100000000) 100000000
 case neg =>
  rw [zl (fun h : ag0 _ _ => c2 h.1.2.1)]
  exact ahA ((step 1 add zc rfl).2 c2)
 rw [ajJ ((step 1 add zc rfl).1 c2)]
 by_cases c3 : inR off (-100000000) 100000000
 case neg =>
  rw [zl (fun h : ag0 _ _ => c3 h.1.2.2.1)]
  exact ahA ((step 2 off zc rfl).2 c3)
 rw [ajJ ((step 2 off zc rfl).1 c3)]
 refine ahA ?_
 unfold aeI
 refine uF rfl ?_
 dsimp only
 have hw : w64 (fr + 1) = fr + 1 := aaF zc
 by_cases c4 : inR till (fr + 1) 1000000
 case neg =>
  rw [zl (fun h : ag0 _ _ => c4 h.2)]
  refine uR _ (uC _ (abP _ _ _) (uT (by rw [hw, zl c4]; rfl) rfl))
 by_cases c5 : inR nu 1 36
 case neg =>
  rw [zl (fun h : ag0 _ _ => c5 h.1.2.2.2.1)]
  refine uR _ (uC _ (abP _ _ _) (uF (by rw [hw, zn c4]; rfl) (uC _ (abP _ _ _) (uT (by rw [zl c5]; rfl) rfl))))
 by_cases c6 : inR de 1 12
 case neg =>
  rw [zl (fun h : ag0 _ _ => c6 h.1.2.2.2.2.1)]
  refine uR _ (uC _ (abP _ _ _) (uF (by rw [hw, zn c4]; rfl) (uC _ (abP _ _ _) (uF (by rw [zn c5]; rfl) (uC _ (abP _ _ _) (uT (by rw [zl c6]; rfl) rfl))))))
 refine uL () (uC _ (abP _ _ _) (uF (by rw [hw, zn c4]; rfl) (uC _ (abP _ _ _) (uF (by rw [zn c5]; rfl) (uC _ (abP _ _ _) (uF (by rw [zn c6]; rfl) rfl)))))) ?_
 refine uO (de, nu, ()) rfl ?_
 have hd : decide (ag0 fr (till, mul, add, nu, de, off, u)) = decide (Nat.gcd nu.natAbs de.natAbs = 1) := decide_eq_decide.2 ⟨fun h => h.1.2.2.2.2.2, fun h => ⟨⟨c1, c2, c3, c5, c6, h⟩, c4⟩⟩
 rw [hd]
 refine acJ (fun i : Int × Int × Unit => 0 ≤ i.1 ∧ 0 ≤ i.2.1 ∧ Nat.gcd i.2.1.natAbs i.1.natAbs = Nat.gcd nu.natAbs de.natAbs) (fun i => i.1.toNat) (fun _ => (.inr (decide (Nat.gcd nu.natAbs de.natAbs = 1), ()) : (Int × Unit) ⊕ (Bool × Unit))) ?_ _ ⟨by show (0 : Int) ≤ de; have := c6.1; omega, by show (0 : Int) ≤ nu; have := c5.1; omega, rfl⟩
 rintro ⟨b, a, u2⟩ ⟨g1, g2, g3⟩
 dsimp only at g1 g2 g3
 unfold aqH
 by_cases hb : b = 0
 ·right
  subst hb
  refine uF rfl ?_
  have g4 : a.natAbs = Nat.gcd nu.natAbs de.natAbs := by simpa using g3
  show some (Sum.inr (Sum.inr (a == 1, ()))) = _
  by_cases c : a = 1
  ·rw [zn (show Nat.gcd nu.natAbs de.natAbs = 1 by omega), c]; rfl
  ·rw [zl (show ¬ Nat.gcd nu.natAbs de.natAbs = 1 by omega), beq_eq_false_iff_ne.2 c]
 ·left
  have hlt : Int.tmod a b < b := by rw [zQ g2]; exact yL _ zc
  have hge : 0 ≤ Int.tmod a b := by rw [zQ g2]; exact yZ _ hb
  refine ⟨(Int.tmod a b, b, ()), ?_, ⟨hge, by dsimp only; omega, ?_⟩, by dsimp only; omega, zf⟩
  ·refine uT (by simpa using hb) (uN hb ?_)
   repeat refine za ?_
   rfl
  ·dsimp only
   rw [← g3]; exact aHg g2 zc
abbrev zs : aiD := (0, 0, 0, 0, 0, 0, ())
theorem aBM {last : Int} : af9 last [] ↔ last = 1000000 := Iff.rfl
theorem ay2 {last : Int} {s : aiD} {r : List aiD} : af9 last (s :: r) ↔ ag0 last s ∧ af9 s.1 r := Iff.rfl
theorem ak1 (c : CvT) (y) (h : aeS (c, ()) = some y) : (aeL c).toO = some y := by
 injection h with h
 subst h
 obtain ⟨kind, tab, l, u0⟩ := c
 dsimp only
 unfold aeL
 dsimp only
 by_cases h1 : l.length < 1
 ·rw [zl (fun h : adE l => by have := h.1; omega)]
  exact uR _ (uT sd rfl)
 by_cases h2 : l.length > 4
 ·rw [zl (fun h : adE l => by have := h.2.1; omega)]
  exact uR _ (uF sd (uT sd rfl))
 refine uL (false, ()) (uF sd (uF sd rfl)) ?_
 refine uO (0, 0, ()) rfl ?_
 have hl : decide (adE l) = decide (af9 0 l) := decide_eq_decide.2 ⟨fun h => h.2.2, fun h => ⟨by omega, by omega, h⟩⟩
 rw [hl]
 refine acJ (fun i : Int × Int × Unit => ∃ k : Nat, k ≤ l.length ∧ i.1 = (k : Int) ∧ inR i.2.1 0 1000000 ∧ (af9 0 l ↔ af9 i.2.1 (l.drop k)) ∧ (k ≠ 0 → i.2.1 = (l.getD (k - 1) zs).1)) (fun i => ((l.length : Int) - i.1).toNat) (fun _ => (decide (af9 0 l), ())) ?_ _ ⟨0, by omega, rfl, ⟨by simp, by simp⟩, by simp, by simp⟩
 rintro ⟨i, last, u⟩ ⟨k, h3, h4, h5, h6, h7⟩
 dsimp only at h4 h5 h6 h7
 subst h4
 simp only [agL, aaL]
 rcases zO k l.length with hk | hk
 ·have e : l.getD k zs = l[k] := by simp [hk]
  have hv : aeQ ((((l.getD k zs).1, (l.getD k zs).2.1, (l.getD k zs).2.2.1, (l.getD k zs).2.2.2.1, (l.getD k zs).2.2.2.2.1, (l.getD k zs).2.2.2.2.2.1, ()), last, (k : Int) == 0, ()), ()) = some (decide (ag0 last l[k]), ()) := by
   rw [aC0 h5, e]
  rw [yj hk, ay2] at h6
  by_cases c : ag0 last l[k]
  ·left
   refine ⟨(((k + 1 : Nat) : Int), l[k].1, ()), ?_, ⟨k + 1, by omega, rfl, ⟨?_, c.2.2⟩, ⟨fun h => (h6.1 h).2, fun h => h6.2 ⟨c, h⟩⟩, fun _ => by rw [Nat.add_sub_cancel, e]⟩, by dsimp only; omega, zf⟩
   ·refine uT sd (uN sd (uC _ hv (uF (by rw [zn c]; rfl) ?_)))
    repeat refine za ?_
    rw [aaF (x := (k : Int) + 1) zc]
    show some (Sum.inl (((k + 1 : Nat) : Int), (l.getD k zs).1, ())) = _
    rw [e]
   ·have := h5.1; have := c.2.1; dsimp only; omega
  ·right
   rw [zl (fun h => c (h6.1 h).1)]
   exact uT sd (uN sd (uC _ hv (uT (by rw [zl c]; rfl) rfl)))
 ·right
  have hkl : k = l.length := zc
  subst hkl
  rw [List.drop_length, aBM] at h6
  have hw : w64 (len l - 1) = ((l.length - 1 : Nat) : Int) := by rw [aaB, aaF (x := (l.length : Int) - 1) zc]; omega
  simp only [hw, aaL]
  refine uF sd (uN sd ?_)
  rw [h7 zc] at h6
  show some (Sum.inr ((l.getD (l.length - 1) zs).1 == 1000000, ())) = _
  by_cases c : (l.getD (l.length - 1) zs).1 = 1000000
  ·rw [zn (h6.2 c), zu.2 c]
  ·rw [zl (fun h => c (h6.1 h)), beq_eq_false_iff_ne.2 c]
theorem ahR {α : Type} (l : List α) : (len l == 0) = decide (l = []) := by
 cases l with
 | nil => rfl
 | cons a l => rw [zl ze, beq_eq_false_iff_ne]; simp [len]; omega
theorem aAw (c : CvT) (y) (h : alW (c, ()) = some y) : (aqU c).toO = some y := by
 injection h with h
 subst h
 obtain ⟨kind, tab, l, u⟩ := c
 unfold aqU
 dsimp only
 simp only [ahR]
 by_cases k1 : kind = 1
 ·subst k1
  refine uT rfl ?_
  by_cases a1 : tab = []
  ·refine uT (zn a1) ?_
   by_cases a2 : l = []
   ·rw [if_pos (show acR (1, tab, l, u) from Or.inl ⟨rfl, a1, a2⟩)]
    exact uF (by rw [zn a2]; rfl) rfl
   ·rw [if_neg (fun h => by rcases h with h | h | h; exact a2 h.2.2; exact absurd h.1 zh; exact absurd h.1 zh)]
    exact uT (by rw [zl a2]; rfl) rfl
  ·rw [if_neg (fun h => by rcases h with h | h | h; exact a1 h.2.1; exact absurd h.1 zh; exact absurd h.1 zh)]
   exact uF (zl a1) rfl
 refine uF (beq_eq_false_iff_ne.2 k1) ?_
 by_cases k2 : kind = 2
 ·subst k2
  refine uT rfl (uC (decide (aeY tab), ()) rfl ?_)
  by_cases a1 : aeY tab
  ·refine uT (zn a1) ?_
   by_cases a2 : l = []
   ·rw [if_pos (show acR (2, tab, l, u) from Or.inr (Or.inl ⟨rfl, a1, a2⟩))]
    exact uF (by rw [zn a2]; rfl) rfl
   ·rw [if_neg (fun h => by rcases h with h | h | h; exact absurd h.1 zh; exact a2 h.2.2; exact absurd h.1 zh)]
    exact uT (by rw [zl a2]; rfl) rfl
  ·rw [if_neg (fun h => by rcases h with h | h | h; exact absurd h.1 zh; exact a1 h.2.1; exact absurd h.1 zh)]
   exact uF (zl a1) rfl
 refine uF (beq_eq_false_iff_ne.2 k2) ?_
 by_cases k3 : kind = 3
 ·subst k3
  refine uT rfl ?_
  by_cases a1 : tab = []
  ·refine uT (zn a1) (uC (decide (adE l), ()) rfl ?_)
   by_cases a2 : adE l
   ·rw [if_pos (show acR (3, tab, l, u) from Or.inr (Or.inr ⟨rfl, a1, a2⟩))]
    exact uF (by rw [zn a2]; rfl) rfl
   ·rw [if_neg (fun h => by rcases h with h | h | h; exact absurd h.1 zh; exact absurd h.1 zh; exact a2 h.2.2)]
    exact uT (by rw [zl a2]; rfl) rfl
  ·rw [if_neg (fun h => by rcases h with h | h | h; exact absurd h.1 zh; exact absurd h.1 zh; exact a1 h.2.1)]
   exact uF (zl a1) rfl
 ·rw [if_neg (fun h => by rcases h with h | h | h; exact k1 h.1; exact k2 h.1; exact k3 h.1)]
  exact uF (beq_eq_false_iff_ne.2 k3) rfl
theorem ayJ (c : CvT) : alW (c, ()) = some (if acR c then 0 else 90, ()) := rfl
theorem am8 {α : Type} {s t : List α} {k : Nat} (hs : k < s.length) (ht : k < t.length) (h : s.take k = t.take k) (he : s[k] = t[k]) : s.take (k + 1) = t.take (k + 1) := by
 rw [yc hs, yc ht, h, he]
theorem aJP {a b : aiD} (h : a ≠ b) : (!match a.1 == b.1 with
 | true =>
  match a.2.1 == b.2.1 with
  | true =>
   match a.2.2.1 == b.2.2.1 with
   | true =>
    match a.2.2.2.1 == b.2.2.2.1 with
    | true =>
     match a.2.2.2.2.1 == b.2.2.2.2.1 with
     | true =>
      match a.2.2.2.2.2.1 == b.2.2.2.2.2.1 with
      | true => true
      | false => false
     | false => false
    | false => false
   | false => false
  | false => false
 | false => false) = true := by
 obtain ⟨a1, a2, a3, a4, a5, a6, a7⟩ := a
 obtain ⟨b1, b2, b3, b4, b5, b6, b7⟩ := b
 dsimp only
 by_cases c1 : a1 = b1
 case neg => rw [beq_eq_false_iff_ne.2 c1]; rfl
 by_cases c2 : a2 = b2
 case neg => rw [zu.2 c1, beq_eq_false_iff_ne.2 c2]; rfl
 by_cases c3 : a3 = b3
 case neg => rw [zu.2 c1, zu.2 c2, beq_eq_false_iff_ne.2 c3]; rfl
 by_cases c4 : a4 = b4
 case neg => rw [zu.2 c1, zu.2 c2, zu.2 c3, beq_eq_false_iff_ne.2 c4]; rfl
 by_cases c5 : a5 = b5
 case neg => rw [zu.2 c1, zu.2 c2, zu.2 c3, zu.2 c4, beq_eq_false_iff_ne.2 c5]; rfl
 by_cases c6 : a6 = b6
 case neg => rw [zu.2 c1, zu.2 c2, zu.2 c3, zu.2 c4, zu.2 c5, beq_eq_false_iff_ne.2 c6]; rfl
 ·subst c1 c2 c3 c4 c5 c6; exact absurd rfl h
theorem aDh (s t : List Int) (y) (h : agW (s, t, ()) = some y) : (ayZ s t).toO = some y := by
 unfold agW at h
 split at h
 case isFalse => cases h
 case isTrue hl =>
 injection h with h
 subst h
 dsimp only at hl ⊢
 unfold ayZ
 by_cases h1 : s.length = t.length
 case neg =>
  rw [aa4 (fun h => h1 (by rw [h]))]
  exact uT sd rfl
 refine uF sd (uO (0, ()) rfl ?_)
 refine acJ (fun i : Int × Unit => ∃ k : Nat, k ≤ s.length ∧ i = ((k : Int), ()) ∧ s.take k = t.take k) (fun i => ((s.length : Int) - i.1).toNat) (fun _ => (eqb s t, ())) ?_ _ ⟨0, by omega, rfl, by simp⟩
 rintro i ⟨k, h2, rfl, h3⟩
 simp only [aAQ, aaL]
 rcases zO k s.length with hk | hk
 ·have e1 : s.getD k 0 = s[k] := by simp [hk]
  have e2 : t.getD k 0 = t[k] := by simp [show k < t.length by omega]
  rw [e1, e2]
  by_cases c : s[k] = t[k]
  ·left
   refine ⟨(((k + 1 : Nat) : Int), ()), ?_, ⟨k + 1, by omega, rfl, am8 hk zc h3 c⟩, by dsimp only; omega, zf⟩
   refine uT sd (uN sd (uN sd (uF ?_ ?_)))
   ·rw [c]; simp
   ·repeat refine za ?_
    rw [aaF (x := (k : Int) + 1) zc]; rfl
  ·right
   rw [aa4 (fun h : s = t => c (by subst h; rfl))]
   refine uT sd (uN sd (uN sd (uT ?_ rfl)))
   simpa using c
 ·right
  rw [zy hk, zy zc] at h3
  rw [ac9 h3]
  exact uF sd rfl
theorem aDf (s t : List aiD) (y) (h : aq6 (s, t, ()) = some y) : (ayX s t).toO = some y := by
 unfold aq6 at h
 split at h
 case isFalse => cases h
 case isTrue hl =>
 injection h with h
 subst h
 dsimp only at hl ⊢
 unfold ayX
 by_cases h1 : s.length = t.length
 case neg =>
  rw [aa4 (fun h => h1 (by rw [h]))]
  exact uT sd rfl
 refine uF sd (uO (0, ()) rfl ?_)
 refine acJ (fun i : Int × Unit => ∃ k : Nat, k ≤ s.length ∧ i = ((k : Int), ()) ∧ s.take k = t.take k) (fun i => ((s.length : Int) - i.1).toNat) (fun _ => (eqb s t, ())) ?_ _ ⟨0, by omega, rfl, by simp⟩
 rintro i ⟨k, h2, rfl, h3⟩
 simp only [aAP, aaL]
 rcases zO k s.length with hk | hk
 ·have e1 : s.getD k zs = s[k] := by simp [hk]
  have e2 : t.getD k zs = t[k] := by simp [show k < t.length by omega]
  rw [e1, e2]
  by_cases c : s[k] = t[k]
  ·left
   refine ⟨(((k + 1 : Nat) : Int), ()), ?_, ⟨k + 1, by omega, rfl, am8 hk zc h3 c⟩, by dsimp only; omega, zf⟩
   refine uT sd (uN sd (uN sd (uF ?_ ?_)))
   ·rw [c]; simp
   ·repeat refine za ?_
    rw [aaF (x := (k : Int) + 1) zc]; rfl
  ·right
   rw [aa4 (fun h : s = t => c (by subst h; rfl))]
   refine uT sd (uN sd (uN sd (uT ?_ rfl)))
   exact aJP c
 ·right
  rw [zy hk, zy zc] at h3
  rw [ac9 h3]
  exact uF sd rfl
theorem aCM (a b : CvT) (y) (h : alV (a, b, ()) = some y) : (avD a b).toO = some y := by
 unfold alV at h
 split at h
 case isFalse => cases h
 case isTrue hl =>
 injection h with h
 subst h
 obtain ⟨k1, t1, s1, u1⟩ := a
 obtain ⟨k2, t2, s2, u2⟩ := b
 dsimp only at hl ⊢
 unfold avD
 dsimp only
 by_cases c1 : k1 = k2
 ·refine uT (zu.2 c1) ?_
  refine uC (eqb t1 t2, ()) (by unfold agW; rw [if_pos hl.1]) ?_
  by_cases c2 : t1 = t2
  ·refine uT (ac9 c2) ?_
   refine uC (eqb s1 s2, ()) (by unfold aq6; rw [if_pos hl.2]) ?_
   by_cases c3 : s1 = s2
   ·subst c1 c2 c3
    rw [abQ, ac9 rfl, ac9 rfl]
   ·rw [abQ, aa4 c3, aa4 (fun h => c3 (by injection h with _ h; injection h with _ h; injection h with h _))]
  ·refine uF (aa4 c2) ?_
   rw [abQ, aa4 (fun h => c2 (by injection h with _ h; injection h with h _))]
 ·refine uF (beq_eq_false_iff_ne.2 c1) ?_
  rw [abQ, aa4 (fun h => c1 (by injection h with h _))]
theorem ab9 {β : Type} {R : Int × Unit → Option ((Int × Unit) ⊕ β)} {bad good : β} {n : Nat} (p : Nat → Bool)
  (hs : ∀ k : Nat, k < n → p k = true → R ((k : Int), ()) = some (.inl (((k + 1 : Nat) : Int), ())))
  (hb : ∀ k : Nat, k < n → p k = false → R ((k : Int), ()) = some (.inr bad))
  (he : R ((n : Int), ()) = some (.inr good)) : afD R (0, ()) = some (if (List.range n).all p then good else bad) := by
 refine acJ (fun i : Int × Unit => ∃ k : Nat, k ≤ n ∧ i = ((k : Int), ()) ∧ ∀ j, j < k → p j = true) (fun i => ((n : Int) - i.1).toNat) (fun _ => if (List.range n).all p then good else bad) ?_ _ ⟨0, zK _, rfl, fun j h => absurd h (Nat.not_lt_zero _)⟩
 rintro i ⟨k, h1, rfl, h2⟩
 rcases zO k n with h | h
 ·cases hp : p k with
  | true =>
   left
   refine ⟨(((k + 1 : Nat) : Int), ()), hs k h hp, ⟨k + 1, h, rfl, fun j hj => ?_⟩, by dsimp only; omega, rfl⟩
   rcases Nat.lt_succ_iff_lt_or_eq.1 hj with h3 | h3
   ·exact h2 j h3
   ·subst h3; exact hp
  | false =>
   right
   rw [hb k h hp]
   have : ¬ ((List.range n).all p = true) := fun hall => by
    have := yo.1 hall k (xn.2 h)
    rw [hp] at this; cases this
   rw [if_neg this]
 ·right
  have hk : k = n := zc
  subst hk
  rw [he, if_pos (yo.2 fun j hj => h2 j (xn.1 hj))]
theorem aHA {α : Type} (l : List α) (d : α) (q : α → Bool) : (List.range l.length).all (fun k => q (l.getD k d)) = l.all q := by
 rw [xz, yo, yo]
 constructor
 ·intro h x hx
  obtain ⟨k, hk, rfl⟩ := List.getElem_of_mem hx
  have := h k (xn.2 hk)
  simpa [hk] using this
 ·intro h k hk
  have hk := xn.1 hk
  have : l.getD k d = l[k] := by simp [hk]
  show q (l.getD k d) = true
  rw [this]; exact h _ (yv hk)
theorem auX {α : Type} {s t : List α} (d : α) (h : s.length = t.length) : (List.range s.length).all (fun k => eqb (s.getD k d) (t.getD k d)) = eqb s t := by
 rw [xz, yo]
 constructor
 ·intro hall
  refine ac9 (List.ext_getElem h fun k h1 h2 => ?_)
  have := hall k (xn.2 h1)
  unfold eqb at this
  split at this
  ·rename_i e; simpa [h1, h2] using e
  ·cases this
 ·intro he k hk
  unfold eqb at he
  split at he
  ·rename_i e; subst e; exact ac9 rfl
  ·cases he
theorem pairE {a b : Int × Int × Unit} : (match a.1 == b.1 with
 | true =>
  match a.2.1 == b.2.1 with
  | true => true
  | false => false
 | false => false) = eqb a b := by
 obtain ⟨a1, a2, a3⟩ := a
 obtain ⟨b1, b2, b3⟩ := b
 dsimp only
 by_cases c1 : a1 = b1
 case neg => rw [beq_eq_false_iff_ne.2 c1, aa4 (fun h => c1 (Prod.mk.inj h).1)]
 by_cases c2 : a2 = b2
 case neg => rw [zu.2 c1, beq_eq_false_iff_ne.2 c2, aa4 (fun h => c2 (Prod.mk.inj (Prod.mk.inj h).2).1)]
 ·subst c1 c2; rw [ac9 rfl, zu.2 rfl, zu.2 rfl]
theorem arG {k n : Nat} (h : k < n) (hn : n ≤ 1000000000000) : w64 ((k : Int) + 1) = ((k + 1 : Nat) : Int) := by rw [aaF zc]; rfl
theorem aDg (s t : List OpT) (y) (h : aq7 (s, t, ()) = some y) : (ayY s t).toO = some y := by
 unfold aq7 at h
 split at h
 case isFalse => cases h
 case isTrue hl =>
 have hl : s.length ≤ 1000000000000 := hl
 injection h with h
 subst h
 dsimp only
 unfold ayY
 by_cases h1 : s.length = t.length
 case neg =>
  rw [aa4 (fun h => h1 (by rw [h]))]
  exact uT sd rfl
 refine uF sd (uO (0, ()) rfl ?_)
 refine (ab9 (n := s.length) (bad := (false, ())) (good := (true, ())) (fun k => eqb (s.getD k (0, 0, ())) (t.getD k (0, 0, ()))) (fun k hk hp => ?_) (fun k hk hp => ?_) ?_).trans (by rw [auX _ h1]; cases eqb s t <;> rfl)
 ·simp only [atW, aaL]
  refine uT sd (uN sd (uN sd (uF (congrArg (fun b : Bool => !b) (pairE.trans hp)) (uV (uB (uV (uV ?_)))))))
  rw [arG hk hl]; rfl
 ·simp only [atW, aaL]
  exact uT sd (uN sd (uN sd (uT (congrArg (fun b : Bool => !b) (pairE.trans hp)) rfl)))
 ·exact uF sd rfl
theorem axC (n a b : Int) (y) (h : aeP (n, a, b, ()) = some y) : (amH n a b).toO = some y := by
 injection h with h
 subst h
 unfold amH
 by_cases h1 : a ≤ n
 ·refine uT (zn (by first | exact h1 | exact h1)) ?_
  show some (decide (n ≤ b), ()) = some (decide (a ≤ n ∧ n ≤ b), ())
  simp [h1]
 ·refine uF (zl (by first | exact h1 | exact h1)) ?_
  show some (false, ()) = some (decide (a ≤ n ∧ n ≤ b), ())
  simp [h1]
theorem arY (n a b : Int) (y) (h : adO (n, a, b, ()) = some y) : (aiT n a b).toO = some y := by
 injection h with h
 subst h
 unfold aiT
 by_cases h1 : a ≤ n
 ·refine uT (zn (by first | exact h1 | exact h1)) ?_
  show some (decide (n ≤ b), ()) = some (decide (a ≤ n ∧ n ≤ b), ())
  simp [h1]
 ·refine uF (zl (by first | exact h1 | exact h1)) ?_
  show some (false, ()) = some (decide (a ≤ n ∧ n ≤ b), ())
  simp [h1]
theorem auR (l : List Int) (y) (h : adC (l, ()) = some y) : (akW l).toO = some y := by
 unfold adC at h
 split at h
 case isFalse => cases h
 case isTrue hl =>
 have hl : l.length ≤ 1000000000000 := hl
 injection h with h
 subst h
 dsimp only
 unfold akW
 refine uO (0, 1, ()) rfl ?_
 refine acJ (fun i : Int × Int × Unit => ∃ k : Nat, k ≤ l.length ∧ i = ((k : Int), (l.take k).foldl (fun p n => w64 (p * n)) 1, ())) (fun i => ((l.length : Int) - i.1).toNat) (fun _ => (afQ l, ())) ?_ _ ⟨0, by omega, rfl⟩
 rintro i ⟨k, h2, rfl⟩
 simp only [anM, aaL]
 rcases zO k l.length with hk | hk
 ·left
  refine ⟨(((k + 1 : Nat) : Int), (l.take (k + 1)).foldl (fun p n => w64 (p * n)) 1, ()), ?_, ⟨k + 1, by omega, rfl⟩, by dsimp only; omega, zf⟩
  refine uT sd (uN sd (uV (uB (uB (uV (uV ?_))))))
  rw [arG hk hl, yc hk, List.foldl_append]
  have e : l.getD k 0 = l[k] := by simp [hk]
  rw [e]; rfl
 ·right
  refine uF sd ?_
  rw [zy hk]; rfl
theorem arZ (l : List Int) (y) (h : ab4 (l, ()) = some y) : (aiV l).toO = some y := by
 unfold ab4 adC at h
 split at h
 case isFalse => cases h
 case isTrue hl =>
 have hl : l.length ≤ 1000000000000 := hl
 injection h with h
 subst h
 dsimp only
 unfold aiV
 refine uO (0, 1, ()) rfl ?_
 refine acJ (fun i : Int × Int × Unit => ∃ k : Nat, k ≤ l.length ∧ i = ((k : Int), (l.take k).foldl (fun p n => w64 (p * n)) 1, ())) (fun i => ((l.length : Int) - i.1).toNat) (fun _ => (afQ l, ())) ?_ _ ⟨0, by omega, rfl⟩
 rintro i ⟨k, h2, rfl⟩
 simp only [ak9, aaL]
 rcases zO k l.length with hk | hk
 ·left
  refine ⟨(((k + 1 : Nat) : Int), (l.take (k + 1)).foldl (fun p n => w64 (p * n)) 1, ()), ?_, ⟨k + 1, by omega, rfl⟩, by dsimp only; omega, zf⟩
  refine uT sd (uN sd (uV (uB (uB (uV (uV ?_))))))
  rw [arG hk hl, yc hk, List.foldl_append]
  have e : l.getD k 0 = l[k] := by simp [hk]
  rw [e]; rfl
 ·right
  refine uF sd ?_
  rw [zy hk]; rfl
theorem aq8 {s t : List Int} (h : shL s) : agW (s, t, ()) = some (eqb s t, ()) := if_pos h
theorem eqb_iff {α : Type} {a b : α} : eqb a b = true ↔ a = b := by
 refine ⟨fun h => ?_, ac9⟩
 unfold eqb at h
 split at h
 ·assumption
 ·cases h
theorem aAc {α : Type} {a b : α} {c : Bool} (h : c = true ↔ a = b) : eqb a b = c := by rw [xz, eqb_iff]; exact h.symm
theorem aCs (a b : GrT) (y) (h : alS (a, b, ()) = some y) : (auS a b).toO = some y := by
 unfold alS at h
 split at h
 case isFalse => cases h
 case isTrue hl =>
 obtain ⟨h1, h2⟩ := hl
 injection h with h
 subst h
 obtain ⟨a1, a2, a3, a4⟩ := a
 obtain ⟨b1, b2, b3, b4⟩ := b
 dsimp only at h1 h2 ⊢
 unfold auS
 dsimp only
 by_cases c2 : a2 = b2
 case neg => exact uF (beq_eq_false_iff_ne.2 c2) (by rw [aa4 (fun h => c2 (Prod.mk.inj (Prod.mk.inj h).2).1)]; rfl)
 refine uT (zu.2 c2) (uC _ (aq8 h1) ?_)
 by_cases c1 : a1 = b1
 case neg => exact uF (aa4 c1) (by rw [aa4 (fun h => c1 (Prod.mk.inj h).1)]; rfl)
 refine uT (ac9 c1) (uC _ (aq8 h2) ?_)
 have e : eqb (a1, a2, a3, a4) (b1, b2, b3, b4) = eqb a3 b3 := aAc (by rw [eqb_iff]; subst c1 c2; simp)
 rw [e]; rfl
end Go.Vs
