/-
  Trees of what the functions compute, and their laws. Own work; no condition.
-/
import Derived.Test.YtebeijpmpjpgcaaGreatDoorClL6
import Derived.KernelRfl
set_option linter.unusedVariables false
set_option linter.unusedSimpArgs false
namespace Go.Vs
open Go Go.Vg
def uI (a : Int) : Int := Int.tmod (w64 (IntKind.wrap .u16 a)) 841
def uNu (a : Int) : Prop := w64 a = a ∧ (-65536 < a ∧ a < 65536) ∧ 0 ≤ uI a ∧ uI a ≤ 840
theorem aMD (ins a b c d : Int) (hn : w64 (1 + w64 (Int.tmod ins 4)) = 1) (ha : uNu a) : (aMC ins [a, b, c, d]).toO = some (true, ()) := by
 have fa := ad0 ha.2.1
 have ga := ad0 (n := uI a) (by have := ha.2.2; omega)
 refine aaA (true, ()) (show aeU () = _ from rfl) rfl sp ?_
 refine adH (w64 (1 + w64 (Int.tmod ins 4)), ()) rfl sp rfl ?_
 rw [hn]
 refine adH ([1000000], false, [(1, [], [], ())], false, [[1000000]], ()) rfl sp (by repeat first | with_reducible refine atS ?_ | with_reducible refine atQ ?_ | with_reducible refine atU ?_ | with_reducible refine atT ?_ | with_reducible refine uV ?_ | with_reducible refine uB ?_ | with_reducible refine abX ?_ ?_ | rfl) ?_
 refine aaA (fx (uQ a), 0, ()) (show aa0 (w64 a, 840, ()) = _ by rw [ha.1]; exact atO ha.2.1) rfl sp ?_
 refine aaA (fx (uQ (uI a)), 0, ()) (show aa0 (uI a, 840, ()) = _ from atO (by have := ha.2.2; omega)) rfl sp ?_
 refine aaA (1, 0, ()) (show ab1 ((2, [], [[1000000]], [0], ([], 0, [], ()), [], 0, 0, ()), ()) = _ by simp [ab1, apZ, ag0]) rfl sp ?_
 refine aaA (0, ()) (show aaC (fx (uQ a), ()) = _ from aeM fa) rfl sp ?_
 refine adH (fx 0, 0, ()) rfl sp (by repeat first | with_reducible refine atS ?_ | with_reducible refine atQ ?_ | with_reducible refine atU ?_ | with_reducible refine atT ?_ | with_reducible refine uV ?_ | with_reducible refine uB ?_ | refine uC (fx 0, 0, ()) (show aaH (0, 1000000, ()) = _ from aeL) ?_ | with_reducible refine abX ?_ ?_ | rfl) ?_
 refine aaA (fx 1, 0, ()) (show aaH (1000000, 1000000, ()) = _ from asW) rfl sp ?_
 refine aaA (fx (uQ a), 0, ()) (show aaK (fx 1, fx (uQ a), ()) = _ from aj4 fa) rfl sp ?_
 refine aaA (fx (uQ a), 0, ()) (show aaL (fx 0, fx (uQ a), ()) = _ from aeC fa) rfl sp ?_
 refine aaA (true, ()) (show acT ([fx (uQ a)], [fx (uQ a)], ()) = _ from aKs _ zh) rfl sp ?_
 refine aaA (1, 0, ()) (show ab1 ((1, [(1, [], [], ())], [], [], ([], 0, [], ()), [], 0, 0, ()), ()) = _ by simp [ab1, apZ, ag0]) rfl sp ?_
 refine aaA (0, ()) (show aaC (fx (uQ (uI a)), ()) = _ from aeM ga) rfl sp ?_
 refine aaA (0, ()) (show aaC (fx (uQ (uI a)), ()) = _ from aeM ga) rfl sp ?_
 refine aaA (fx (uQ (uI a)), ()) (show aaM (fx (uQ (uI a)), ()) = _ from agZ ha.2.2) rfl sp ?_
 refine aaA (true, ()) (show acT ([fx (uQ (uI a))], [fx (uQ (uI a))], ()) = _ from aKs _ zh) rfl sp ?_
 refine aaA (true, ()) (show abD ((2, [], [[1000000]], [0], ([], 0, [], ()), [], 0, 0, ()), ()) = _ by simp [abD, apY, ag0]) rfl sp ?_
 refine aaA (true, ()) (show abD ((1, [(1, [], [], ())], [], [], ([], 0, [], ()), [], 0, 0, ()), ()) = _ by simp [abD, apY, ag0]) rfl sp ?_
 exact aOZ rfl sp
theorem aMB (ins a b c d : Int) (hn : w64 (1 + w64 (Int.tmod ins 4)) = 2) (ha : uNu a) (hb : uNu b) : (aMA ins [a, b, c, d]).toO = some (true, ()) := by
 have fa := ad0 ha.2.1
 have ga := ad0 (n := uI a) (by have := ha.2.2; omega)
 have fb := ad0 hb.2.1
 have gb := ad0 (n := uI b) (by have := hb.2.2; omega)
 refine aaA (true, ()) (show aeU () = _ from rfl) rfl sp ?_
 refine adH (w64 (1 + w64 (Int.tmod ins 4)), ()) rfl sp rfl ?_
 rw [hn]
 refine adH ([1000000, 0], false, [(1, [], [], ())], false, [[1000000, 0]], ()) rfl sp (by repeat first | with_reducible refine atS ?_ | with_reducible refine atQ ?_ | with_reducible refine atU ?_ | with_reducible refine atT ?_ | with_reducible refine uV ?_ | with_reducible refine uB ?_ | with_reducible refine abX ?_ ?_ | rfl) ?_
 refine aaA (fx (uQ a), 0, ()) (show aa0 (w64 a, 840, ()) = _ by rw [ha.1]; exact atO ha.2.1) rfl sp ?_
 refine aaA (fx (uQ (uI a)), 0, ()) (show aa0 (uI a, 840, ()) = _ from atO (by have := ha.2.2; omega)) rfl sp ?_
 refine adH ([0, 1000000], false, [(1, [], [], ()), (1, [], [], ())], false, [[1000000, 0], [0, 1000000]], ()) rfl sp (by repeat first | with_reducible refine atS ?_ | with_reducible refine atQ ?_ | with_reducible refine atU ?_ | with_reducible refine atT ?_ | with_reducible refine uV ?_ | with_reducible refine uB ?_ | with_reducible refine abX ?_ ?_ | rfl) ?_
 refine aaA (fx (uQ b), 0, ()) (show aa0 (w64 b, 840, ()) = _ by rw [hb.1]; exact atO hb.2.1) rfl sp ?_
 refine aaA (fx (uQ (uI b)), 0, ()) (show aa0 (uI b, 840, ()) = _ from atO (by have := hb.2.2; omega)) rfl sp ?_
 refine aaA (2, 0, ()) (show ab1 ((2, [], [[1000000, 0], [0, 1000000]], [0, 0], ([], 0, [], ()), [], 0, 0, ()), ()) = _ by simp [ab1, apZ, ag0]) rfl sp ?_
 refine aaA (0, ()) (show aaC (fx (uQ a), ()) = _ from aeM fa) rfl sp ?_
 refine aaA (0, ()) (show aaC (fx (uQ b), ()) = _ from aeM fb) rfl sp ?_
 refine adH (fx 0, 0, ()) rfl sp (by repeat first | with_reducible refine atS ?_ | with_reducible refine atQ ?_ | with_reducible refine atU ?_ | with_reducible refine atT ?_ | with_reducible refine uV ?_ | with_reducible refine uB ?_ | refine uC (fx 0, 0, ()) (show aaH (0, 1000000, ()) = _ from aeL) ?_ | with_reducible refine abX ?_ ?_ | rfl) ?_
 refine aaA (fx 1, 0, ()) (show aaH (1000000, 1000000, ()) = _ from asW) rfl sp ?_
 refine aaA (fx (uQ a), 0, ()) (show aaK (fx 1, fx (uQ a), ()) = _ from aj4 fa) rfl sp ?_
 refine aaA (fx (uQ a), 0, ()) (show aaL (fx 0, fx (uQ a), ()) = _ from aeC fa) rfl sp ?_
 refine aaA (fx 0, 0, ()) (show aaH (0, 1000000, ()) = _ from aeL) rfl sp ?_
 refine aaA (fx 0, 0, ()) (show aaK (fx 0, fx (uQ b), ()) = _ from aeB fb) rfl sp ?_
 refine aaA (fx (uQ a), 0, ()) (show aaL (fx (uQ a), fx 0, ()) = _ from aj5 fa) rfl sp ?_
 refine adH (fx 0, 0, ()) rfl sp (by repeat first | with_reducible refine atS ?_ | with_reducible refine atQ ?_ | with_reducible refine atU ?_ | with_reducible refine atT ?_ | with_reducible refine uV ?_ | with_reducible refine uB ?_ | refine uC (fx 0, 0, ()) (show aaH (0, 1000000, ()) = _ from aeL) ?_ | with_reducible refine abX ?_ ?_ | rfl) ?_
 refine aaA (fx 0, 0, ()) (show aaH (0, 1000000, ()) = _ from aeL) rfl sp ?_
 refine aaA (fx 0, 0, ()) (show aaK (fx 0, fx (uQ a), ()) = _ from aeB fa) rfl sp ?_
 refine aaA (fx 0, 0, ()) (show aaL (fx 0, fx 0, ()) = _ from aeC aCN) rfl sp ?_
 refine aaA (fx 1, 0, ()) (show aaH (1000000, 1000000, ()) = _ from asW) rfl sp ?_
 refine aaA (fx (uQ b), 0, ()) (show aaK (fx 1, fx (uQ b), ()) = _ from aj4 fb) rfl sp ?_
 refine aaA (fx (uQ b), 0, ()) (show aaL (fx 0, fx (uQ b), ()) = _ from aeC fb) rfl sp ?_
 refine aaA (true, ()) (show acT ([fx (uQ a), fx (uQ b)], [fx (uQ a), fx (uQ b)], ()) = _ from aKs _ zh) rfl sp ?_
 refine aaA (2, 0, ()) (show ab1 ((1, [(1, [], [], ()), (1, [], [], ())], [], [], ([], 0, [], ()), [], 0, 0, ()), ()) = _ by simp [ab1, apZ, ag0]) rfl sp ?_
 refine aaA (0, ()) (show aaC (fx (uQ (uI a)), ()) = _ from aeM ga) rfl sp ?_
 refine aaA (0, ()) (show aaC (fx (uQ (uI b)), ()) = _ from aeM gb) rfl sp ?_
 refine aaA (0, ()) (show aaC (fx (uQ (uI a)), ()) = _ from aeM ga) rfl sp ?_
 refine aaA (fx (uQ (uI a)), ()) (show aaM (fx (uQ (uI a)), ()) = _ from agZ ha.2.2) rfl sp ?_
 refine aaA (0, ()) (show aaC (fx (uQ (uI b)), ()) = _ from aeM gb) rfl sp ?_
 refine aaA (fx (uQ (uI b)), ()) (show aaM (fx (uQ (uI b)), ()) = _ from agZ hb.2.2) rfl sp ?_
 refine aaA (true, ()) (show acT ([fx (uQ (uI a)), fx (uQ (uI b))], [fx (uQ (uI a)), fx (uQ (uI b))], ()) = _ from aKs _ zh) rfl sp ?_
 refine aaA (true, ()) (show abD ((2, [], [[1000000, 0], [0, 1000000]], [0, 0], ([], 0, [], ()), [], 0, 0, ()), ()) = _ by simp [abD, apY, ag0]) rfl sp ?_
 refine aaA (true, ()) (show abD ((1, [(1, [], [], ()), (1, [], [], ())], [], [], ([], 0, [], ()), [], 0, 0, ()), ()) = _ by simp [abD, apY, ag0]) rfl sp ?_
 exact aOZ rfl sp
theorem aMz (ins a b c d : Int) (hn : w64 (1 + w64 (Int.tmod ins 4)) = 3) (ha : uNu a) (hb : uNu b) (hc : uNu c) : (aMy ins [a, b, c, d]).toO = some (true, ()) := by
 have fa := ad0 ha.2.1
 have ga := ad0 (n := uI a) (by have := ha.2.2; omega)
 have fb := ad0 hb.2.1
 have gb := ad0 (n := uI b) (by have := hb.2.2; omega)
 have fc := ad0 hc.2.1
 have gc := ad0 (n := uI c) (by have := hc.2.2; omega)
 refine aaA (true, ()) (show aeU () = _ from rfl) rfl sp ?_
 refine adH (w64 (1 + w64 (Int.tmod ins 4)), ()) rfl sp rfl ?_
 rw [hn]
 refine adH ([1000000, 0, 0], false, [(1, [], [], ())], false, [[1000000, 0, 0]], ()) rfl sp (by repeat first | with_reducible refine atS ?_ | with_reducible refine atQ ?_ | with_reducible refine atU ?_ | with_reducible refine atT ?_ | with_reducible refine uV ?_ | with_reducible refine uB ?_ | with_reducible refine abX ?_ ?_ | rfl) ?_
 refine aaA (fx (uQ a), 0, ()) (show aa0 (w64 a, 840, ()) = _ by rw [ha.1]; exact atO ha.2.1) rfl sp ?_
 refine aaA (fx (uQ (uI a)), 0, ()) (show aa0 (uI a, 840, ()) = _ from atO (by have := ha.2.2; omega)) rfl sp ?_
 refine adH ([0, 1000000, 0], false, [(1, [], [], ()), (1, [], [], ())], false, [[1000000, 0, 0], [0, 1000000, 0]], ()) rfl sp (by repeat first | with_reducible refine atS ?_ | with_reducible refine atQ ?_ | with_reducible refine atU ?_ | with_reducible refine atT ?_ | with_reducible refine uV ?_ | with_reducible refine uB ?_ | with_reducible refine abX ?_ ?_ | rfl) ?_
 refine aaA (fx (uQ b), 0, ()) (show aa0 (w64 b, 840, ()) = _ by rw [hb.1]; exact atO hb.2.1) rfl sp ?_
 refine aaA (fx (uQ (uI b)), 0, ()) (show aa0 (uI b, 840, ()) = _ from atO (by have := hb.2.2; omega)) rfl sp ?_
 refine adH ([0, 0, 1000000], false, [(1, [], [], ()), (1, [], [], ()), (1, [], [], ())], false, [[1000000, 0, 0], [0, 1000000, 0], [0, 0, 1000000]], ()) rfl sp (by repeat first | with_reducible refine atS ?_ | with_reducible refine atQ ?_ | with_reducible refine atU ?_ | with_reducible refine atT ?_ | with_reducible refine uV ?_ | with_reducible refine uB ?_ | with_reducible refine abX ?_ ?_ | rfl) ?_
 refine aaA (fx (uQ c), 0, ()) (show aa0 (w64 c, 840, ()) = _ by rw [hc.1]; exact atO hc.2.1) rfl sp ?_
 refine aaA (fx (uQ (uI c)), 0, ()) (show aa0 (uI c, 840, ()) = _ from atO (by have := hc.2.2; omega)) rfl sp ?_
 refine aaA (3, 0, ()) (show ab1 ((2, [], [[1000000, 0, 0], [0, 1000000, 0], [0, 0, 1000000]], [0, 0, 0], ([], 0, [], ()), [], 0, 0, ()), ()) = _ by simp [ab1, apZ, ag0]) rfl sp ?_
 refine aaA (0, ()) (show aaC (fx (uQ a), ()) = _ from aeM fa) rfl sp ?_
 refine aaA (0, ()) (show aaC (fx (uQ b), ()) = _ from aeM fb) rfl sp ?_
 refine aaA (0, ()) (show aaC (fx (uQ c), ()) = _ from aeM fc) rfl sp ?_
 refine adH (fx 0, 0, ()) rfl sp (by repeat first | with_reducible refine atS ?_ | with_reducible refine atQ ?_ | with_reducible refine atU ?_ | with_reducible refine atT ?_ | with_reducible refine uV ?_ | with_reducible refine uB ?_ | refine uC (fx 0, 0, ()) (show aaH (0, 1000000, ()) = _ from aeL) ?_ | with_reducible refine abX ?_ ?_ | rfl) ?_
 refine aaA (fx 1, 0, ()) (show aaH (1000000, 1000000, ()) = _ from asW) rfl sp ?_
 refine aaA (fx (uQ a), 0, ()) (show aaK (fx 1, fx (uQ a), ()) = _ from aj4 fa) rfl sp ?_
 refine aaA (fx (uQ a), 0, ()) (show aaL (fx 0, fx (uQ a), ()) = _ from aeC fa) rfl sp ?_
 refine aaA (fx 0, 0, ()) (show aaH (0, 1000000, ()) = _ from aeL) rfl sp ?_
 refine aaA (fx 0, 0, ()) (show aaK (fx 0, fx (uQ b), ()) = _ from aeB fb) rfl sp ?_
 refine aaA (fx (uQ a), 0, ()) (show aaL (fx (uQ a), fx 0, ()) = _ from aj5 fa) rfl sp ?_
 refine aaA (fx 0, 0, ()) (show aaH (0, 1000000, ()) = _ from aeL) rfl sp ?_
 refine aaA (fx 0, 0, ()) (show aaK (fx 0, fx (uQ c), ()) = _ from aeB fc) rfl sp ?_
 refine aaA (fx (uQ a), 0, ()) (show aaL (fx (uQ a), fx 0, ()) = _ from aj5 fa) rfl sp ?_
 refine adH (fx 0, 0, ()) rfl sp (by repeat first | with_reducible refine atS ?_ | with_reducible refine atQ ?_ | with_reducible refine atU ?_ | with_reducible refine atT ?_ | with_reducible refine uV ?_ | with_reducible refine uB ?_ | refine uC (fx 0, 0, ()) (show aaH (0, 1000000, ()) = _ from aeL) ?_ | with_reducible refine abX ?_ ?_ | rfl) ?_
 refine aaA (fx 0, 0, ()) (show aaH (0, 1000000, ()) = _ from aeL) rfl sp ?_
 refine aaA (fx 0, 0, ()) (show aaK (fx 0, fx (uQ a), ()) = _ from aeB fa) rfl sp ?_
 refine aaA (fx 0, 0, ()) (show aaL (fx 0, fx 0, ()) = _ from aeC aCN) rfl sp ?_
 refine aaA (fx 1, 0, ()) (show aaH (1000000, 1000000, ()) = _ from asW) rfl sp ?_
 refine aaA (fx (uQ b), 0, ()) (show aaK (fx 1, fx (uQ b), ()) = _ from aj4 fb) rfl sp ?_
 refine aaA (fx (uQ b), 0, ()) (show aaL (fx 0, fx (uQ b), ()) = _ from aeC fb) rfl sp ?_
 refine aaA (fx 0, 0, ()) (show aaH (0, 1000000, ()) = _ from aeL) rfl sp ?_
 refine aaA (fx 0, 0, ()) (show aaK (fx 0, fx (uQ c), ()) = _ from aeB fc) rfl sp ?_
 refine aaA (fx (uQ b), 0, ()) (show aaL (fx (uQ b), fx 0, ()) = _ from aj5 fb) rfl sp ?_
 refine adH (fx 0, 0, ()) rfl sp (by repeat first | with_reducible refine atS ?_ | with_reducible refine atQ ?_ | with_reducible refine atU ?_ | with_reducible refine atT ?_ | with_reducible refine uV ?_ | with_reducible refine uB ?_ | refine uC (fx 0, 0, ()) (show aaH (0, 1000000, ()) = _ from aeL) ?_ | with_reducible refine abX ?_ ?_ | rfl) ?_
 refine aaA (fx 0, 0, ()) (show aaH (0, 1000000, ()) = _ from aeL) rfl sp ?_
 refine aaA (fx 0, 0, ()) (show aaK (fx 0, fx (uQ a), ()) = _ from aeB fa) rfl sp ?_
 refine aaA (fx 0, 0, ()) (show aaL (fx 0, fx 0, ()) = _ from aeC aCN) rfl sp ?_
 refine aaA (fx 0, 0, ()) (show aaH (0, 1000000, ()) = _ from aeL) rfl sp ?_
 refine aaA (fx 0, 0, ()) (show aaK (fx 0, fx (uQ b), ()) = _ from aeB fb) rfl sp ?_
 refine aaA (fx 0, 0, ()) (show aaL (fx 0, fx 0, ()) = _ from aeC aCN) rfl sp ?_
 refine aaA (fx 1, 0, ()) (show aaH (1000000, 1000000, ()) = _ from asW) rfl sp ?_
 refine aaA (fx (uQ c), 0, ()) (show aaK (fx 1, fx (uQ c), ()) = _ from aj4 fc) rfl sp ?_
 refine aaA (fx (uQ c), 0, ()) (show aaL (fx 0, fx (uQ c), ()) = _ from aeC fc) rfl sp ?_
 refine aaA (true, ()) (show acT ([fx (uQ a), fx (uQ b), fx (uQ c)], [fx (uQ a), fx (uQ b), fx (uQ c)], ()) = _ from aKs _ zh) rfl sp ?_
 refine aaA (3, 0, ()) (show ab1 ((1, [(1, [], [], ()), (1, [], [], ()), (1, [], [], ())], [], [], ([], 0, [], ()), [], 0, 0, ()), ()) = _ by simp [ab1, apZ, ag0]) rfl sp ?_
 refine aaA (0, ()) (show aaC (fx (uQ (uI a)), ()) = _ from aeM ga) rfl sp ?_
 refine aaA (0, ()) (show aaC (fx (uQ (uI b)), ()) = _ from aeM gb) rfl sp ?_
 refine aaA (0, ()) (show aaC (fx (uQ (uI c)), ()) = _ from aeM gc) rfl sp ?_
 refine aaA (0, ()) (show aaC (fx (uQ (uI a)), ()) = _ from aeM ga) rfl sp ?_
 refine aaA (fx (uQ (uI a)), ()) (show aaM (fx (uQ (uI a)), ()) = _ from agZ ha.2.2) rfl sp ?_
 refine aaA (0, ()) (show aaC (fx (uQ (uI b)), ()) = _ from aeM gb) rfl sp ?_
 refine aaA (fx (uQ (uI b)), ()) (show aaM (fx (uQ (uI b)), ()) = _ from agZ hb.2.2) rfl sp ?_
 refine aaA (0, ()) (show aaC (fx (uQ (uI c)), ()) = _ from aeM gc) rfl sp ?_
 refine aaA (fx (uQ (uI c)), ()) (show aaM (fx (uQ (uI c)), ()) = _ from agZ hc.2.2) rfl sp ?_
 refine aaA (true, ()) (show acT ([fx (uQ (uI a)), fx (uQ (uI b)), fx (uQ (uI c))], [fx (uQ (uI a)), fx (uQ (uI b)), fx (uQ (uI c))], ()) = _ from aKs _ zh) rfl sp ?_
 refine aaA (true, ()) (show abD ((2, [], [[1000000, 0, 0], [0, 1000000, 0], [0, 0, 1000000]], [0, 0, 0], ([], 0, [], ()), [], 0, 0, ()), ()) = _ by simp [abD, apY, ag0]) rfl sp ?_
 refine aaA (true, ()) (show abD ((1, [(1, [], [], ()), (1, [], [], ()), (1, [], [], ())], [], [], ([], 0, [], ()), [], 0, 0, ()), ()) = _ by simp [abD, apY, ag0]) rfl sp ?_
 exact aOZ rfl sp
theorem aMx (ins a b c d : Int) (hn : w64 (1 + w64 (Int.tmod ins 4)) = 4) (ha : uNu a) (hb : uNu b) (hc : uNu c) (hd : uNu d) : (aMw ins [a, b, c, d]).toO = some (true, ()) := by
 have fa := ad0 ha.2.1
 have ga := ad0 (n := uI a) (by have := ha.2.2; omega)
 have fb := ad0 hb.2.1
 have gb := ad0 (n := uI b) (by have := hb.2.2; omega)
 have fc := ad0 hc.2.1
 have gc := ad0 (n := uI c) (by have := hc.2.2; omega)
 have fd := ad0 hd.2.1
 have gd := ad0 (n := uI d) (by have := hd.2.2; omega)
 refine aaA (true, ()) (show aeU () = _ from rfl) rfl sp ?_
 refine adH (w64 (1 + w64 (Int.tmod ins 4)), ()) rfl sp rfl ?_
 rw [hn]
 refine adH ([1000000, 0, 0, 0], false, [(1, [], [], ())], false, [[1000000, 0, 0, 0]], ()) rfl sp (by repeat first | with_reducible refine atS ?_ | with_reducible refine atQ ?_ | with_reducible refine atU ?_ | with_reducible refine atT ?_ | with_reducible refine uV ?_ | with_reducible refine uB ?_ | with_reducible refine abX ?_ ?_ | rfl) ?_
 refine aaA (fx (uQ a), 0, ()) (show aa0 (w64 a, 840, ()) = _ by rw [ha.1]; exact atO ha.2.1) rfl sp ?_
 refine aaA (fx (uQ (uI a)), 0, ()) (show aa0 (uI a, 840, ()) = _ from atO (by have := ha.2.2; omega)) rfl sp ?_
 refine adH ([0, 1000000, 0, 0], false, [(1, [], [], ()), (1, [], [], ())], false, [[1000000, 0, 0, 0], [0, 1000000, 0, 0]], ()) rfl sp (by repeat first | with_reducible refine atS ?_ | with_reducible refine atQ ?_ | with_reducible refine atU ?_ | with_reducible refine atT ?_ | with_reducible refine uV ?_ | with_reducible refine uB ?_ | with_reducible refine abX ?_ ?_ | rfl) ?_
 refine aaA (fx (uQ b), 0, ()) (show aa0 (w64 b, 840, ()) = _ by rw [hb.1]; exact atO hb.2.1) rfl sp ?_
 refine aaA (fx (uQ (uI b)), 0, ()) (show aa0 (uI b, 840, ()) = _ from atO (by have := hb.2.2; omega)) rfl sp ?_
 refine adH ([0, 0, 1000000, 0], false, [(1, [], [], ()), (1, [], [], ()), (1, [], [], ())], false, [[1000000, 0, 0, 0], [0, 1000000, 0, 0], [0, 0, 1000000, 0]], ()) rfl sp (by repeat first | with_reducible refine atS ?_ | with_reducible refine atQ ?_ | with_reducible refine atU ?_ | with_reducible refine atT ?_ | with_reducible refine uV ?_ | with_reducible refine uB ?_ | with_reducible refine abX ?_ ?_ | rfl) ?_
 refine aaA (fx (uQ c), 0, ()) (show aa0 (w64 c, 840, ()) = _ by rw [hc.1]; exact atO hc.2.1) rfl sp ?_
 refine aaA (fx (uQ (uI c)), 0, ()) (show aa0 (uI c, 840, ()) = _ from atO (by have := hc.2.2; omega)) rfl sp ?_
 refine adH ([0, 0, 0, 1000000], false, [(1, [], [], ()), (1, [], [], ()), (1, [], [], ()), (1, [], [], ())], false, [[1000000, 0, 0, 0], [0, 1000000, 0, 0], [0, 0, 1000000, 0], [0, 0, 0, 1000000]], ()) rfl sp (by repeat first | with_reducible refine atS ?_ | with_reducible refine atQ ?_ | with_reducible refine atU ?_ | with_reducible refine atT ?_ | with_reducible refine uV ?_ | with_reducible refine uB ?_ | with_reducible refine abX ?_ ?_ | rfl) ?_
 refine aaA (fx (uQ d), 0, ()) (show aa0 (w64 d, 840, ()) = _ by rw [hd.1]; exact atO hd.2.1) rfl sp ?_
 refine aaA (fx (uQ (uI d)), 0, ()) (show aa0 (uI d, 840, ()) = _ from atO (by have := hd.2.2; omega)) rfl sp ?_
 refine aaA (4, 0, ()) (show ab1 ((2, [], [[1000000, 0, 0, 0], [0, 1000000, 0, 0], [0, 0, 1000000, 0], [0, 0, 0, 1000000]], [0, 0, 0, 0], ([], 0, [], ()), [], 0, 0, ()), ()) = _ by simp [ab1, apZ, ag0]) rfl sp ?_
 refine aaA (0, ()) (show aaC (fx (uQ a), ()) = _ from aeM fa) rfl sp ?_
 refine aaA (0, ()) (show aaC (fx (uQ b), ()) = _ from aeM fb) rfl sp ?_
 refine aaA (0, ()) (show aaC (fx (uQ c), ()) = _ from aeM fc) rfl sp ?_
 refine aaA (0, ()) (show aaC (fx (uQ d), ()) = _ from aeM fd) rfl sp ?_
 refine adH (fx 0, 0, ()) rfl sp (by repeat first | with_reducible refine atS ?_ | with_reducible refine atQ ?_ | with_reducible refine atU ?_ | with_reducible refine atT ?_ | with_reducible refine uV ?_ | with_reducible refine uB ?_ | refine uC (fx 0, 0, ()) (show aaH (0, 1000000, ()) = _ from aeL) ?_ | with_reducible refine abX ?_ ?_ | rfl) ?_
 refine aaA (fx 1, 0, ()) (show aaH (1000000, 1000000, ()) = _ from asW) rfl sp ?_
 refine aaA (fx (uQ a), 0, ()) (show aaK (fx 1, fx (uQ a), ()) = _ from aj4 fa) rfl sp ?_
 refine aaA (fx (uQ a), 0, ()) (show aaL (fx 0, fx (uQ a), ()) = _ from aeC fa) rfl sp ?_
 refine aaA (fx 0, 0, ()) (show aaH (0, 1000000, ()) = _ from aeL) rfl sp ?_
 refine aaA (fx 0, 0, ()) (show aaK (fx 0, fx (uQ b), ()) = _ from aeB fb) rfl sp ?_
 refine aaA (fx (uQ a), 0, ()) (show aaL (fx (uQ a), fx 0, ()) = _ from aj5 fa) rfl sp ?_
 refine aaA (fx 0, 0, ()) (show aaH (0, 1000000, ()) = _ from aeL) rfl sp ?_
 refine aaA (fx 0, 0, ()) (show aaK (fx 0, fx (uQ c), ()) = _ from aeB fc) rfl sp ?_
 refine aaA (fx (uQ a), 0, ()) (show aaL (fx (uQ a), fx 0, ()) = _ from aj5 fa) rfl sp ?_
 refine aaA (fx 0, 0, ()) (show aaH (0, 1000000, ()) = _ from aeL) rfl sp ?_
 refine aaA (fx 0, 0, ()) (show aaK (fx 0, fx (uQ d), ()) = _ from aeB fd) rfl sp ?_
 refine aaA (fx (uQ a), 0, ()) (show aaL (fx (uQ a), fx 0, ()) = _ from aj5 fa) rfl sp ?_
 refine adH (fx 0, 0, ()) rfl sp (by repeat first | with_reducible refine atS ?_ | with_reducible refine atQ ?_ | with_reducible refine atU ?_ | with_reducible refine atT ?_ | with_reducible refine uV ?_ | with_reducible refine uB ?_ | refine uC (fx 0, 0, ()) (show aaH (0, 1000000, ()) = _ from aeL) ?_ | with_reducible refine abX ?_ ?_ | rfl) ?_
 refine aaA (fx 0, 0, ()) (show aaH (0, 1000000, ()) = _ from aeL) rfl sp ?_
 refine aaA (fx 0, 0, ()) (show aaK (fx 0, fx (uQ a), ()) = _ from aeB fa) rfl sp ?_
 refine aaA (fx 0, 0, ()) (show aaL (fx 0, fx 0, ()) = _ from aeC aCN) rfl sp ?_
 refine aaA (fx 1, 0, ()) (show aaH (1000000, 1000000, ()) = _ from asW) rfl sp ?_
 refine aaA (fx (uQ b), 0, ()) (show aaK (fx 1, fx (uQ b), ()) = _ from aj4 fb) rfl sp ?_
 refine aaA (fx (uQ b), 0, ()) (show aaL (fx 0, fx (uQ b), ()) = _ from aeC fb) rfl sp ?_
 refine aaA (fx 0, 0, ()) (show aaH (0, 1000000, ()) = _ from aeL) rfl sp ?_
 refine aaA (fx 0, 0, ()) (show aaK (fx 0, fx (uQ c), ()) = _ from aeB fc) rfl sp ?_
 refine aaA (fx (uQ b), 0, ()) (show aaL (fx (uQ b), fx 0, ()) = _ from aj5 fb) rfl sp ?_
 refine aaA (fx 0, 0, ()) (show aaH (0, 1000000, ()) = _ from aeL) rfl sp ?_
 refine aaA (fx 0, 0, ()) (show aaK (fx 0, fx (uQ d), ()) = _ from aeB fd) rfl sp ?_
 refine aaA (fx (uQ b), 0, ()) (show aaL (fx (uQ b), fx 0, ()) = _ from aj5 fb) rfl sp ?_
 refine adH (fx 0, 0, ()) rfl sp (by repeat first | with_reducible refine atS ?_ | with_reducible refine atQ ?_ | with_reducible refine atU ?_ | with_reducible refine atT ?_ | with_reducible refine uV ?_ | with_reducible refine uB ?_ | refine uC (fx 0, 0, ()) (show aaH (0, 1000000, ()) = _ from aeL) ?_ | with_reducible refine abX ?_ ?_ | rfl) ?_
 refine aaA (fx 0, 0, ()) (show aaH (0, 1000000, ()) = _ from aeL) rfl sp ?_
 refine aaA (fx 0, 0, ()) (show aaK (fx 0, fx (uQ a), ()) = _ from aeB fa) rfl sp ?_
 refine aaA (fx 0, 0, ()) (show aaL (fx 0, fx 0, ()) = _ from aeC aCN) rfl sp ?_
 refine aaA (fx 0, 0, ()) (show aaH (0, 1000000, ()) = _ from aeL) rfl sp ?_
 refine aaA (fx 0, 0, ()) (show aaK (fx 0, fx (uQ b), ()) = _ from aeB fb) rfl sp ?_
 refine aaA (fx 0, 0, ()) (show aaL (fx 0, fx 0, ()) = _ from aeC aCN) rfl sp ?_
 refine aaA (fx 1, 0, ()) (show aaH (1000000, 1000000, ()) = _ from asW) rfl sp ?_
 refine aaA (fx (uQ c), 0, ()) (show aaK (fx 1, fx (uQ c), ()) = _ from aj4 fc) rfl sp ?_
 refine aaA (fx (uQ c), 0, ()) (show aaL (fx 0, fx (uQ c), ()) = _ from aeC fc) rfl sp ?_
 refine aaA (fx 0, 0, ()) (show aaH (0, 1000000, ()) = _ from aeL) rfl sp ?_
 refine aaA (fx 0, 0, ()) (show aaK (fx 0, fx (uQ d), ()) = _ from aeB fd) rfl sp ?_
 refine aaA (fx (uQ c), 0, ()) (show aaL (fx (uQ c), fx 0, ()) = _ from aj5 fc) rfl sp ?_
 refine adH (fx 0, 0, ()) rfl sp (by repeat first | with_reducible refine atS ?_ | with_reducible refine atQ ?_ | with_reducible refine atU ?_ | with_reducible refine atT ?_ | with_reducible refine uV ?_ | with_reducible refine uB ?_ | refine uC (fx 0, 0, ()) (show aaH (0, 1000000, ()) = _ from aeL) ?_ | with_reducible refine abX ?_ ?_ | rfl) ?_
 refine aaA (fx 0, 0, ()) (show aaH (0, 1000000, ()) = _ from aeL) rfl sp ?_
 refine aaA (fx 0, 0, ()) (show aaK (fx 0, fx (uQ a), ()) = _ from aeB fa) rfl sp ?_
 refine aaA (fx 0, 0, ()) (show aaL (fx 0, fx 0, ()) = _ from aeC aCN) rfl sp ?_
 refine aaA (fx 0, 0, ()) (show aaH (0, 1000000, ()) = _ from aeL) rfl sp ?_
 refine aaA (fx 0, 0, ()) (show aaK (fx 0, fx (uQ b), ()) = _ from aeB fb) rfl sp ?_
 refine aaA (fx 0, 0, ()) (show aaL (fx 0, fx 0, ()) = _ from aeC aCN) rfl sp ?_
 refine aaA (fx 0, 0, ()) (show aaH (0, 1000000, ()) = _ from aeL) rfl sp ?_
 refine aaA (fx 0, 0, ()) (show aaK (fx 0, fx (uQ c), ()) = _ from aeB fc) rfl sp ?_
 refine aaA (fx 0, 0, ()) (show aaL (fx 0, fx 0, ()) = _ from aeC aCN) rfl sp ?_
 refine aaA (fx 1, 0, ()) (show aaH (1000000, 1000000, ()) = _ from asW) rfl sp ?_
 refine aaA (fx (uQ d), 0, ()) (show aaK (fx 1, fx (uQ d), ()) = _ from aj4 fd) rfl sp ?_
 refine aaA (fx (uQ d), 0, ()) (show aaL (fx 0, fx (uQ d), ()) = _ from aeC fd) rfl sp ?_
 refine aaA (true, ()) (show acT ([fx (uQ a), fx (uQ b), fx (uQ c), fx (uQ d)], [fx (uQ a), fx (uQ b), fx (uQ c), fx (uQ d)], ()) = _ from aKs _ zh) rfl sp ?_
 refine aaA (4, 0, ()) (show ab1 ((1, [(1, [], [], ()), (1, [], [], ()), (1, [], [], ()), (1, [], [], ())], [], [], ([], 0, [], ()), [], 0, 0, ()), ()) = _ by simp [ab1, apZ, ag0]) rfl sp ?_
 refine aaA (0, ()) (show aaC (fx (uQ (uI a)), ()) = _ from aeM ga) rfl sp ?_
 refine aaA (0, ()) (show aaC (fx (uQ (uI b)), ()) = _ from aeM gb) rfl sp ?_
 refine aaA (0, ()) (show aaC (fx (uQ (uI c)), ()) = _ from aeM gc) rfl sp ?_
 refine aaA (0, ()) (show aaC (fx (uQ (uI d)), ()) = _ from aeM gd) rfl sp ?_
 refine aaA (0, ()) (show aaC (fx (uQ (uI a)), ()) = _ from aeM ga) rfl sp ?_
 refine aaA (fx (uQ (uI a)), ()) (show aaM (fx (uQ (uI a)), ()) = _ from agZ ha.2.2) rfl sp ?_
 refine aaA (0, ()) (show aaC (fx (uQ (uI b)), ()) = _ from aeM gb) rfl sp ?_
 refine aaA (fx (uQ (uI b)), ()) (show aaM (fx (uQ (uI b)), ()) = _ from agZ hb.2.2) rfl sp ?_
 refine aaA (0, ()) (show aaC (fx (uQ (uI c)), ()) = _ from aeM gc) rfl sp ?_
 refine aaA (fx (uQ (uI c)), ()) (show aaM (fx (uQ (uI c)), ()) = _ from agZ hc.2.2) rfl sp ?_
 refine aaA (0, ()) (show aaC (fx (uQ (uI d)), ()) = _ from aeM gd) rfl sp ?_
 refine aaA (fx (uQ (uI d)), ()) (show aaM (fx (uQ (uI d)), ()) = _ from agZ hd.2.2) rfl sp ?_
 refine aaA (true, ()) (show acT ([fx (uQ (uI a)), fx (uQ (uI b)), fx (uQ (uI c)), fx (uQ (uI d))], [fx (uQ (uI a)), fx (uQ (uI b)), fx (uQ (uI c)), fx (uQ (uI d))], ()) = _ from aKs _ zh) rfl sp ?_
 refine aaA (true, ()) (show abD ((2, [], [[1000000, 0, 0, 0], [0, 1000000, 0, 0], [0, 0, 1000000, 0], [0, 0, 0, 1000000]], [0, 0, 0, 0], ([], 0, [], ()), [], 0, 0, ()), ()) = _ by simp [abD, apY, ag0]) rfl sp ?_
 refine aaA (true, ()) (show abD ((1, [(1, [], [], ()), (1, [], [], ()), (1, [], [], ()), (1, [], [], ())], [], [], ([], 0, [], ()), [], 0, 0, ()), ()) = _ by simp [abD, apY, ag0]) rfl sp ?_
 exact aOZ rfl sp
set_option maxRecDepth 1000000
open Go Go.Vg Go.Proofs
open Classical in
noncomputable def unF (n : Int) (x : Int × List Int × Unit) : Option (Bool × Unit) := if w64 (1 + w64 (Int.tmod x.1 4)) = n then some (true, ()) else none
theorem aoX {n : Int} {x : Int × List Int × Unit} {y : Bool × Unit} (h : unF n x = some y) : w64 (1 + w64 (Int.tmod x.1 4)) = n ∧ y = (true, ()) := by
 unfold unF at h
 split at h
 ·rename_i e; exact ⟨e, (Option.some.inj h).symm⟩
 ·cases h
theorem aB1 {a : Int} (h : -32768 ≤ a ∧ a ≤ 32767) : uNu a := by
 have e : IntKind.wrap .u16 a = a % 65536 := rfl
 have h1 : 0 ≤ IntKind.wrap .u16 a ∧ IntKind.wrap .u16 a < 65536 := by rw [e]; omega
 have h2 : w64 (IntKind.wrap .u16 a) = IntKind.wrap .u16 a := aaB ⟨by omega, by omega⟩
 refine ⟨aaB ⟨by omega, by omega⟩, ⟨by omega, by omega⟩, ?_⟩
 unfold uI
 rw [h2, zM h1.1]
 omega
theorem apO {x : Int × List Int × Unit} (hw : Wf (P2 (.int .u8) (.arr 4 (.int .i16))) x) : (0 ≤ x.1 ∧ x.1 ≤ 255) ∧ ∃ a b c d, x.2.1 = [a, b, c, d] ∧ uNu a ∧ uNu b ∧ uNu c ∧ uNu d := by
 obtain ⟨h1, ⟨h2, h3⟩, -⟩ := hw
 refine ⟨h1, ?_⟩
 obtain ⟨i, l, u⟩ := x
 match l, h2, h3 with
 | [a, b, c, d], _, h3 => exact ⟨a, b, c, d, rfl, aB1 (h3 a zv), aB1 (h3 b (zq _ zv)), aB1 (h3 c (zq _ (zq _ zv))), aB1 (h3 d (zq _ (zq _ (zq _ zv))))⟩
noncomputable section
def aOW (d : Nat) (f : FuncId) (A R : Ty) (F : A.T → Option R.T) (Λ : LTab) (l : List OkC) {fn : Func} (hf : Tryz.prog.funcs[f]? = some fn) (t : A.T → TT R.T) (hF : ∀ x y, Wf A x → F x = some y → (t x).toO = some y)
  (hex : ∀ (x : A.T) (K : R.T → Prop), aJR Tryz.prog Gt (gOf l) Λ d f fn A R x K = (t x).holds K := by intro x K; kernel_rfl)
  (hb : fn.body.isSome = true := by rfl) (he : ac1 Tryz.prog f = true := by kernel_rfl) (hn : ∀ x, Nat.ble (aiI A x).length fn.ntmps = true := by exact fun _ => rfl) : OkC :=
 ⟨f, aCY A R F, arZ aL5 aNM (gOk l) hf hb he A R Λ d hn t hex F hF⟩
end
set_option maxRecDepth 1000000
set_option maxHeartbeats 0
open Go Go.Vg Go.Proofs
noncomputable section
def aPH := aOW 14 4 (P2 (.int .u8) (.arr 4 (.int .i16))) (P1 .bool) (unF 1) aQf [alJ, av4, ayS, av6, av7, alO, av3, av8, alP, afP] Tryz.func4 (fun x => aMC x.1 x.2.1) fun x y hw h => by
 obtain ⟨-, a, b, c, d, e, ha, hb, hc, hd⟩ := apO hw
 obtain ⟨hn, rfl⟩ := aoX h
 show (aMC x.1 x.2.1).toO = _
 rw [e]
 exact aMD _ _ _ _ _ hn ha
end
end Go.Vs
