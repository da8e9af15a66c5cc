/- A long run put together. -/
import Derived.Test.YtoibdlakkekkeaaGreatDoorPi1
import Derived.Test.YtoibdlakkekkeaaGreatDoorPi2
import Derived.Test.YtoibdlakkekkeaaGreatDoorPi3
import Derived.Test.YtoibdlakkekkeaaGreatDoorPi4
import Derived.Test.YtoibdlakkekkeaaGreatDoorPi5
namespace Go.Vg
open Go Go.Proofs
set_option maxRecDepth 1000000
set_option maxHeartbeats 0
theorem lp_25 : loopN 1802 fL 99375 s_25 = loopN 1802 fL 99375 s_25 := rfl
theorem lp_24 : loopN 1802 fL 99400 s_24 = loopN 1802 fL 99375 s_25 := loop_cut lp_25 k_24 rfl
theorem lp_23 : loopN 1802 fL 99425 s_23 = loopN 1802 fL 99375 s_25 := loop_cut lp_24 k_23 rfl
theorem lp_22 : loopN 1802 fL 99450 s_22 = loopN 1802 fL 99375 s_25 := loop_cut lp_23 k_22 rfl
theorem lp_21 : loopN 1802 fL 99475 s_21 = loopN 1802 fL 99375 s_25 := loop_cut lp_22 k_21 rfl
theorem lp_20 : loopN 1802 fL 99500 s_20 = loopN 1802 fL 99375 s_25 := loop_cut lp_21 k_20 rfl
theorem lp_19 : loopN 1802 fL 99525 s_19 = loopN 1802 fL 99375 s_25 := loop_cut lp_20 k_19 rfl
theorem lp_18 : loopN 1802 fL 99550 s_18 = loopN 1802 fL 99375 s_25 := loop_cut lp_19 k_18 rfl
theorem lp_17 : loopN 1802 fL 99575 s_17 = loopN 1802 fL 99375 s_25 := loop_cut lp_18 k_17 rfl
theorem lp_16 : loopN 1802 fL 99600 s_16 = loopN 1802 fL 99375 s_25 := loop_cut lp_17 k_16 rfl
theorem lp_15 : loopN 1802 fL 99625 s_15 = loopN 1802 fL 99375 s_25 := loop_cut lp_16 k_15 rfl
theorem lp_14 : loopN 1802 fL 99650 s_14 = loopN 1802 fL 99375 s_25 := loop_cut lp_15 k_14 rfl
theorem lp_13 : loopN 1802 fL 99675 s_13 = loopN 1802 fL 99375 s_25 := loop_cut lp_14 k_13 rfl
theorem lp_12 : loopN 1802 fL 99700 s_12 = loopN 1802 fL 99375 s_25 := loop_cut lp_13 k_12 rfl
theorem lp_11 : loopN 1802 fL 99725 s_11 = loopN 1802 fL 99375 s_25 := loop_cut lp_12 k_11 rfl
theorem lp_10 : loopN 1802 fL 99750 s_10 = loopN 1802 fL 99375 s_25 := loop_cut lp_11 k_10 rfl
theorem lp_9 : loopN 1802 fL 99775 s_9 = loopN 1802 fL 99375 s_25 := loop_cut lp_10 k_9 rfl
theorem lp_8 : loopN 1802 fL 99800 s_8 = loopN 1802 fL 99375 s_25 := loop_cut lp_9 k_8 rfl
theorem lp_7 : loopN 1802 fL 99825 s_7 = loopN 1802 fL 99375 s_25 := loop_cut lp_8 k_7 rfl
theorem lp_6 : loopN 1802 fL 99850 s_6 = loopN 1802 fL 99375 s_25 := loop_cut lp_7 k_6 rfl
theorem lp_5 : loopN 1802 fL 99875 s_5 = loopN 1802 fL 99375 s_25 := loop_cut lp_6 k_5 rfl
theorem lp_4 : loopN 1802 fL 99900 s_4 = loopN 1802 fL 99375 s_25 := loop_cut lp_5 k_4 rfl
theorem lp_3 : loopN 1802 fL 99925 s_3 = loopN 1802 fL 99375 s_25 := loop_cut lp_4 k_3 rfl
theorem lp_2 : loopN 1802 fL 99950 s_2 = loopN 1802 fL 99375 s_25 := loop_cut lp_3 k_2 rfl
theorem lp_1 : loopN 1802 fL 99975 s_1 = loopN 1802 fL 99375 s_25 := loop_cut lp_2 k_1 rfl
theorem lp_0 : loopN 1802 fL 100000 s_0 = loopN 1802 fL 99375 s_25 := loop_cut lp_1 k_0 rfl
theorem preI : preP Tryz.prog sigC (pureKD Tryz.prog sigC 100000 ext6 37) (enterKD Tryz.prog sigC 100000 ext6 37) 100000 none [true, true, true, false] fI.2 { slots := numbered 0 ([(.yld 1767), (.ptr 365 0), (.ptr 366 0)] : List AV), H := (sO.lay 1767 cP91 cA91 cB91), next := 1768, n := fI.1.ntmps } = some s_0 := by kernel_rfl
theorem endI : endR Tryz.prog fI.1 1768 (behP Tryz.prog sigC (pureKD Tryz.prog sigC 100000 ext6 37) (enterKD Tryz.prog sigC 100000 ext6 37) 100000 none [true, true, true, false] fI.2 (loopN 1802 fL 99375 s_25)) = some xI := by kernel_rfl
theorem runI : enterKD Tryz.prog sigC 100000 ext6 38 (.fn 44) [(.yld 1767), (.ptr 365 0), (.ptr 366 0)] (sO.lay 1767 cP91 cA91 cB91) 1768 = some xI := by
  show enterK Tryz.prog sigC (pureKD Tryz.prog sigC 100000 ext6 37) (enterKD Tryz.prog sigC 100000 ext6 37) 100000 (.fn 44) _ _ _ = _
  exact enter_cut (p := [true, true, true, false]) hfI (by kernel_rfl) preI hsI (loopK_run lp_0) endI
theorem preO : preP Tryz.prog sigC (pureKD Tryz.prog sigC 100000 ext6 38) (enterKD Tryz.prog sigC 100000 ext6 38) 100000 none [true, false, true, true, true, false, true, false] fO.2 { slots := numbered 0 aO, H := hO, next := 1755, n := fO.1.ntmps } = some sO := by kernel_rfl
theorem endO : endR Tryz.prog fO.1 1755 (behP Tryz.prog sigC (pureKD Tryz.prog sigC 100000 ext6 38) (enterKD Tryz.prog sigC 100000 ext6 38) 100000 none [true, false, true, true, true, false, true, false] fO.2 (rangeR sO sO.next (some xI))) = some xO := by kernel_rfl
theorem runO : enterKD Tryz.prog sigC 100000 ext6 39 (.fn 18) aO hO 1755 = some xO := by
  show enterK Tryz.prog sigC (pureKD Tryz.prog sigC 100000 ext6 38) (enterKD Tryz.prog sigC 100000 ext6 38) 100000 (.fn 18) _ _ _ = _
  exact enter_cut (p := [true, false, true, true, true, false, true, false]) hfO (by kernel_rfl) preO hsO (range_run (first := []) (caps := [(.ptr 365 0), (.ptr 366 0)]) (by kernel_rfl) runI) endO
end Go.Vg
