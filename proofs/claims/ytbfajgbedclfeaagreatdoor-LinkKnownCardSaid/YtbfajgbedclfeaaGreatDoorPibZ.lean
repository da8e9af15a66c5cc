/- A long run put together. -/
import Derived.Test.YtbfajgbedclfeaaGreatDoorPib1
import Derived.Test.YtbfajgbedclfeaaGreatDoorPib2
import Derived.Test.YtbfajgbedclfeaaGreatDoorPib3
import Derived.Test.YtbfajgbedclfeaaGreatDoorPib4
import Derived.Test.YtbfajgbedclfeaaGreatDoorPib5
import Derived.Test.YtbfajgbedclfeaaGreatDoorPib6
import Derived.Test.YtbfajgbedclfeaaGreatDoorPib7
import Derived.Test.YtbfajgbedclfeaaGreatDoorPib8
namespace Go.Vg
open Go Go.Proofs
set_option maxRecDepth 1000000
set_option maxHeartbeats 0
theorem lpb_72 : loopN 63 fLb 99280 sb_72 = loopN 63 fLb 99280 sb_72 := rfl
theorem lpb_71 : loopN 63 fLb 99290 sb_71 = loopN 63 fLb 99280 sb_72 := loop_cut lpb_72 kb_71 rfl
theorem lpb_70 : loopN 63 fLb 99300 sb_70 = loopN 63 fLb 99280 sb_72 := loop_cut lpb_71 kb_70 rfl
theorem lpb_69 : loopN 63 fLb 99310 sb_69 = loopN 63 fLb 99280 sb_72 := loop_cut lpb_70 kb_69 rfl
theorem lpb_68 : loopN 63 fLb 99320 sb_68 = loopN 63 fLb 99280 sb_72 := loop_cut lpb_69 kb_68 rfl
theorem lpb_67 : loopN 63 fLb 99330 sb_67 = loopN 63 fLb 99280 sb_72 := loop_cut lpb_68 kb_67 rfl
theorem lpb_66 : loopN 63 fLb 99340 sb_66 = loopN 63 fLb 99280 sb_72 := loop_cut lpb_67 kb_66 rfl
theorem lpb_65 : loopN 63 fLb 99350 sb_65 = loopN 63 fLb 99280 sb_72 := loop_cut lpb_66 kb_65 rfl
theorem lpb_64 : loopN 63 fLb 99360 sb_64 = loopN 63 fLb 99280 sb_72 := loop_cut lpb_65 kb_64 rfl
theorem lpb_63 : loopN 63 fLb 99370 sb_63 = loopN 63 fLb 99280 sb_72 := loop_cut lpb_64 kb_63 rfl
theorem lpb_62 : loopN 63 fLb 99380 sb_62 = loopN 63 fLb 99280 sb_72 := loop_cut lpb_63 kb_62 rfl
theorem lpb_61 : loopN 63 fLb 99390 sb_61 = loopN 63 fLb 99280 sb_72 := loop_cut lpb_62 kb_61 rfl
theorem lpb_60 : loopN 63 fLb 99400 sb_60 = loopN 63 fLb 99280 sb_72 := loop_cut lpb_61 kb_60 rfl
theorem lpb_59 : loopN 63 fLb 99410 sb_59 = loopN 63 fLb 99280 sb_72 := loop_cut lpb_60 kb_59 rfl
theorem lpb_58 : loopN 63 fLb 99420 sb_58 = loopN 63 fLb 99280 sb_72 := loop_cut lpb_59 kb_58 rfl
theorem lpb_57 : loopN 63 fLb 99430 sb_57 = loopN 63 fLb 99280 sb_72 := loop_cut lpb_58 kb_57 rfl
theorem lpb_56 : loopN 63 fLb 99440 sb_56 = loopN 63 fLb 99280 sb_72 := loop_cut lpb_57 kb_56 rfl
theorem lpb_55 : loopN 63 fLb 99450 sb_55 = loopN 63 fLb 99280 sb_72 := loop_cut lpb_56 kb_55 rfl
theorem lpb_54 : loopN 63 fLb 99460 sb_54 = loopN 63 fLb 99280 sb_72 := loop_cut lpb_55 kb_54 rfl
theorem lpb_53 : loopN 63 fLb 99470 sb_53 = loopN 63 fLb 99280 sb_72 := loop_cut lpb_54 kb_53 rfl
theorem lpb_52 : loopN 63 fLb 99480 sb_52 = loopN 63 fLb 99280 sb_72 := loop_cut lpb_53 kb_52 rfl
theorem lpb_51 : loopN 63 fLb 99490 sb_51 = loopN 63 fLb 99280 sb_72 := loop_cut lpb_52 kb_51 rfl
theorem lpb_50 : loopN 63 fLb 99500 sb_50 = loopN 63 fLb 99280 sb_72 := loop_cut lpb_51 kb_50 rfl
theorem lpb_49 : loopN 63 fLb 99510 sb_49 = loopN 63 fLb 99280 sb_72 := loop_cut lpb_50 kb_49 rfl
theorem lpb_48 : loopN 63 fLb 99520 sb_48 = loopN 63 fLb 99280 sb_72 := loop_cut lpb_49 kb_48 rfl
theorem lpb_47 : loopN 63 fLb 99530 sb_47 = loopN 63 fLb 99280 sb_72 := loop_cut lpb_48 kb_47 rfl
theorem lpb_46 : loopN 63 fLb 99540 sb_46 = loopN 63 fLb 99280 sb_72 := loop_cut lpb_47 kb_46 rfl
theorem lpb_45 : loopN 63 fLb 99550 sb_45 = loopN 63 fLb 99280 sb_72 := loop_cut lpb_46 kb_45 rfl
theorem lpb_44 : loopN 63 fLb 99560 sb_44 = loopN 63 fLb 99280 sb_72 := loop_cut lpb_45 kb_44 rfl
theorem lpb_43 : loopN 63 fLb 99570 sb_43 = loopN 63 fLb 99280 sb_72 := loop_cut lpb_44 kb_43 rfl
theorem lpb_42 : loopN 63 fLb 99580 sb_42 = loopN 63 fLb 99280 sb_72 := loop_cut lpb_43 kb_42 rfl
theorem lpb_41 : loopN 63 fLb 99590 sb_41 = loopN 63 fLb 99280 sb_72 := loop_cut lpb_42 kb_41 rfl
theorem lpb_40 : loopN 63 fLb 99600 sb_40 = loopN 63 fLb 99280 sb_72 := loop_cut lpb_41 kb_40 rfl
theorem lpb_39 : loopN 63 fLb 99610 sb_39 = loopN 63 fLb 99280 sb_72 := loop_cut lpb_40 kb_39 rfl
theorem lpb_38 : loopN 63 fLb 99620 sb_38 = loopN 63 fLb 99280 sb_72 := loop_cut lpb_39 kb_38 rfl
theorem lpb_37 : loopN 63 fLb 99630 sb_37 = loopN 63 fLb 99280 sb_72 := loop_cut lpb_38 kb_37 rfl
theorem lpb_36 : loopN 63 fLb 99640 sb_36 = loopN 63 fLb 99280 sb_72 := loop_cut lpb_37 kb_36 rfl
theorem lpb_35 : loopN 63 fLb 99650 sb_35 = loopN 63 fLb 99280 sb_72 := loop_cut lpb_36 kb_35 rfl
theorem lpb_34 : loopN 63 fLb 99660 sb_34 = loopN 63 fLb 99280 sb_72 := loop_cut lpb_35 kb_34 rfl
theorem lpb_33 : loopN 63 fLb 99670 sb_33 = loopN 63 fLb 99280 sb_72 := loop_cut lpb_34 kb_33 rfl
theorem lpb_32 : loopN 63 fLb 99680 sb_32 = loopN 63 fLb 99280 sb_72 := loop_cut lpb_33 kb_32 rfl
theorem lpb_31 : loopN 63 fLb 99690 sb_31 = loopN 63 fLb 99280 sb_72 := loop_cut lpb_32 kb_31 rfl
theorem lpb_30 : loopN 63 fLb 99700 sb_30 = loopN 63 fLb 99280 sb_72 := loop_cut lpb_31 kb_30 rfl
theorem lpb_29 : loopN 63 fLb 99710 sb_29 = loopN 63 fLb 99280 sb_72 := loop_cut lpb_30 kb_29 rfl
theorem lpb_28 : loopN 63 fLb 99720 sb_28 = loopN 63 fLb 99280 sb_72 := loop_cut lpb_29 kb_28 rfl
theorem lpb_27 : loopN 63 fLb 99730 sb_27 = loopN 63 fLb 99280 sb_72 := loop_cut lpb_28 kb_27 rfl
theorem lpb_26 : loopN 63 fLb 99740 sb_26 = loopN 63 fLb 99280 sb_72 := loop_cut lpb_27 kb_26 rfl
theorem lpb_25 : loopN 63 fLb 99750 sb_25 = loopN 63 fLb 99280 sb_72 := loop_cut lpb_26 kb_25 rfl
theorem lpb_24 : loopN 63 fLb 99760 sb_24 = loopN 63 fLb 99280 sb_72 := loop_cut lpb_25 kb_24 rfl
theorem lpb_23 : loopN 63 fLb 99770 sb_23 = loopN 63 fLb 99280 sb_72 := loop_cut lpb_24 kb_23 rfl
theorem lpb_22 : loopN 63 fLb 99780 sb_22 = loopN 63 fLb 99280 sb_72 := loop_cut lpb_23 kb_22 rfl
theorem lpb_21 : loopN 63 fLb 99790 sb_21 = loopN 63 fLb 99280 sb_72 := loop_cut lpb_22 kb_21 rfl
theorem lpb_20 : loopN 63 fLb 99800 sb_20 = loopN 63 fLb 99280 sb_72 := loop_cut lpb_21 kb_20 rfl
theorem lpb_19 : loopN 63 fLb 99810 sb_19 = loopN 63 fLb 99280 sb_72 := loop_cut lpb_20 kb_19 rfl
theorem lpb_18 : loopN 63 fLb 99820 sb_18 = loopN 63 fLb 99280 sb_72 := loop_cut lpb_19 kb_18 rfl
theorem lpb_17 : loopN 63 fLb 99830 sb_17 = loopN 63 fLb 99280 sb_72 := loop_cut lpb_18 kb_17 rfl
theorem lpb_16 : loopN 63 fLb 99840 sb_16 = loopN 63 fLb 99280 sb_72 := loop_cut lpb_17 kb_16 rfl
theorem lpb_15 : loopN 63 fLb 99850 sb_15 = loopN 63 fLb 99280 sb_72 := loop_cut lpb_16 kb_15 rfl
theorem lpb_14 : loopN 63 fLb 99860 sb_14 = loopN 63 fLb 99280 sb_72 := loop_cut lpb_15 kb_14 rfl
theorem lpb_13 : loopN 63 fLb 99870 sb_13 = loopN 63 fLb 99280 sb_72 := loop_cut lpb_14 kb_13 rfl
theorem lpb_12 : loopN 63 fLb 99880 sb_12 = loopN 63 fLb 99280 sb_72 := loop_cut lpb_13 kb_12 rfl
theorem lpb_11 : loopN 63 fLb 99890 sb_11 = loopN 63 fLb 99280 sb_72 := loop_cut lpb_12 kb_11 rfl
theorem lpb_10 : loopN 63 fLb 99900 sb_10 = loopN 63 fLb 99280 sb_72 := loop_cut lpb_11 kb_10 rfl
theorem lpb_9 : loopN 63 fLb 99910 sb_9 = loopN 63 fLb 99280 sb_72 := loop_cut lpb_10 kb_9 rfl
theorem lpb_8 : loopN 63 fLb 99920 sb_8 = loopN 63 fLb 99280 sb_72 := loop_cut lpb_9 kb_8 rfl
theorem lpb_7 : loopN 63 fLb 99930 sb_7 = loopN 63 fLb 99280 sb_72 := loop_cut lpb_8 kb_7 rfl
theorem lpb_6 : loopN 63 fLb 99940 sb_6 = loopN 63 fLb 99280 sb_72 := loop_cut lpb_7 kb_6 rfl
theorem lpb_5 : loopN 63 fLb 99950 sb_5 = loopN 63 fLb 99280 sb_72 := loop_cut lpb_6 kb_5 rfl
theorem lpb_4 : loopN 63 fLb 99960 sb_4 = loopN 63 fLb 99280 sb_72 := loop_cut lpb_5 kb_4 rfl
theorem lpb_3 : loopN 63 fLb 99970 sb_3 = loopN 63 fLb 99280 sb_72 := loop_cut lpb_4 kb_3 rfl
theorem lpb_2 : loopN 63 fLb 99980 sb_2 = loopN 63 fLb 99280 sb_72 := loop_cut lpb_3 kb_2 rfl
theorem lpb_1 : loopN 63 fLb 99990 sb_1 = loopN 63 fLb 99280 sb_72 := loop_cut lpb_2 kb_1 rfl
theorem lpb_0 : loopN 63 fLb 100000 sb_0 = loopN 63 fLb 99280 sb_72 := loop_cut lpb_1 kb_0 rfl
theorem preIb : preP Tryz.prog sigC (pureKD Tryz.prog sigC 100000 ext5 38) (enterKD Tryz.prog sigC 100000 ext5 38) 100000 none [true, false] fIb.2 { slots := numbered 0 ([(.yld 57), (.ptr 53 0)] : List AV), H := (sOb.lay 57 cPb95 cAb95 cBb95), next := 58, n := fIb.1.ntmps } = some sb_0 := by kernel_rfl
theorem endIb : endR Tryz.prog fIb.1 58 (behP Tryz.prog sigC (pureKD Tryz.prog sigC 100000 ext5 38) (enterKD Tryz.prog sigC 100000 ext5 38) 100000 none [true, false] fIb.2 (loopN 63 fLb 99280 sb_72)) = some xIb := by kernel_rfl
theorem runIb : enterKD Tryz.prog sigC 100000 ext5 39 (.fn 75) [(.yld 57), (.ptr 53 0)] (sOb.lay 57 cPb95 cAb95 cBb95) 58 = some xIb := by
  show enterK Tryz.prog sigC (pureKD Tryz.prog sigC 100000 ext5 38) (enterKD Tryz.prog sigC 100000 ext5 38) 100000 (.fn 75) _ _ _ = _
  exact enter_cut (p := [true, false]) hfIb (by kernel_rfl) preIb hsIb (loopK_run lpb_0) endIb
theorem preOb : preP Tryz.prog sigC (pureKD Tryz.prog sigC 100000 ext5 39) (enterKD Tryz.prog sigC 100000 ext5 39) 100000 none [true, true, true, true, true, false, true, false] fOb.2 { slots := numbered 0 (argAVs (.pair (.pair (.pair (.int .i64) (.pair (.sl (.pair (.int .i64) (.pair (.sl (.pair (.int .i64) (.pair (.sl (.int .i64)) (.pair (.sl (.pair (.int .i64) (.pair (.int .i64) (.pair (.int .i64) (.pair (.int .i64) (.pair (.int .i64) (.pair (.int .i64) .unit))))))) .unit)))) (.pair (.sl (.sl (.int .i64))) (.pair (.sl (.int .i64)) (.pair (.pair (.sl (.int .i64)) (.pair (.int .i64) (.pair (.sl (.int .i64)) .unit))) (.pair (.sl (.pair (.int .i64) (.pair (.int .i64) .unit))) (.pair (.int .i64) (.pair (.int .i64) .unit))))))))) .unit)) (.pair (.int .i64) (.pair (.int .i64) (.pair (.pair .str (.pair .str .unit)) (.pair (.pair .str (.pair .str .unit)) (.pair (.pair .str (.pair .str .unit)) .unit)))))) (.pair (.int .i64) .unit)) zOb), H := [], next := 0, n := fOb.1.ntmps } = some sOb := by kernel_rfl
theorem endOb : finP Tryz.prog fOb.1 (.pair (.pair (.pair (.sl (.int .i64)) (.pair (.int .i64) (.pair (.sl (.int .i64)) .unit))) (.pair (.int .i64) (.pair (.pair .str (.pair .str .unit)) .unit))) .unit) (behP Tryz.prog sigC (pureKD Tryz.prog sigC 100000 ext5 39) (enterKD Tryz.prog sigC 100000 ext5 39) 100000 none [true, true, true, true, true, false, true, false] fOb.2 (rangeR sOb sOb.next (some xIb))) = some (yOb : Ty.T (.pair (.pair (.pair (.sl (.int .i64)) (.pair (.int .i64) (.pair (.sl (.int .i64)) .unit))) (.pair (.int .i64) (.pair (.pair .str (.pair .str .unit)) .unit))) .unit)) := by kernel_rfl
theorem runOb : pureK Tryz.prog sigC (pureKD Tryz.prog sigC 100000 ext5 39) (enterKD Tryz.prog sigC 100000 ext5 39) 100000 22 (.pair (.pair (.pair (.int .i64) (.pair (.sl (.pair (.int .i64) (.pair (.sl (.pair (.int .i64) (.pair (.sl (.int .i64)) (.pair (.sl (.pair (.int .i64) (.pair (.int .i64) (.pair (.int .i64) (.pair (.int .i64) (.pair (.int .i64) (.pair (.int .i64) .unit))))))) .unit)))) (.pair (.sl (.sl (.int .i64))) (.pair (.sl (.int .i64)) (.pair (.pair (.sl (.int .i64)) (.pair (.int .i64) (.pair (.sl (.int .i64)) .unit))) (.pair (.sl (.pair (.int .i64) (.pair (.int .i64) .unit))) (.pair (.int .i64) (.pair (.int .i64) .unit))))))))) .unit)) (.pair (.int .i64) (.pair (.int .i64) (.pair (.pair .str (.pair .str .unit)) (.pair (.pair .str (.pair .str .unit)) (.pair (.pair .str (.pair .str .unit)) .unit)))))) (.pair (.int .i64) .unit)) (.pair (.pair (.pair (.sl (.int .i64)) (.pair (.int .i64) (.pair (.sl (.int .i64)) .unit))) (.pair (.int .i64) (.pair (.pair .str (.pair .str .unit)) .unit))) .unit) (zOb : Ty.T (.pair (.pair (.pair (.int .i64) (.pair (.sl (.pair (.int .i64) (.pair (.sl (.pair (.int .i64) (.pair (.sl (.int .i64)) (.pair (.sl (.pair (.int .i64) (.pair (.int .i64) (.pair (.int .i64) (.pair (.int .i64) (.pair (.int .i64) (.pair (.int .i64) .unit))))))) .unit)))) (.pair (.sl (.sl (.int .i64))) (.pair (.sl (.int .i64)) (.pair (.pair (.sl (.int .i64)) (.pair (.int .i64) (.pair (.sl (.int .i64)) .unit))) (.pair (.sl (.pair (.int .i64) (.pair (.int .i64) .unit))) (.pair (.int .i64) (.pair (.int .i64) .unit))))))))) .unit)) (.pair (.int .i64) (.pair (.int .i64) (.pair (.pair .str (.pair .str .unit)) (.pair (.pair .str (.pair .str .unit)) (.pair (.pair .str (.pair .str .unit)) .unit)))))) (.pair (.int .i64) .unit))) = some (yOb : Ty.T (.pair (.pair (.pair (.sl (.int .i64)) (.pair (.int .i64) (.pair (.sl (.int .i64)) .unit))) (.pair (.int .i64) (.pair (.pair .str (.pair .str .unit)) .unit))) .unit)) :=
  pure_cut (p := [true, true, true, true, true, false, true, false]) hfOb (by kernel_rfl) preOb hsOb (range_run (first := []) (caps := [(.ptr 53 0)]) (by kernel_rfl) runIb) endOb
end Go.Vg
