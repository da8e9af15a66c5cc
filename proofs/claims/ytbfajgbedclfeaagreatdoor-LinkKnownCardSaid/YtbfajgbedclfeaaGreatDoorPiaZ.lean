/- A long run put together. -/
import Derived.Test.YtbfajgbedclfeaaGreatDoorPia1
import Derived.Test.YtbfajgbedclfeaaGreatDoorPia2
import Derived.Test.YtbfajgbedclfeaaGreatDoorPia3
import Derived.Test.YtbfajgbedclfeaaGreatDoorPia4
namespace Go.Vg
open Go Go.Proofs
set_option maxRecDepth 1000000
set_option maxHeartbeats 0
theorem lpa_72 : loopN 63 fLa 99280 sa_72 = loopN 63 fLa 99280 sa_72 := rfl
theorem lpa_71 : loopN 63 fLa 99290 sa_71 = loopN 63 fLa 99280 sa_72 := loop_cut lpa_72 ka_71 rfl
theorem lpa_70 : loopN 63 fLa 99300 sa_70 = loopN 63 fLa 99280 sa_72 := loop_cut lpa_71 ka_70 rfl
theorem lpa_69 : loopN 63 fLa 99310 sa_69 = loopN 63 fLa 99280 sa_72 := loop_cut lpa_70 ka_69 rfl
theorem lpa_68 : loopN 63 fLa 99320 sa_68 = loopN 63 fLa 99280 sa_72 := loop_cut lpa_69 ka_68 rfl
theorem lpa_67 : loopN 63 fLa 99330 sa_67 = loopN 63 fLa 99280 sa_72 := loop_cut lpa_68 ka_67 rfl
theorem lpa_66 : loopN 63 fLa 99340 sa_66 = loopN 63 fLa 99280 sa_72 := loop_cut lpa_67 ka_66 rfl
theorem lpa_65 : loopN 63 fLa 99350 sa_65 = loopN 63 fLa 99280 sa_72 := loop_cut lpa_66 ka_65 rfl
theorem lpa_64 : loopN 63 fLa 99360 sa_64 = loopN 63 fLa 99280 sa_72 := loop_cut lpa_65 ka_64 rfl
theorem lpa_63 : loopN 63 fLa 99370 sa_63 = loopN 63 fLa 99280 sa_72 := loop_cut lpa_64 ka_63 rfl
theorem lpa_62 : loopN 63 fLa 99380 sa_62 = loopN 63 fLa 99280 sa_72 := loop_cut lpa_63 ka_62 rfl
theorem lpa_61 : loopN 63 fLa 99390 sa_61 = loopN 63 fLa 99280 sa_72 := loop_cut lpa_62 ka_61 rfl
theorem lpa_60 : loopN 63 fLa 99400 sa_60 = loopN 63 fLa 99280 sa_72 := loop_cut lpa_61 ka_60 rfl
theorem lpa_59 : loopN 63 fLa 99410 sa_59 = loopN 63 fLa 99280 sa_72 := loop_cut lpa_60 ka_59 rfl
theorem lpa_58 : loopN 63 fLa 99420 sa_58 = loopN 63 fLa 99280 sa_72 := loop_cut lpa_59 ka_58 rfl
theorem lpa_57 : loopN 63 fLa 99430 sa_57 = loopN 63 fLa 99280 sa_72 := loop_cut lpa_58 ka_57 rfl
theorem lpa_56 : loopN 63 fLa 99440 sa_56 = loopN 63 fLa 99280 sa_72 := loop_cut lpa_57 ka_56 rfl
theorem lpa_55 : loopN 63 fLa 99450 sa_55 = loopN 63 fLa 99280 sa_72 := loop_cut lpa_56 ka_55 rfl
theorem lpa_54 : loopN 63 fLa 99460 sa_54 = loopN 63 fLa 99280 sa_72 := loop_cut lpa_55 ka_54 rfl
theorem lpa_53 : loopN 63 fLa 99470 sa_53 = loopN 63 fLa 99280 sa_72 := loop_cut lpa_54 ka_53 rfl
theorem lpa_52 : loopN 63 fLa 99480 sa_52 = loopN 63 fLa 99280 sa_72 := loop_cut lpa_53 ka_52 rfl
theorem lpa_51 : loopN 63 fLa 99490 sa_51 = loopN 63 fLa 99280 sa_72 := loop_cut lpa_52 ka_51 rfl
theorem lpa_50 : loopN 63 fLa 99500 sa_50 = loopN 63 fLa 99280 sa_72 := loop_cut lpa_51 ka_50 rfl
theorem lpa_49 : loopN 63 fLa 99510 sa_49 = loopN 63 fLa 99280 sa_72 := loop_cut lpa_50 ka_49 rfl
theorem lpa_48 : loopN 63 fLa 99520 sa_48 = loopN 63 fLa 99280 sa_72 := loop_cut lpa_49 ka_48 rfl
theorem lpa_47 : loopN 63 fLa 99530 sa_47 = loopN 63 fLa 99280 sa_72 := loop_cut lpa_48 ka_47 rfl
theorem lpa_46 : loopN 63 fLa 99540 sa_46 = loopN 63 fLa 99280 sa_72 := loop_cut lpa_47 ka_46 rfl
theorem lpa_45 : loopN 63 fLa 99550 sa_45 = loopN 63 fLa 99280 sa_72 := loop_cut lpa_46 ka_45 rfl
theorem lpa_44 : loopN 63 fLa 99560 sa_44 = loopN 63 fLa 99280 sa_72 := loop_cut lpa_45 ka_44 rfl
theorem lpa_43 : loopN 63 fLa 99570 sa_43 = loopN 63 fLa 99280 sa_72 := loop_cut lpa_44 ka_43 rfl
theorem lpa_42 : loopN 63 fLa 99580 sa_42 = loopN 63 fLa 99280 sa_72 := loop_cut lpa_43 ka_42 rfl
theorem lpa_41 : loopN 63 fLa 99590 sa_41 = loopN 63 fLa 99280 sa_72 := loop_cut lpa_42 ka_41 rfl
theorem lpa_40 : loopN 63 fLa 99600 sa_40 = loopN 63 fLa 99280 sa_72 := loop_cut lpa_41 ka_40 rfl
theorem lpa_39 : loopN 63 fLa 99610 sa_39 = loopN 63 fLa 99280 sa_72 := loop_cut lpa_40 ka_39 rfl
theorem lpa_38 : loopN 63 fLa 99620 sa_38 = loopN 63 fLa 99280 sa_72 := loop_cut lpa_39 ka_38 rfl
theorem lpa_37 : loopN 63 fLa 99630 sa_37 = loopN 63 fLa 99280 sa_72 := loop_cut lpa_38 ka_37 rfl
theorem lpa_36 : loopN 63 fLa 99640 sa_36 = loopN 63 fLa 99280 sa_72 := loop_cut lpa_37 ka_36 rfl
theorem lpa_35 : loopN 63 fLa 99650 sa_35 = loopN 63 fLa 99280 sa_72 := loop_cut lpa_36 ka_35 rfl
theorem lpa_34 : loopN 63 fLa 99660 sa_34 = loopN 63 fLa 99280 sa_72 := loop_cut lpa_35 ka_34 rfl
theorem lpa_33 : loopN 63 fLa 99670 sa_33 = loopN 63 fLa 99280 sa_72 := loop_cut lpa_34 ka_33 rfl
theorem lpa_32 : loopN 63 fLa 99680 sa_32 = loopN 63 fLa 99280 sa_72 := loop_cut lpa_33 ka_32 rfl
theorem lpa_31 : loopN 63 fLa 99690 sa_31 = loopN 63 fLa 99280 sa_72 := loop_cut lpa_32 ka_31 rfl
theorem lpa_30 : loopN 63 fLa 99700 sa_30 = loopN 63 fLa 99280 sa_72 := loop_cut lpa_31 ka_30 rfl
theorem lpa_29 : loopN 63 fLa 99710 sa_29 = loopN 63 fLa 99280 sa_72 := loop_cut lpa_30 ka_29 rfl
theorem lpa_28 : loopN 63 fLa 99720 sa_28 = loopN 63 fLa 99280 sa_72 := loop_cut lpa_29 ka_28 rfl
theorem lpa_27 : loopN 63 fLa 99730 sa_27 = loopN 63 fLa 99280 sa_72 := loop_cut lpa_28 ka_27 rfl
theorem lpa_26 : loopN 63 fLa 99740 sa_26 = loopN 63 fLa 99280 sa_72 := loop_cut lpa_27 ka_26 rfl
theorem lpa_25 : loopN 63 fLa 99750 sa_25 = loopN 63 fLa 99280 sa_72 := loop_cut lpa_26 ka_25 rfl
theorem lpa_24 : loopN 63 fLa 99760 sa_24 = loopN 63 fLa 99280 sa_72 := loop_cut lpa_25 ka_24 rfl
theorem lpa_23 : loopN 63 fLa 99770 sa_23 = loopN 63 fLa 99280 sa_72 := loop_cut lpa_24 ka_23 rfl
theorem lpa_22 : loopN 63 fLa 99780 sa_22 = loopN 63 fLa 99280 sa_72 := loop_cut lpa_23 ka_22 rfl
theorem lpa_21 : loopN 63 fLa 99790 sa_21 = loopN 63 fLa 99280 sa_72 := loop_cut lpa_22 ka_21 rfl
theorem lpa_20 : loopN 63 fLa 99800 sa_20 = loopN 63 fLa 99280 sa_72 := loop_cut lpa_21 ka_20 rfl
theorem lpa_19 : loopN 63 fLa 99810 sa_19 = loopN 63 fLa 99280 sa_72 := loop_cut lpa_20 ka_19 rfl
theorem lpa_18 : loopN 63 fLa 99820 sa_18 = loopN 63 fLa 99280 sa_72 := loop_cut lpa_19 ka_18 rfl
theorem lpa_17 : loopN 63 fLa 99830 sa_17 = loopN 63 fLa 99280 sa_72 := loop_cut lpa_18 ka_17 rfl
theorem lpa_16 : loopN 63 fLa 99840 sa_16 = loopN 63 fLa 99280 sa_72 := loop_cut lpa_17 ka_16 rfl
theorem lpa_15 : loopN 63 fLa 99850 sa_15 = loopN 63 fLa 99280 sa_72 := loop_cut lpa_16 ka_15 rfl
theorem lpa_14 : loopN 63 fLa 99860 sa_14 = loopN 63 fLa 99280 sa_72 := loop_cut lpa_15 ka_14 rfl
theorem lpa_13 : loopN 63 fLa 99870 sa_13 = loopN 63 fLa 99280 sa_72 := loop_cut lpa_14 ka_13 rfl
theorem lpa_12 : loopN 63 fLa 99880 sa_12 = loopN 63 fLa 99280 sa_72 := loop_cut lpa_13 ka_12 rfl
theorem lpa_11 : loopN 63 fLa 99890 sa_11 = loopN 63 fLa 99280 sa_72 := loop_cut lpa_12 ka_11 rfl
theorem lpa_10 : loopN 63 fLa 99900 sa_10 = loopN 63 fLa 99280 sa_72 := loop_cut lpa_11 ka_10 rfl
theorem lpa_9 : loopN 63 fLa 99910 sa_9 = loopN 63 fLa 99280 sa_72 := loop_cut lpa_10 ka_9 rfl
theorem lpa_8 : loopN 63 fLa 99920 sa_8 = loopN 63 fLa 99280 sa_72 := loop_cut lpa_9 ka_8 rfl
theorem lpa_7 : loopN 63 fLa 99930 sa_7 = loopN 63 fLa 99280 sa_72 := loop_cut lpa_8 ka_7 rfl
theorem lpa_6 : loopN 63 fLa 99940 sa_6 = loopN 63 fLa 99280 sa_72 := loop_cut lpa_7 ka_6 rfl
theorem lpa_5 : loopN 63 fLa 99950 sa_5 = loopN 63 fLa 99280 sa_72 := loop_cut lpa_6 ka_5 rfl
theorem lpa_4 : loopN 63 fLa 99960 sa_4 = loopN 63 fLa 99280 sa_72 := loop_cut lpa_5 ka_4 rfl
theorem lpa_3 : loopN 63 fLa 99970 sa_3 = loopN 63 fLa 99280 sa_72 := loop_cut lpa_4 ka_3 rfl
theorem lpa_2 : loopN 63 fLa 99980 sa_2 = loopN 63 fLa 99280 sa_72 := loop_cut lpa_3 ka_2 rfl
theorem lpa_1 : loopN 63 fLa 99990 sa_1 = loopN 63 fLa 99280 sa_72 := loop_cut lpa_2 ka_1 rfl
theorem lpa_0 : loopN 63 fLa 100000 sa_0 = loopN 63 fLa 99280 sa_72 := loop_cut lpa_1 ka_0 rfl
theorem preIa : preP Tryz.prog sigC (pureKD Tryz.prog sigC 100000 ext5 38) (enterKD Tryz.prog sigC 100000 ext5 38) 100000 none [true, false] fIa.2 { slots := numbered 0 ([(.yld 57), (.ptr 53 0)] : List AV), H := (sOa.lay 57 cP95 cA95 cB95), next := 58, n := fIa.1.ntmps } = some sa_0 := by kernel_rfl
theorem endIa : endR Tryz.prog fIa.1 58 (behP Tryz.prog sigC (pureKD Tryz.prog sigC 100000 ext5 38) (enterKD Tryz.prog sigC 100000 ext5 38) 100000 none [true, false] fIa.2 (loopN 63 fLa 99280 sa_72)) = some xIa := by kernel_rfl
theorem runIa : enterKD Tryz.prog sigC 100000 ext5 39 (.fn 75) [(.yld 57), (.ptr 53 0)] (sOa.lay 57 cP95 cA95 cB95) 58 = some xIa := by
  show enterK Tryz.prog sigC (pureKD Tryz.prog sigC 100000 ext5 38) (enterKD Tryz.prog sigC 100000 ext5 38) 100000 (.fn 75) _ _ _ = _
  exact enter_cut (p := [true, false]) hfIa (by kernel_rfl) preIa hsIa (loopK_run lpa_0) endIa
theorem preOa : preP Tryz.prog sigC (pureKD Tryz.prog sigC 100000 ext5 39) (enterKD Tryz.prog sigC 100000 ext5 39) 100000 none [true, true, true, true, true, false, true, false] fOa.2 { slots := numbered 0 (argAVs (.pair (.pair (.pair (.int .i64) (.pair (.sl (.pair (.int .i64) (.pair (.sl (.pair (.int .i64) (.pair (.sl (.int .i64)) (.pair (.sl (.pair (.int .i64) (.pair (.int .i64) (.pair (.int .i64) (.pair (.int .i64) (.pair (.int .i64) (.pair (.int .i64) .unit))))))) .unit)))) (.pair (.sl (.sl (.int .i64))) (.pair (.sl (.int .i64)) (.pair (.pair (.sl (.int .i64)) (.pair (.int .i64) (.pair (.sl (.int .i64)) .unit))) (.pair (.sl (.pair (.int .i64) (.pair (.int .i64) .unit))) (.pair (.int .i64) (.pair (.int .i64) .unit))))))))) .unit)) (.pair (.int .i64) (.pair (.int .i64) (.pair (.pair .str (.pair .str .unit)) (.pair (.pair .str (.pair .str .unit)) (.pair (.pair .str (.pair .str .unit)) .unit)))))) (.pair (.int .i64) .unit)) zOa), H := [], next := 0, n := fOa.1.ntmps } = some sOa := by kernel_rfl
theorem endOa : finP Tryz.prog fOa.1 (.pair (.pair (.pair (.sl (.int .i64)) (.pair (.int .i64) (.pair (.sl (.int .i64)) .unit))) (.pair (.int .i64) (.pair (.pair .str (.pair .str .unit)) .unit))) .unit) (behP Tryz.prog sigC (pureKD Tryz.prog sigC 100000 ext5 39) (enterKD Tryz.prog sigC 100000 ext5 39) 100000 none [true, true, true, true, true, false, true, false] fOa.2 (rangeR sOa sOa.next (some xIa))) = some (yOa : Ty.T (.pair (.pair (.pair (.sl (.int .i64)) (.pair (.int .i64) (.pair (.sl (.int .i64)) .unit))) (.pair (.int .i64) (.pair (.pair .str (.pair .str .unit)) .unit))) .unit)) := by kernel_rfl
theorem runOa : pureK Tryz.prog sigC (pureKD Tryz.prog sigC 100000 ext5 39) (enterKD Tryz.prog sigC 100000 ext5 39) 100000 22 (.pair (.pair (.pair (.int .i64) (.pair (.sl (.pair (.int .i64) (.pair (.sl (.pair (.int .i64) (.pair (.sl (.int .i64)) (.pair (.sl (.pair (.int .i64) (.pair (.int .i64) (.pair (.int .i64) (.pair (.int .i64) (.pair (.int .i64) (.pair (.int .i64) .unit))))))) .unit)))) (.pair (.sl (.sl (.int .i64))) (.pair (.sl (.int .i64)) (.pair (.pair (.sl (.int .i64)) (.pair (.int .i64) (.pair (.sl (.int .i64)) .unit))) (.pair (.sl (.pair (.int .i64) (.pair (.int .i64) .unit))) (.pair (.int .i64) (.pair (.int .i64) .unit))))))))) .unit)) (.pair (.int .i64) (.pair (.int .i64) (.pair (.pair .str (.pair .str .unit)) (.pair (.pair .str (.pair .str .unit)) (.pair (.pair .str (.pair .str .unit)) .unit)))))) (.pair (.int .i64) .unit)) (.pair (.pair (.pair (.sl (.int .i64)) (.pair (.int .i64) (.pair (.sl (.int .i64)) .unit))) (.pair (.int .i64) (.pair (.pair .str (.pair .str .unit)) .unit))) .unit) (zOa : Ty.T (.pair (.pair (.pair (.int .i64) (.pair (.sl (.pair (.int .i64) (.pair (.sl (.pair (.int .i64) (.pair (.sl (.int .i64)) (.pair (.sl (.pair (.int .i64) (.pair (.int .i64) (.pair (.int .i64) (.pair (.int .i64) (.pair (.int .i64) (.pair (.int .i64) .unit))))))) .unit)))) (.pair (.sl (.sl (.int .i64))) (.pair (.sl (.int .i64)) (.pair (.pair (.sl (.int .i64)) (.pair (.int .i64) (.pair (.sl (.int .i64)) .unit))) (.pair (.sl (.pair (.int .i64) (.pair (.int .i64) .unit))) (.pair (.int .i64) (.pair (.int .i64) .unit))))))))) .unit)) (.pair (.int .i64) (.pair (.int .i64) (.pair (.pair .str (.pair .str .unit)) (.pair (.pair .str (.pair .str .unit)) (.pair (.pair .str (.pair .str .unit)) .unit)))))) (.pair (.int .i64) .unit))) = some (yOa : Ty.T (.pair (.pair (.pair (.sl (.int .i64)) (.pair (.int .i64) (.pair (.sl (.int .i64)) .unit))) (.pair (.int .i64) (.pair (.pair .str (.pair .str .unit)) .unit))) .unit)) :=
  pure_cut (p := [true, true, true, true, true, false, true, false]) hfOa (by kernel_rfl) preOa hsOa (range_run (first := []) (caps := [(.ptr 53 0)]) (by kernel_rfl) runIa) endOa
end Go.Vg
