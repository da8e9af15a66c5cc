/- Calls that have been run. -/
import Derived.Test.YtbfajgbedclfeaaGreatDoorRunH
import Derived.Test.YtbfajgbedclfeaaGreatDoorRunE
import Derived.Test.YtbfajgbedclfeaaGreatDoorSig
import Derived.KernelRfl
namespace Go.Vg
open Go Go.Proofs
set_option maxRecDepth 1000000
theorem gmono : GMono (Gt Tryz.prog) := gt_monoS (by kernel_rfl)
theorem mixed : Tryz.prog.follows .mixedOrders = true := by kernel_rfl
def enterAll (P : Program) : Sig → Bool
  | [] => true
  | x :: r => match enters P x.1 with
    | true => enterAll P r
    | false => false
theorem enterAll_mem {P : Program} : ∀ {s : Sig}, enterAll P s = true → ∀ x ∈ s, enters P x.1 = true
  | [], _, _, h => by cases h
  | q :: r, hc, x, h => by
    simp only [enterAll] at hc
    split at hc
    · rename_i hq
      rcases List.mem_cons.1 h with e | h
      · rw [e]; exact hq
      · exact enterAll_mem hc x h
    · cases hc
theorem enterSig : ∀ x ∈ sigC, enters Tryz.prog x.1 = true := enterAll_mem (by kernel_rfl)
def ext0 : PureT := extLibI 74
theorem ext0_ok : PureOk Tryz.prog (Gt Tryz.prog) ext0 :=
  ext_okI 74 (by kernel_rfl) (fun n h0 h1 w h => Tryz.strconv_Itoa n h0 h1 w h)
def z0 : Ty := .sl (.int .i64)
abbrev v0 : Type := List Int
def z1 : Ty := .pair z0 .unit
abbrev v1 : Type := v0 × Unit
def z2 : Ty := .pair (.int .i64) z1
abbrev v2 : Type := Int × v1
def z3 : Ty := .pair z0 z2
abbrev v3 : Type := v0 × v2
def z4 : Ty := .pair .str .unit
abbrev v4 : Type := (List UInt8) × Unit
def z5 : Ty := .pair .str z4
abbrev v5 : Type := (List UInt8) × v4
def z6 : Ty := .pair z5 .unit
abbrev v6 : Type := v5 × Unit
def z7 : Ty := .pair (.int .i64) z6
abbrev v7 : Type := Int × v6
def z8 : Ty := .pair z3 z7
abbrev v8 : Type := v3 × v7
def z9 : Ty := .pair z8 .unit
abbrev v9 : Type := v8 × Unit
def z10 : Ty := .pair (.int .i64) .unit
abbrev v10 : Type := Int × Unit
def z11 : Ty := .pair (.int .i64) z10
abbrev v11 : Type := Int × v10
def z12 : Ty := .pair (.int .i64) z11
abbrev v12 : Type := Int × v11
def z13 : Ty := .pair (.int .i64) z12
abbrev v13 : Type := Int × v12
def z14 : Ty := .pair (.int .i64) z13
abbrev v14 : Type := Int × v13
def z15 : Ty := .pair (.int .i64) z14
abbrev v15 : Type := Int × v14
def z16 : Ty := .sl z15
abbrev v16 : Type := List v15
def z17 : Ty := .pair z16 .unit
abbrev v17 : Type := v16 × Unit
def z18 : Ty := .pair z0 z17
abbrev v18 : Type := v0 × v17
def z19 : Ty := .pair (.int .i64) z18
abbrev v19 : Type := Int × v18
def z20 : Ty := .sl z19
abbrev v20 : Type := List v19
def z21 : Ty := .sl z0
abbrev v21 : Type := List v0
def z22 : Ty := .sl z11
abbrev v22 : Type := List v11
def z23 : Ty := .pair z22 z11
abbrev v23 : Type := v22 × v11
def z24 : Ty := .pair z3 z23
abbrev v24 : Type := v3 × v23
def z25 : Ty := .pair z0 z24
abbrev v25 : Type := v0 × v24
def z26 : Ty := .pair z21 z25
abbrev v26 : Type := v21 × v25
def z27 : Ty := .pair z20 z26
abbrev v27 : Type := v20 × v26
def z28 : Ty := .pair (.int .i64) z27
abbrev v28 : Type := Int × v27
def z29 : Ty := .sl z28
abbrev v29 : Type := List v28
def z30 : Ty := .pair z29 .unit
abbrev v30 : Type := v29 × Unit
def z31 : Ty := .pair (.int .i64) z30
abbrev v31 : Type := Int × v30
def z32 : Ty := .pair z31 .unit
abbrev v32 : Type := v31 × Unit
def z33 : Ty := .pair .bool .unit
abbrev v33 : Type := Bool × Unit
def z34 : Ty := .pair z19 z10
abbrev v34 : Type := v19 × v10
def z35 : Ty := .pair z34 .unit
abbrev v35 : Type := v34 × Unit
def z36 : Ty := .pair z5 z10
abbrev v36 : Type := v5 × v10
def z37 : Ty := .pair z5 z6
abbrev v37 : Type := v5 × v6
def z38 : Ty := .pair z5 z37
abbrev v38 : Type := v5 × v37
def z39 : Ty := .pair (.int .i64) z38
abbrev v39 : Type := Int × v38
def z40 : Ty := .pair (.int .i64) z39
abbrev v40 : Type := Int × v39
def z41 : Ty := .pair z31 z40
abbrev v41 : Type := v31 × v40
def z42 : Ty := .pair z41 z10
abbrev v42 : Type := v41 × v10
def z43 : Ty := .pair z3 .unit
abbrev v43 : Type := v3 × Unit
def z44 : Ty := .pair z19 .unit
abbrev v44 : Type := v19 × Unit
def z45 : Ty := .sl z5
abbrev v45 : Type := List v5
def z46 : Ty := .pair z45 .unit
abbrev v46 : Type := v45 × Unit
def z47 : Ty := .pair z0 z46
abbrev v47 : Type := v0 × v46
def z48 : Ty := .pair z0 z47
abbrev v48 : Type := v0 × v47
def z49 : Ty := .pair z3 z48
abbrev v49 : Type := v3 × v48
def z50 : Ty := .pair z49 .unit
abbrev v50 : Type := v49 × Unit
def z51 : Ty := .pair z45 z10
abbrev v51 : Type := v45 × v10
def z52 : Ty := .sl (.int .u32)
abbrev v52 : Type := List Int
def z53 : Ty := .pair z52 z33
abbrev v53 : Type := v52 × v33
def z54 : Ty := .pair z52 .unit
abbrev v54 : Type := v52 × Unit
def z55 : Ty := .pair z53 z54
abbrev v55 : Type := v53 × v54
def z56 : Ty := .pair z55 z33
abbrev v56 : Type := v55 × v33
def z57 : Ty := .pair z55 .unit
abbrev v57 : Type := v55 × Unit
def z58 : Ty := .pair z55 z57
abbrev v58 : Type := v55 × v57
def z59 : Ty := .pair z28 .unit
abbrev v59 : Type := v28 × Unit
def z60 : Ty := .pair z53 .unit
abbrev v60 : Type := v53 × Unit
def z61 : Ty := .pair z31 z46
abbrev v61 : Type := v31 × v46
def z62 : Ty := .pair z3 z46
abbrev v62 : Type := v3 × v46
def z63 : Ty := .pair z49 z10
abbrev v63 : Type := v49 × v10
def z64 : Ty := .pair z52 z54
abbrev v64 : Type := v52 × v54
def z65 : Ty := .pair z53 z60
abbrev v65 : Type := v53 × v60
def z66 : Ty := .pair .str z33
abbrev v66 : Type := (List UInt8) × v33
def z67 : Ty := .pair z55 z10
abbrev v67 : Type := v55 × v10
end Go.Vg
