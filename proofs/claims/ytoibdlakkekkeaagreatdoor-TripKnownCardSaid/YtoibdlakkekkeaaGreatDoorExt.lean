/- Calls that have been run. -/
import Derived.Test.YtoibdlakkekkeaaGreatDoorRunH
import Derived.Test.YtoibdlakkekkeaaGreatDoorRunE
import Derived.Test.YtoibdlakkekkeaaGreatDoorSig
import Derived.KernelRfl
namespace Go.Vg
open Go Go.Proofs
set_option maxRecDepth 1000000
theorem gmono : GMono (Gt Tryz.prog) := gt_monoS (by kernel_rfl)
theorem mixed : Tryz.prog.follows .mixedOrders = true := by kernel_rfl
def enterAll (P : Program) : Sig → Bool
  | [] => true
  | x :: r => match enters P x.1 with
    | true => enterAll P r
    | false => false
theorem enterAll_mem {P : Program} : ∀ {s : Sig}, enterAll P s = true → ∀ x ∈ s, enters P x.1 = true
  | [], _, _, h => by cases h
  | q :: r, hc, x, h => by
    simp only [enterAll] at hc
    split at hc
    · rename_i hq
      rcases List.mem_cons.1 h with e | h
      · rw [e]; exact hq
      · exact enterAll_mem hc x h
    · cases hc
theorem enterSig : ∀ x ∈ sigC, enters Tryz.prog x.1 = true := enterAll_mem (by kernel_rfl)
def ext0 : PureT := extLibJ 23 55 50
theorem ext0_ok : PureOk Tryz.prog (Gt Tryz.prog) ext0 :=
  ext_okJ 23 55 50 (ext_ok 23 55 (by kernel_rfl) (by kernel_rfl) (fun n h0 h1 w h => Tryz.strconv_Itoa n h0 h1 w h) (fun s c w h1 h2 => Tryz.strings_Repeat s c w h1 h2)) (by kernel_rfl) (fun bk o c xs sep w h1 h2 h3 h4 h5 => Tryz.strings_Join bk o c xs sep w h1 h2 h3 h4 h5)
def z0 : Ty := .pair .bool .unit
abbrev v0 : Type := Bool × Unit
def z1 : Ty := .sl (.int .i64)
abbrev v1 : Type := List Int
def z2 : Ty := .pair (.int .i64) .unit
abbrev v2 : Type := Int × Unit
def z3 : Ty := .pair (.int .i64) z2
abbrev v3 : Type := Int × v2
def z4 : Ty := .pair (.int .i64) z3
abbrev v4 : Type := Int × v3
def z5 : Ty := .pair (.int .i64) z4
abbrev v5 : Type := Int × v4
def z6 : Ty := .pair (.int .i64) z5
abbrev v6 : Type := Int × v5
def z7 : Ty := .pair (.int .i64) z6
abbrev v7 : Type := Int × v6
def z8 : Ty := .sl z7
abbrev v8 : Type := List v7
def z9 : Ty := .pair z8 .unit
abbrev v9 : Type := v8 × Unit
def z10 : Ty := .pair z1 z9
abbrev v10 : Type := v1 × v9
def z11 : Ty := .pair (.int .i64) z10
abbrev v11 : Type := Int × v10
def z12 : Ty := .sl z11
abbrev v12 : Type := List v11
def z13 : Ty := .sl z1
abbrev v13 : Type := List v1
def z14 : Ty := .pair z1 .unit
abbrev v14 : Type := v1 × Unit
def z15 : Ty := .pair (.int .i64) z14
abbrev v15 : Type := Int × v14
def z16 : Ty := .pair z1 z15
abbrev v16 : Type := v1 × v15
def z17 : Ty := .sl z3
abbrev v17 : Type := List v3
def z18 : Ty := .pair z17 z3
abbrev v18 : Type := v17 × v3
def z19 : Ty := .pair z16 z18
abbrev v19 : Type := v16 × v18
def z20 : Ty := .pair z1 z19
abbrev v20 : Type := v1 × v19
def z21 : Ty := .pair z13 z20
abbrev v21 : Type := v13 × v20
def z22 : Ty := .pair z12 z21
abbrev v22 : Type := v12 × v21
def z23 : Ty := .pair (.int .i64) z22
abbrev v23 : Type := Int × v22
def z24 : Ty := .sl z23
abbrev v24 : Type := List v23
def z25 : Ty := .pair z24 .unit
abbrev v25 : Type := v24 × Unit
def z26 : Ty := .pair (.int .i64) z25
abbrev v26 : Type := Int × v25
def z27 : Ty := .pair z26 z2
abbrev v27 : Type := v26 × v2
def z28 : Ty := .pair z26 z27
abbrev v28 : Type := v26 × v27
def z29 : Ty := .pair .str .unit
abbrev v29 : Type := (List UInt8) × Unit
def z30 : Ty := .pair .str z29
abbrev v30 : Type := (List UInt8) × v29
def z31 : Ty := .sl z30
abbrev v31 : Type := List v30
def z32 : Ty := .pair z31 .unit
abbrev v32 : Type := v31 × Unit
def z33 : Ty := .pair z30 z32
abbrev v33 : Type := v30 × v32
def z34 : Ty := .pair z30 z33
abbrev v34 : Type := v30 × v33
def z35 : Ty := .pair (.int .i64) z34
abbrev v35 : Type := Int × v34
def z36 : Ty := .pair (.int .i64) z35
abbrev v36 : Type := Int × v35
def z37 : Ty := .pair z36 z2
abbrev v37 : Type := v36 × v2
def z38 : Ty := .pair z36 .unit
abbrev v38 : Type := v36 × Unit
def z39 : Ty := .pair z30 z2
abbrev v39 : Type := v30 × v2
def z40 : Ty := .pair z26 .unit
abbrev v40 : Type := v26 × Unit
def z41 : Ty := .pair z26 z40
abbrev v41 : Type := v26 × v40
def z42 : Ty := .pair z41 .unit
abbrev v42 : Type := v41 × Unit
def z43 : Ty := .pair z41 z32
abbrev v43 : Type := v41 × v32
def z44 : Ty := .pair z30 z0
abbrev v44 : Type := v30 × v0
def z45 : Ty := .pair .str z2
abbrev v45 : Type := (List UInt8) × v2
def z46 : Ty := .pair z30 .unit
abbrev v46 : Type := v30 × Unit
def z47 : Ty := .pair z30 z46
abbrev v47 : Type := v30 × v46
def z48 : Ty := .pair z26 z32
abbrev v48 : Type := v26 × v32
def z49 : Ty := .pair z31 z2
abbrev v49 : Type := v31 × v2
def z50 : Ty := .pair z30 z47
abbrev v50 : Type := v30 × v47
def z51 : Ty := .sl (.int .u32)
abbrev v51 : Type := List Int
def z52 : Ty := .pair z51 z0
abbrev v52 : Type := v51 × v0
def z53 : Ty := .pair z51 .unit
abbrev v53 : Type := v51 × Unit
def z54 : Ty := .pair z52 z53
abbrev v54 : Type := v52 × v53
def z55 : Ty := .pair z54 z0
abbrev v55 : Type := v54 × v0
def z56 : Ty := .pair z54 .unit
abbrev v56 : Type := v54 × Unit
def z57 : Ty := .pair z54 z56
abbrev v57 : Type := v54 × v56
def z58 : Ty := .pair z52 .unit
abbrev v58 : Type := v52 × Unit
def z59 : Ty := .pair z51 z53
abbrev v59 : Type := v51 × v53
def z60 : Ty := .pair z52 z58
abbrev v60 : Type := v52 × v58
def z61 : Ty := .pair .str z0
abbrev v61 : Type := (List UInt8) × v0
def z62 : Ty := .pair z23 .unit
abbrev v62 : Type := v23 × Unit
def z63 : Ty := .pair z11 .unit
abbrev v63 : Type := v11 × Unit
end Go.Vg
