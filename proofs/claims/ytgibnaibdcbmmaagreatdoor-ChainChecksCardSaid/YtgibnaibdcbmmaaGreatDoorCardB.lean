/-
  The card of the law. After the seat example over a table, turned to this law; no condition.
-/
import Derived.Test.YtgibnaibdcbmmaaGreatDoorCardA
set_option linter.unusedVariables false
set_option linter.unusedSimpArgs false
namespace Go.Proofs.YtgibnaibdcbmmaaGreatDoor
open Go.ChangeShapes Go.WideShapes Go.ChangeAt Go.RowKit
theorem aIS : Tryz.pinned.checked.prog = Tryz.prog := rfl
set_option maxRecDepth 100000 in
theorem aLS : joinedFacts Tryz.pinned.checked.prog 3 Tryz.f3 (OpenSpec.ofChange Rows.chainChecksSpec).bare Rows.chainChecksRow = true := by
 rw [aIS]
 unfold joinedFacts
 rw [aNb, aNa, aM9, aM8]
 kernel_rfl
set_option maxRecDepth 100000 in
theorem said : Rows.ChainChecksSaid :=
 OpenClaim.holds_of_cond 3 Tryz.f3 rfl rfl rfl rfl rfl rfl rfl ⟨rfl, rfl, rfl, rfl, rfl⟩ rfl rfl rfl rfl rfl (by kernel_rfl) Tryz.func3 aLS
  (of_decide_eq_true (by kernel_rfl)) (by unfold Func.isWrapper; first | (rw [if_pos (by decide +kernel)]; kernel_rfl) | (rw [if_neg (by decide +kernel)]; exact ⟨rfl, rfl⟩))
  (fun os started H enc _ F => by rw [OpenClaim.pre_eq_preRow]; exact aM3 os started H enc F)
end Go.Proofs.YtgibnaibdcbmmaaGreatDoor
