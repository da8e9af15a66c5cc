/-
  The card of the law. After the seat example over a table, turned to this law; no condition.
-/
import Derived.Test.YtehaimkjedmjfaaGreatDoorCardA
set_option linter.unusedVariables false
set_option linter.unusedSimpArgs false
namespace Go.Proofs.YtehaimkjedmjfaaGreatDoor
open Go.ChangeShapes Go.WideShapes Go.ChangeAt Go.RowKit
theorem aIf : Tryz.pinned.checked.prog = Tryz.prog := rfl
set_option maxRecDepth 100000 in
theorem aK7 : joinedFacts Tryz.pinned.checked.prog 3 Tryz.f3 (OpenSpec.ofChange Rows.chainJoinsSpec).bare Rows.chainJoinsRow = true := by
 rw [aIf]
 unfold joinedFacts
 rw [aMx, aMw, aMv, aMu]
 kernel_rfl
set_option maxRecDepth 100000 in
theorem said : Rows.ChainJoinsSaid :=
 OpenClaim.holds_of_cond 3 Tryz.f3 rfl rfl rfl rfl rfl rfl rfl ⟨rfl, rfl, rfl, rfl, rfl⟩ rfl rfl rfl rfl rfl (by kernel_rfl) Tryz.func3 aK7
  (of_decide_eq_true (by kernel_rfl)) (by unfold Func.isWrapper; first | (rw [if_pos (by decide +kernel)]; kernel_rfl) | (rw [if_neg (by decide +kernel)]; exact ⟨rfl, rfl⟩))
  (fun os started H enc _ F => by rw [OpenClaim.pre_eq_preRow]; exact aMp os started H enc F)
end Go.Proofs.YtehaimkjedmjfaaGreatDoor
