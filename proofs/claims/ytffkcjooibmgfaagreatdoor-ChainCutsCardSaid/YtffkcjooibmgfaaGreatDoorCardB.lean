/-
  The card of the law. After the seat example over a table, turned to this law; no condition.
-/
import Derived.Test.YtffkcjooibmgfaaGreatDoorCardA
set_option linter.unusedVariables false
set_option linter.unusedSimpArgs false
namespace Go.Proofs.YtffkcjooibmgfaaGreatDoor
open Go.ChangeShapes Go.WideShapes Go.ChangeAt Go.RowKit
theorem aGg : Tryz.pinned.checked.prog = Tryz.prog := rfl
set_option maxRecDepth 100000 in
theorem aI7 : joinedFacts Tryz.pinned.checked.prog 3 Tryz.f3 (OpenSpec.ofChange Rows.chainCutsSpec).bare Rows.chainCutsRow = true := by
 rw [aGg]
 unfold joinedFacts
 rw [aKu, aKt, aKs, aKr]
 kernel_rfl
set_option maxRecDepth 100000 in
theorem said : Rows.ChainCutsSaid :=
 OpenClaim.holds_of_cond 3 Tryz.f3 rfl rfl rfl rfl rfl rfl rfl ⟨rfl, rfl, rfl, rfl, rfl⟩ rfl rfl rfl rfl rfl (by kernel_rfl) Tryz.func3 aI7
  (of_decide_eq_true (by kernel_rfl)) (by unfold Func.isWrapper; first | (rw [if_pos (by decide +kernel)]; kernel_rfl) | (rw [if_neg (by decide +kernel)]; exact ⟨rfl, rfl⟩))
  (fun os started H enc _ F => by rw [OpenClaim.pre_eq_preRow]; exact aKn os started H enc F)
end Go.Proofs.YtffkcjooibmgfaaGreatDoor
