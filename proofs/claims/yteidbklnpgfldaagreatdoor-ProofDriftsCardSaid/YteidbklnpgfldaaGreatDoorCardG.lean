/-
  The card of the law. After the seat example over a table, turned to this law; no condition.
-/
import Derived.Test.YteidbklnpgfldaaGreatDoorCardA
set_option linter.unusedVariables false
set_option linter.unusedSimpArgs false
namespace Go.Proofs.YteidbklnpgfldaaGreatDoor
open Go.ChangeShapes Go.WideShapes Go.ChangeAt Go.RowKit
set_option maxRecDepth 100000 in
theorem cardG0 : Tryz.prog.funcs.any Func.goes = false := by kernel_rfl
theorem cardG1 (f : FuncId) : Tryz.prog.goes f = false := by
 have h : ∀ g : FuncId, (Tryz.prog.funcs[g]?).any Func.goes = false := by
  intro g
  rcases hg : Tryz.prog.funcs[g]? with _ | fn
  · rfl
  · have := Array.any_eq_false'.mp cardG0 fn (Array.mem_of_getElem? hg)
    simpa using this
 unfold Program.goes
 rw [cardG0, Bool.and_false, Bool.or_false, List.any_eq_false]
 intro g _
 rw [h]; simp
theorem cardG2 (P : Program) (h : ∀ f, P.goes f = false) (c : OpenClaim) : false = c.goesBy P := by
 have h1 : ∀ n, P.goesFrom n = false := by
  intro n
  unfold Program.goesFrom
  cases P.funcNamed n with
  | none => rfl
  | some f => exact h f
 have h2 : P.inits.toList.any P.goes = false := by
  rw [List.any_eq_false]; intro g _; rw [h]; simp
 unfold OpenClaim.goesBy Program.goesAt
 rw [h1, h2]
 cases c.start <;> rfl
theorem cardG3 : Tryz.pinned.checked.prog = Tryz.prog := rfl
theorem cardG : false = Rows.proofDriftsRow.goesBy Tryz.pinned.checked.prog := by
 rw [cardG3]; exact cardG2 Tryz.prog cardG1 _
end Go.Proofs.YteidbklnpgfldaaGreatDoor
