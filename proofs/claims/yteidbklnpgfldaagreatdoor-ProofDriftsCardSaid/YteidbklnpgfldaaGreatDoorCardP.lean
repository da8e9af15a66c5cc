/-
  The card of the law. After the seat example over a table, turned to this law; no condition.
-/
import Derived.Test.YteidbklnpgfldaaGreatDoorCardA
set_option linter.unusedVariables false
set_option linter.unusedSimpArgs false
namespace Go.Proofs.YteidbklnpgfldaaGreatDoor
open Go.ChangeShapes Go.WideShapes Go.ChangeAt Go.RowKit
theorem plain (f : FuncId) (fn : Func) (hf : Tryz.pinned.checked.prog.funcNamed "verdigris/verdigrislaw44.ProofDrifts" = some f) (hfn : Tryz.pinned.checked.prog.funcs[f]? = some fn) :
  true = Tryz.pinned.checked.prog.looks [] ∧ ∀ (j : Nat) t, fn.params[j]? = some t → Tryz.pinned.checked.prog.wantsStandIn t = false := by
 obtain rfl : f = 3 := Option.some.inj ((show Tryz.prog.funcNamed "verdigris/verdigrislaw44.ProofDrifts" = some 3 by kernel_rfl).symm.trans hf) |>.symm
 obtain rfl : fn = Tryz.f3 := (Option.some.inj (Tryz.func3.symm.trans hfn)).symm
 refine ⟨by kernel_rfl, fun j t ht => ?_⟩
 rw [Tryz.params3] at ht
 rcases j with _ | _ | j
 ·obtain rfl : 27 = t := by simpa using ht
  kernel_rfl
 ·obtain rfl : 24 = t := by simpa using ht
  kernel_rfl
 ·simp at ht
end Go.Proofs.YteidbklnpgfldaaGreatDoor
