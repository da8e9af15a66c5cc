/-
  Trees of what the functions compute, and their laws. Own work; no condition.
-/
import Derived.Test.YtebeijpmpjpgcaaGreatDoorClL7
import Derived.KernelRfl
set_option linter.unusedVariables false
set_option linter.unusedSimpArgs false
set_option maxRecDepth 1000000
set_option maxHeartbeats 0
namespace Go.Vs
open Go Go.Vg Go.Proofs
noncomputable section
def aPG := aOW 14 4 (P2 (.int .u8) (.arr 4 (.int .i16))) (P1 .bool) (unF 2) aQe [alJ, av4, ayS, av6, av7, alO, av3, av8, alP, afP] Tryz.func4 (fun x => aMA x.1 x.2.1) fun x y hw h => by
 obtain ⟨-, a, b, c, d, e, ha, hb, hc, hd⟩ := apO hw
 obtain ⟨hn, rfl⟩ := aoX h
 show (aMA x.1 x.2.1).toO = _
 rw [e]
 exact aMB _ _ _ _ _ hn ha hb
end
end Go.Vs
