/-
  Trees of what the functions compute, and their laws. Own work; no condition.
-/
import Derived.Test.YtebeijpmpjpgcaaGreatDoorClL9
import Derived.KernelRfl
set_option linter.unusedVariables false
set_option linter.unusedSimpArgs false
set_option maxRecDepth 1000000
set_option maxHeartbeats 0
namespace Go.Vs
open Go Go.Vg Go.Proofs
noncomputable section
def aPl := aOx 14 4 (P2 (.int .u8) (.arr 4 (.int .i16))) (P1 .bool) (unF 3) aPI [alG, avW, ayJ, avY, avZ, alK, avV, av0, alM, afO] Tryz.func4 (fun x => aL8 x.1 x.2.1) fun x y hw h => by
 obtain ⟨-, a, b, c, d, e, ha, hb, hc, hd⟩ := apL hw
 obtain ⟨hn, rfl⟩ := aoU h
 show (aL8 x.1 x.2.1).toO = _
 rw [e]
 exact aL9 _ _ _ _ _ hn ha hb hc
end
end Go.Vs
