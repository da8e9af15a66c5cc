/-
  Trees of what the functions compute, and their laws. Own work; no condition.
-/
import Derived.Test.YtebeijpmpjpgcaaGreatDoorClL10
import Derived.KernelRfl
set_option linter.unusedVariables false
set_option linter.unusedSimpArgs false
set_option maxRecDepth 1000000
set_option maxHeartbeats 0
namespace Go.Vs
open Go Go.Vg Go.Proofs
noncomputable section
def akH (_ : Int × List Int × Unit) : Option (Bool × Unit) := some (true, ())
theorem aM4 {x : Int × List Int × Unit} (h : 0 ≤ x.1 ∧ x.1 ≤ 255) : unF 1 x = some (true, ()) ∨ unF 2 x = some (true, ()) ∨ unF 3 x = some (true, ()) ∨ unF 4 x = some (true, ()) := by
 have h1 : Int.tmod x.1 4 = x.1 % 4 := zM h.1
 have h2 : w64 (1 + w64 (Int.tmod x.1 4)) = 1 + x.1 % 4 := by rw [h1, aaB (x := x.1 % 4) ⟨by omega, by omega⟩, aaB (x := 1 + x.1 % 4) ⟨by omega, by omega⟩]
 have h3 : x.1 % 4 = 0 ∨ x.1 % 4 = 1 ∨ x.1 % 4 = 2 ∨ x.1 % 4 = 3 := zc
 unfold unF
 rw [h2]
 rcases h3 with h | h | h | h <;> rw [h]
 ·exact Or.inl (if_pos rfl)
 ·exact Or.inr (Or.inl (if_pos rfl))
 ·exact Or.inr (Or.inr (Or.inl (if_pos rfl)))
 ·exact Or.inr (Or.inr (Or.inr (if_pos rfl)))
open Go.RowKit in
theorem aPC : (aCY (P2 (.int .u8) (.arr 4 (.int .i16))) (P1 .bool) akH).ok Tryz.prog Gt 4 := by
 refine anI (by kernel_rfl) (fun w ok vs x y hG hok hvs hy => ?_)
 have hy' : y = (true, ()) := (Option.some.inj hy).symm
 subst hy'
 obtain ⟨h1, -⟩ := apO (hvs.wf _ _ _)
 have get : ∀ n, unF n x = some (true, ()) → ∀ (o : OkC) (hf : o.f = 4) (hc : o.c = aCY (P2 (.int .u8) (.arr 4 (.int .i16))) (P1 .bool) (unF n)),
   Calls Tryz.prog 4 ⟨vs⟩ w fun e w' => ∃ rs, e = .returned (aFj rs) ∧ RdVs (aA3 ok w w') w' (P1 .bool) (true, ()) rs ∧ Below w.heap.size w w' := by
  intro n hn o hf hc
  have h := o.h
  rw [hf, hc] at h
  have h2 := h.2 w ok vs x hG hok hvs (show (unF n x).isSome = true by rw [hn]; rfl)
  have e : (aCY (P2 (.int .u8) (.arr 4 (.int .i16))) (P1 .bool) (unF n)).fn x = (true, ()) := by show (unF n x).getD _ = _; rw [hn]; rfl
  rw [e] at h2
  exact h2
 rcases aM4 h1 with h | h | h | h
 ·exact get 1 h aPH rfl rfl
 ·exact get 2 h aPG rfl rfl
 ·exact get 3 h aPF rfl rfl
 ·exact get 4 h aPE rfl rfl
def o_ElementUnits : OkC := ⟨4, _, aPC⟩
end
end Go.Vs
