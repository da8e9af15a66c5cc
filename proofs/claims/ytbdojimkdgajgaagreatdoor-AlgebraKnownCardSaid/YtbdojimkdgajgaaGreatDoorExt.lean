/- Calls that have been run. -/
import Derived.Test.YtbdojimkdgajgaaGreatDoorRunT
import Derived.Test.YtbdojimkdgajgaaGreatDoorRunE
import Derived.Test.YtbdojimkdgajgaaGreatDoorSig
import Derived.KernelRfl
namespace Go.Vg
open Go Go.Proofs
set_option maxRecDepth 1000000
theorem gmono : GMono (Gt Tryz.prog) := gt_monoS (by kernel_rfl)
theorem mixed : Tryz.prog.follows .mixedOrders = true := by kernel_rfl
def enterAll (P : Program) : Sig → Bool
  | [] => true
  | x :: r => match enters P x.1 with
    | true => enterAll P r
    | false => false
theorem enterAll_mem {P : Program} : ∀ {s : Sig}, enterAll P s = true → ∀ x ∈ s, enters P x.1 = true
  | [], _, _, h => by cases h
  | q :: r, hc, x, h => by
    simp only [enterAll] at hc
    split at hc
    · rename_i hq
      rcases List.mem_cons.1 h with e | h
      · rw [e]; exact hq
      · exact enterAll_mem hc x h
    · cases hc
theorem enterSig : ∀ x ∈ sigC, enters Tryz.prog x.1 = true := enterAll_mem (by kernel_rfl)
def ext0 : PureT := extLibI 165
theorem ext0_ok : PureOk Tryz.prog (Gt Tryz.prog) ext0 :=
  ext_okI 165 (by kernel_rfl) (fun n h0 h1 w h => Tryz.strconv_Itoa n h0 h1 w h)
end Go.Vg
