/- The law itself. -/
import Derived.Test.YtoibdlakkekkeaaGreatDoorM16
namespace Go.Vg
open Go Go.Proofs
set_option maxRecDepth 1000000
set_option maxHeartbeats 0
theorem top_run : okRows (pureKD Tryz.prog sigC 100000 ext9 40) [⟨3, .unit, .pair .bool .unit, ([((), (true, ()))] : List (Unit × Bool × Unit))⟩] = true := by kernel_rfl
theorem top_at : At Tryz.prog (Gt Tryz.prog) 3 .unit (.pair .bool .unit) () (true, ()) := by
  have h := top_run
  rw [(runK_eq (P := Tryz.prog) (sig := sigC) 100000 ext9 40).1] at h
  exact (runD_ok gmono mixed ext9_ok enterSig 100000 40).1 _ _ _ _ _ (okL_mem (okRows_mem h _ List.mem_cons_self) () (true, ()) List.mem_cons_self)
end Go.Vg
