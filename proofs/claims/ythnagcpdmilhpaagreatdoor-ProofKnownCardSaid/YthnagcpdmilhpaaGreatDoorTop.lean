/- The law itself. -/
import Derived.Test.YthnagcpdmilhpaaGreatDoorPiZ
namespace Go.Vg
open Go Go.Proofs
set_option maxRecDepth 1000000
set_option maxHeartbeats 0
theorem top_run : okH (pureKD Tryz.prog sigC 100000 ext10 40) 3 .unit (.pair .bool .unit) (.leaf [(zO, yO)] : HTr ((Ty.T .unit) × (Ty.T (.pair .bool .unit)))) = true := okH_one (d := 39) (by kernel_rfl) runO
theorem top_at : At Tryz.prog (Gt Tryz.prog) 3 .unit (.pair .bool .unit) () (true, ()) := by
  have h : okL (pureKD Tryz.prog sigC 100000 ext10 40) 3 .unit (.pair .bool .unit) [(zO, yO)] = true := top_run
  rw [(runK_eq (P := Tryz.prog) (sig := sigC) 100000 ext10 40).1] at h
  exact (runD_ok gmono mixed ext10_ok enterSig 100000 40).1 _ _ _ _ _ (okL_mem h () (true, ()) List.mem_cons_self)
end Go.Vg
