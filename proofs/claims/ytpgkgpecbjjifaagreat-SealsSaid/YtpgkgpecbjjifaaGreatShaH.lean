/- The contract of the reference's block, first part: a block's words. -/
import Derived.Test.YtpgkgpecbjjifaaGreatShaG
namespace Go.Proofs.YtpgkgpecbjjifaaGreat
open Go.RowKit Sha

set_option maxRecDepth 100000 in
set_option maxHeartbeats 400000 in
theorem rounds_calls (w : World) :
    Calls Tryz.prog 210 #[] w fun e w' => e = .returned (.slice (some ⟨w.heap.size, 0, none⟩) 64 64) ∧ w.alloc (.cells (ints K) 215) = w' := by
  go_enter Tryz.func210, Tryz.ntmps210
  go_wp2_with fail
  go_ret
  exact ⟨rfl, rfl⟩
end Go.Proofs.YtpgkgpecbjjifaaGreat
