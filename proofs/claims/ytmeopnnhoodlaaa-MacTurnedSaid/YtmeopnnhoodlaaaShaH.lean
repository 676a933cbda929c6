/- The contract of the reference's block, first part: a block's words. -/
import Derived.Test.YtmeopnnhoodlaaaShaG
namespace Go.Proofs.Ytmeopnnhoodlaaa
open Go.RowKit Sha

set_option maxRecDepth 100000 in
set_option maxHeartbeats 400000 in
theorem rounds_calls (w : World) :
    Calls Try.prog 34 #[] w fun e w' => e = .returned (.slice (some ⟨w.heap.size, 0, none⟩) 64 64) ∧ w.alloc (.cells (ints K) 44) = w' := by
  go_enter Try.func34, Try.ntmps34
  go_wp2_with fail
  go_ret
  exact ⟨rfl, rfl⟩
end Go.Proofs.Ytmeopnnhoodlaaa
