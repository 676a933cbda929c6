/- The walks of chapter 1's statements. -/
import Derived.Test.YtmeopnnhoodlaaaShaL
namespace Go.Proofs.Ytmeopnnhoodlaaa
open Go.RowKit Sha

set_option maxRecDepth 100000 in
set_option maxHeartbeats 400000 in
theorem shas_calls (s : ByteArray) (hs : s.size ≤ 140737488351232) (w : World) :
    Calls Try.prog 3 #[.string s] w fun e w' => e = .returned (.bool true) ∧ Below w.heap.size w w' := by
  go_enter Try.func3, Try.ntmps3
  go_wp2_with fail
  ((with_reducible refine (sum_calls _ _ (by omega)).mono ?_); rintro e w1 ⟨rfl, hb1⟩)
  go_wp2_with fail
  ((with_reducible refine (refSha_calls _ _ (by omega)).mono ?_); rintro e w2 ⟨rfl, hb2⟩)
  have hb := hb1.trans (hb2.mono hb1.size)
  clear hb1 hb2
  go_wp2_with fail
  ((with_reducible refine (awake_calls _).mono ?_); rintro e w3 ⟨rfl, hb3⟩)
  go_wp2_with fail
  go_ret
  exact ⟨rfl, hb.trans (hb3.mono hb.size)⟩
end Go.Proofs.Ytmeopnnhoodlaaa
