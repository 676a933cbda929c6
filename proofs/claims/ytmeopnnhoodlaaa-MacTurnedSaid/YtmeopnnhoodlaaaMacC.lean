/- The contracts of package mac: Same. -/
import Derived.Test.YtmeopnnhoodlaaaMacB
import Derived.Test.YtmeopnnhoodlaaaMacQ
namespace Go.Proofs.Ytmeopnnhoodlaaa
open Go.RowKit Sha

set_option maxRecDepth 100000 in
set_option maxHeartbeats 400000 in
/-- The loop of 'Same'. -/
theorem same_equal (a b : ByteArray) (w : World) (hs : a.size = b.size) (h9 : a.size ≤ 9223372036854775806) (v : Bool) (hv : (odds a b a.size == 0) = v) :
    Calls Try.prog 19 #[.string a, .string b] w fun e w' => e = .returned (.bool v) ∧ Below w.heap.size w w' := by
  have h1 : (a.size : Int) = (b.size : Int) := by omega
  have h2 : (b.size : Int) ≤ 9223372036854775806 := by omega
  have h3 : (0 : Int) ≤ (b.size : Int) := by omega
  have HV := Lib.hid hv
  clear hv
  go_enter Try.func19, Try.ntmps19
  go_wp2_with fail
  go_loopw [5, 14] (fun o i wr => ∃ k : Nat, k ≤ a.size ∧ o = .int .u8 (odds a b k) ∧ i = .int .i64 k ∧ Below w.heap.size w wr) (fun _ i _ => a.size - (intOf i).toNat)
  case atStart => exact ⟨0, Nat.zero_le _, rfl, rfl, Below.refl _ _⟩
  case round =>
    obtain ⟨k, hk, rfl, rfl, hb⟩ := hrel
    by_cases hlt : k < a.size
    · have hlt1 : (k : Int) < (b.size : Int) := by omega
      have hlt2 : k < b.size := by omega
      go_wp2_with fail
      go_quiet (fail)
      go_wp2_with fail
      go_roundw
      case rel => exact ⟨k + 1, hlt, by rw [odds, ← byteAt_nat a k hlt, ← byteAt_nat b k hlt2], by go_num, below_drewN hb _⟩
      case measure => simp [intOf]; omega
    · obtain rfl : k = a.size := by omega
      go_wp2_with fail
      go_ret
      exact ⟨by rw [← HV.out, hs]; rfl, hb⟩

set_option maxRecDepth 100000 in
set_option maxHeartbeats 400000 in
theorem same_unlike (a b : ByteArray) (w : World) (hs : a.size ≠ b.size) :
    Calls Try.prog 19 #[.string a, .string b] w fun e w' => e = .returned (.bool false) ∧ Below w.heap.size w w' := by
  have h1 : ((a.size : Int) == (b.size : Int)) = false := beq_false_of_ne (by omega)
  go_enter Try.func19, Try.ntmps19
  go_wp2_with fail
  go_ret
  exact ⟨rfl, Below.refl _ _⟩

theorem same_self (a : ByteArray) (w : World) (h9 : a.size ≤ 9223372036854775806) :
    Calls Try.prog 19 #[.string a, .string a] w fun e w' => e = .returned (.bool true) ∧ Below w.heap.size w w' :=
  same_equal a a w rfl h9 true (by rw [odds_same]; rfl)

theorem same_apart (a b : ByteArray) (w : World) (hn : a ≠ b) (h8 : a.size ≤ 9223372036854775806) :
    Calls Try.prog 19 #[.string a, .string b] w fun e w' => e = .returned (.bool false) ∧ Below w.heap.size w w' := by
  by_cases hs : a.size = b.size
  · exact same_equal a b w hs h8 false (beq_false_of_ne (odds_apart a b hs hn))
  · exact same_unlike a b w hs
end Go.Proofs.Ytmeopnnhoodlaaa
