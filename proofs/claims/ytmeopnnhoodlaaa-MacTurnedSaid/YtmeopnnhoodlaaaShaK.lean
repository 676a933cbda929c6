/- The contract of the statements' hex. -/
import Derived.Test.YtmeopnnhoodlaaaShaJ
namespace Go.Proofs.Ytmeopnnhoodlaaa
open Go.RowKit Sha

def digits : ByteArray := ⟨#[48, 49, 50, 51, 52, 53, 54, 55, 56, 57, 97, 98, 99, 100, 101, 102]⟩

def hexTo (s : ByteArray) : Nat → ByteArray
  | 0 => ⟨#[]⟩
  | k + 1 => hexTo s k ++ digits.extract (byteAt s k / 16).toNat (byteAt s k / 16 + 1).toNat ++ digits.extract (byteAt s k % 16).toNat (byteAt s k % 16 + 1).toNat

theorem hexTo_size (s : ByteArray) (k : Nat) : (hexTo s k).size ≤ 32 * k := by
  induction k with
  | zero => exact Nat.le_refl 0
  | succ k ih =>
    have e1 : ∀ a b, (digits.extract a b).size ≤ 16 := fun a b => by
      rw [ByteArray.size_extract]
      have : digits.size = 16 := rfl
      omega
    have := e1 (byteAt s k / 16).toNat (byteAt s k / 16 + 1).toNat
    have := e1 (byteAt s k % 16).toNat (byteAt s k % 16 + 1).toNat
    simp only [hexTo, ByteArray.size_append]
    omega

set_option maxRecDepth 100000 in
set_option maxHeartbeats 1000000 in
theorem hex_calls (s : ByteArray) (w : World) (hs : s.size ≤ 1000) :
    Calls Try.prog 16 #[.string s] w fun e w' => e = .returned (.string (hexTo s s.size)) ∧ Below w.heap.size w w' := by
  have h1 : (s.size : Int) ≤ 1000 := by omega
  go_enter Try.func16, Try.ntmps16
  go_wp2_with fail
  go_loopw [3, 4] (fun o i wr => ∃ (k : Nat) (O : ByteArray), k ≤ s.size ∧ i = .int .i64 k ∧ o = .string O ∧ O = hexTo s k ∧ Below w.heap.size w wr) (fun _ i _ => s.size - (intOf i).toNat)
  case atStart => exact ⟨0, _, by omega, rfl, rfl, rfl, Below.refl _ _⟩
  case round =>
    obtain ⟨k, O, hk, rfl, rfl, hO, hb⟩ := hrel
    have HO := Lib.hid hO
    have o0 : (0 : Int) ≤ (O.size : Int) := by omega
    have o1 : (O.size : Int) ≤ 32 * 1000 := by have := hexTo_size s k; rw [hO]; omega
    clear hO
    by_cases hlt : k < s.size
    · have hlt1 : (k : Int) < (s.size : Int) := by omega
      obtain ⟨X, hX⟩ : ∃ X, X = byteAt s k := ⟨_, rfl⟩
      have hx := byteAt_nat s k hlt
      have x0 := (byteAt_range s k).1
      have x1 := (byteAt_range s k).2
      rw [← hX] at hx x0 x1
      have HX := Lib.hid hX
      clear hX
      go_wp2_with fail
      go_quiet (fail)
      go_wp2_with fail
      go_roundw
      case rel => exact ⟨k + 1, _, by omega, by go_num, rfl, by rw [HO.out, HX.out]; rfl, below_drewN hb _⟩
      case measure => simp [intOf]; omega
    · obtain rfl : k = s.size := by omega
      go_wp2_with fail
      go_ret
      exact ⟨by rw [HO.out]; rfl, hb⟩
end Go.Proofs.Ytmeopnnhoodlaaa
