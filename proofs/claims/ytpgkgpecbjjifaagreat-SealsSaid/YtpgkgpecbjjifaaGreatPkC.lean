/- The contracts of the sums of Lsas. -/
import Derived.Test.YtpgkgpecbjjifaaGreatPkB
namespace Go.Proofs.YtpgkgpecbjjifaaGreat
open Go.RowKit Sha

def fl1 (s : ByteArray) : Nat → Int
  | 0 => 0
  | k + 1 => (fl1 s k + byteAt s k) % 255
def fl2 (s : ByteArray) : Nat → Int
  | 0 => 0
  | k + 1 => (fl2 s k + fl1 s (k + 1)) % 255
def fletch (s : ByteArray) : Int := 256 * fl2 s s.size + fl1 s s.size
theorem fl1_range (s : ByteArray) (k : Nat) : 0 ≤ fl1 s k ∧ fl1 s k < 255 := by cases k <;> simp only [fl1] <;> omega
theorem fl2_range (s : ByteArray) (k : Nat) : 0 ≤ fl2 s k ∧ fl2 s k < 255 := by cases k <;> simp only [fl2] <;> omega
theorem fletch_range (s : ByteArray) : 0 ≤ fletch s ∧ fletch s ≤ 65535 := by
  have := fl1_range s s.size
  have := fl2_range s s.size
  unfold fletch
  omega

set_option maxRecDepth 100000 in
set_option maxHeartbeats 400000 in
theorem fletchSum_calls (s : ByteArray) (w : World) (hs : s.size ≤ 140737488355000) :
    Calls Tryz.prog 221 #[.string s] w fun e w' => e = .returned (.int .i64 (fletch s)) ∧ Below w.heap.size w w' := by
  have h1 : (s.size : Int) ≤ 140737488355000 := by omega
  go_enter Tryz.func221, Tryz.ntmps221
  go_wp2_with fail
  go_loopw [3, 4, 8] (fun a b i wr => ∃ k : Nat, k ≤ s.size ∧ a = .int .i64 (fl1 s k) ∧ b = .int .i64 (fl2 s k) ∧ i = .int .i64 k ∧ Below w.heap.size w wr) (fun _ _ i _ => s.size - (intOf i).toNat)
  case atStart => exact ⟨0, Nat.zero_le _, rfl, rfl, rfl, Below.refl _ _⟩
  case round =>
    obtain ⟨k, hk, rfl, rfl, rfl, hb⟩ := hrel
    by_cases hlt : k < s.size
    · have hlt1 : (k : Int) < (s.size : Int) := by omega
      have r1 := fl1_range s k
      have r2 := fl2_range s k
      have r3 := byteAt_range s k
      have hby : ((s[k]'hlt).toNat : Int) = byteAt s k := byteAt_nat s k hlt
      have F1 := Lib.hid (show fl1 s (k + 1) = (fl1 s k + byteAt s k) % 255 from rfl)
      have F2 := Lib.hid (show fl2 s (k + 1) = (fl2 s k + fl1 s (k + 1)) % 255 from rfl)
      generalize fl1 s k = x at *
      generalize fl2 s k = y at *
      generalize byteAt s k = z at *
      obtain ⟨r1, r1'⟩ := r1
      obtain ⟨r2, r2'⟩ := r2
      obtain ⟨r3, r3'⟩ := r3
      have g1 : (x + z).tmod 255 = (x + z) % 255 := Int.tmod_eq_emod_of_nonneg (by omega)
      have g2 : (y + (x + z) % 255).tmod 255 = (y + (x + z) % 255) % 255 := Int.tmod_eq_emod_of_nonneg (by omega)
      go_wp2_with fail
      go_roundw
      case rel => exact ⟨k + 1, hlt, by rw [F1.out], by rw [F2.out, F1.out]; congr 1; omega, by go_num, hb⟩
      case measure => simp [intOf]; omega
    · obtain rfl : k = s.size := by omega
      have r1 := fl1_range s s.size
      have r2 := fl2_range s s.size
      have F := Lib.hid (show fletch s = 256 * fl2 s s.size + fl1 s s.size from rfl)
      generalize fl1 s s.size = x at *
      generalize fl2 s s.size = y at *
      obtain ⟨r1, r1'⟩ := r1
      obtain ⟨r2, r2'⟩ := r2
      go_wp2_with fail
      go_ret
      exact ⟨by rw [F.out]; rfl, hb⟩
set_option maxRecDepth 100000 in
set_option maxHeartbeats 400000 in
theorem refFletch_calls (s : ByteArray) (w : World) (hs : s.size ≤ 140737488355000) :
    Calls Tryz.prog 265 #[.string s] w fun e w' => e = .returned (.int .i64 (fletch s)) ∧ Below w.heap.size w w' := by
  have h1 : (s.size : Int) ≤ 140737488355000 := by omega
  go_enter Tryz.func265, Tryz.ntmps265
  go_wp2_with fail
  go_loopw [3, 4, 5] (fun a b i wr => ∃ k : Nat, k ≤ s.size ∧ a = .int .i64 (fl1 s k) ∧ b = .int .i64 (fl2 s k) ∧ i = .int .i64 k ∧ Below w.heap.size w wr) (fun _ _ i _ => s.size - (intOf i).toNat)
  case atStart => exact ⟨0, Nat.zero_le _, rfl, rfl, rfl, Below.refl _ _⟩
  case round =>
    obtain ⟨k, hk, rfl, rfl, rfl, hb⟩ := hrel
    by_cases hlt : k < s.size
    · have hlt1 : (k : Int) < (s.size : Int) := by omega
      have r1 := fl1_range s k
      have r2 := fl2_range s k
      have r3 := byteAt_range s k
      have hby : ((s[k]'hlt).toNat : Int) = byteAt s k := byteAt_nat s k hlt
      have F1 := Lib.hid (show fl1 s (k + 1) = (fl1 s k + byteAt s k) % 255 from rfl)
      have F2 := Lib.hid (show fl2 s (k + 1) = (fl2 s k + fl1 s (k + 1)) % 255 from rfl)
      generalize fl1 s k = x at *
      generalize fl2 s k = y at *
      generalize byteAt s k = z at *
      obtain ⟨r1, r1'⟩ := r1
      obtain ⟨r2, r2'⟩ := r2
      obtain ⟨r3, r3'⟩ := r3
      have g1 : (x + z).tmod 255 = (x + z) % 255 := Int.tmod_eq_emod_of_nonneg (by omega)
      have g2 : (y + (x + z) % 255).tmod 255 = (y + (x + z) % 255) % 255 := Int.tmod_eq_emod_of_nonneg (by omega)
      go_wp2_with fail
      go_roundw
      case rel => exact ⟨k + 1, hlt, by rw [F1.out], by rw [F2.out, F1.out]; congr 1; omega, by go_num, hb⟩
      case measure => simp [intOf]; omega
    · obtain rfl : k = s.size := by omega
      have r1 := fl1_range s s.size
      have r2 := fl2_range s s.size
      have F := Lib.hid (show fletch s = 256 * fl2 s s.size + fl1 s s.size from rfl)
      generalize fl1 s s.size = x at *
      generalize fl2 s s.size = y at *
      obtain ⟨r1, r1'⟩ := r1
      obtain ⟨r2, r2'⟩ := r2
      go_wp2_with fail
      go_ret
      exact ⟨by rw [F.out]; rfl, hb⟩
end Go.Proofs.YtpgkgpecbjjifaaGreat
