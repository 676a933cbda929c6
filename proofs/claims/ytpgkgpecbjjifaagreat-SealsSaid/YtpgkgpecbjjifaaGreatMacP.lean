/- Plain words on tags. -/
import Derived.Test.YtpgkgpecbjjifaaGreatShaQ
namespace Go.Proofs.YtpgkgpecbjjifaaGreat.Sha

/-- A text's byte at a place, the first k of them turned in with b. -/
def turnAt (s : ByteArray) (b : Int) (k j : Nat) : Int := if j < k then bits .xor .u8 (byteAt s j) b else byteAt s j

theorem turnAt_other (s : ByteArray) (b : Int) (k j : Nat) (h : ¬ j = k) : turnAt s b k j = turnAt s b (k + 1) j := by
  simp only [turnAt]
  by_cases hk : j < k
  · rw [if_pos hk, if_pos (by omega)]
  · rw [if_neg hk, if_neg (by omega)]

/-- A text, each byte turned in with b. -/
def turnL (s : ByteArray) (b : Int) : List Int := (List.range s.size).map fun j => bits .xor .u8 (byteAt s j) b
def turn (s : ByteArray) (b : Int) : ByteArray := strOfNums (turnL s b)

theorem turnL_length (s : ByteArray) (b : Int) : (turnL s b).length = s.size := by simp [turnL]
theorem turn_size (s : ByteArray) (b : Int) : (turn s b).size = s.size := by rw [turn, strOfNums_size, turnL_length]

theorem turnL_get (s : ByteArray) (b : Int) (j : Nat) (h : j < s.size) : (turnL s b).getD j 0 = bits .xor .u8 (byteAt s j) b := by
  rw [turnL, List.getD_eq_getElem?_getD, List.getElem?_map, List.getElem?_range h]
  rfl

/-- A secret to a block's length. -/
def block64 (s : ByteArray) : ByteArray := s ++ zeros (64 - s.size)

theorem block64_size (s : ByteArray) (h : s.size ≤ 64) : (block64 s).size = 64 := by
  simp only [block64, ByteArray.size_append, zeros_size]
  omega

/-- A secret's length is from 1 to 32. -/
def secretOk (k : ByteArray) : Bool := decide (1 ≤ k.size) && decide (k.size ≤ 32)
theorem secretOk_true (k : ByteArray) (h1 : 1 ≤ k.size) (h2 : k.size ≤ 32) : secretOk k = true := by simp [secretOk, h1, h2]
theorem secretOk_long (k : ByteArray) (h2 : ¬ k.size ≤ 32) : secretOk k = false := by simp [secretOk, h2]
theorem secretOk_none (k : ByteArray) (h1 : ¬ 1 ≤ k.size) : secretOk k = false := by simp [secretOk, h1]

/-- A tag. -/
def mac (k s : ByteArray) : ByteArray := sha (turn (block64 k) 92 ++ sha (turn (block64 k) 54 ++ s))

theorem mac_size (k s : ByteArray) : (mac k s).size = 32 := sha_size _

end Go.Proofs.YtpgkgpecbjjifaaGreat.Sha
