/- Plain words on a text's bytes in a row. -/
import Derived.Test.YtmeopnnhoodlaaaMacQ
import Derived.Lib.LazyBuf
namespace Go.Proofs.Ytmeopnnhoodlaaa.Sha

/-- A text's bytes as numbers. -/
def numsOf (s : ByteArray) : List Int := s.data.toList.map fun b => (b.toNat : Int)

theorem numsOf_length (s : ByteArray) : (numsOf s).length = s.size := by
  rw [numsOf, List.length_map, Array.length_toList]
  rfl

theorem numsOf_get (s : ByteArray) (j : Nat) : (numsOf s).getD j 0 = byteAt s j := by
  unfold numsOf byteAt
  rw [List.getD_eq_getElem?_getD, List.getElem?_map, Array.getElem?_toList]
  cases s.data[j]? <;> rfl

theorem strOf_nums (s : ByteArray) : strOfNums (numsOf s) = s := by
  rw [numsOf, Lib.Lz.strOfNums_map]

theorem byteAt_strOfNums (l : List Int) (i : Nat) (h : i < l.length) (h0 : 0 ≤ l.getD i 0) (h1 : l.getD i 0 < 256) : byteAt (strOfNums l) i = l.getD i 0 := by
  unfold byteAt
  rw [← Array.getElem?_toList, strOfNums_data, List.getElem?_map]
  rw [List.getD_eq_getElem?_getD] at h0 h1 ⊢
  rw [List.getElem?_eq_getElem h] at h0 h1 ⊢
  simp only [Option.getD_some, Option.map_some] at h0 h1 ⊢
  rw [UInt8.toNat_ofNat']
  omega

/-- A text of which one byte is another. -/
theorem other_byte (s : ByteArray) (i : Nat) (x : Int) (h : i < s.size) (h0 : 0 ≤ x) (h1 : x < 256) (hx : x ≠ byteAt s i) : s ≠ strOfNums ((numsOf s).set i x) := by
  intro h'
  have hg : ((numsOf s).set i x).getD i 0 = x := by
    rw [List.getD_eq_getElem?_getD, List.getElem?_set_self (by rw [numsOf_length]; exact h)]
    rfl
  have := byteAt_strOfNums ((numsOf s).set i x) i (by rw [List.length_set, numsOf_length]; exact h) (by rw [hg]; exact h0) (by rw [hg]; exact h1)
  rw [← h', hg] at this
  exact hx this.symm

/-- A byte turned in with one that is not 0. -/
theorem turned_ne (s : ByteArray) (i : Nat) (y : Nat) (h1 : y < 256) (h0 : 0 < y) : bits .xor .u8 (byteAt s i) (y : Int) ≠ byteAt s i ∧ 0 ≤ bits .xor .u8 (byteAt s i) (y : Int) ∧ bits .xor .u8 (byteAt s i) (y : Int) < 256 := by
  obtain ⟨x, hx, hx'⟩ := byteAt_lt s i
  have hxy : x ^^^ y < 256 := Nat.xor_lt_two_pow (n := 8) hx' h1
  rw [hx, u8_xor_nat x y hx' h1]
  refine ⟨fun h => ?_, by omega, by omega⟩
  have h2 : x ^^^ y = x := by omega
  have h3 : x ^^^ (x ^^^ y) = x ^^^ x := by rw [h2]
  rw [← Nat.xor_assoc, Nat.xor_self, Nat.zero_xor] at h3
  omega
end Go.Proofs.Ytmeopnnhoodlaaa.Sha
