/- Plain words on tags: what tells two texts apart, a block's bytes. -/
import Derived.Test.YtpgkgpecbjjifaaGreatMacP
import Derived.Laws.BitsLemmas
namespace Go.Proofs.YtpgkgpecbjjifaaGreat.Sha

theorem u8_or_nat (a b : Nat) (ha : a < 256) (hb : b < 256) : bits .or .u8 (a : Int) (b : Int) = ((a ||| b : Nat) : Int) :=
  (bits_nat .u8 8 (by decide) wraps_u8 a b ha hb).2

theorem u8_xor_nat (a b : Nat) (ha : a < 256) (hb : b < 256) : bits .xor .u8 (a : Int) (b : Int) = ((a ^^^ b : Nat) : Int) := by
  have ha' : a % 256 = a := Nat.mod_eq_of_lt ha
  have hb' : b % 256 = b := Nat.mod_eq_of_lt hb
  have hx : a ^^^ b < 2 ^ 8 := Nat.xor_lt_two_pow (n := 8) ha hb
  show IntKind.u8.wrap ((BitVec.ofInt 8 (a : Int) ^^^ BitVec.ofInt 8 (b : Int)).toNat : Nat) = _
  rw [BitVec.ofInt_natCast, BitVec.ofInt_natCast, BitVec.toNat_xor, BitVec.toNat_ofNat, BitVec.toNat_ofNat]
  simp only [show (2 : Nat) ^ 8 = 256 from rfl, ha', hb']
  exact wraps_u8 _ (Int.natCast_nonneg _) (by exact_mod_cast hx)

theorem byteAt_lt (s : ByteArray) (k : Nat) : ∃ n : Nat, byteAt s k = n ∧ n < 256 := ⟨(s.data[k]?.getD 0).toNat, rfl, (s.data[k]?.getD 0).toNat_lt⟩

/-- What tells the first k bytes of two texts apart. -/
def odds (a b : ByteArray) : Nat → Int
  | 0 => 0
  | k + 1 => bits .or .u8 (odds a b k) (bits .xor .u8 (byteAt a k) (byteAt b k))

theorem odds_nat (a b : ByteArray) (k : Nat) : ∃ n : Nat, odds a b k = n ∧ n < 256 ∧ (n = 0 ↔ ∀ j, j < k → byteAt a j = byteAt b j) := by
  induction k with
  | zero => exact ⟨0, rfl, by omega, by simp⟩
  | succ k ih =>
    obtain ⟨n, h1, h2, h3⟩ := ih
    obtain ⟨x, hx, hx'⟩ := byteAt_lt a k
    obtain ⟨y, hy, hy'⟩ := byteAt_lt b k
    have hxy : x ^^^ y < 256 := Nat.xor_lt_two_pow (n := 8) hx' hy'
    refine ⟨n ||| (x ^^^ y), ?_, Nat.or_lt_two_pow (n := 8) h2 hxy, ?_⟩
    · rw [odds, h1, hx, hy, u8_xor_nat x y hx' hy', u8_or_nat n _ h2 hxy]
    · have hz : (x ^^^ y = 0) ↔ x = y := by
        constructor
        · intro h
          have : x ^^^ y ^^^ y = 0 ^^^ y := by rw [h]
          rwa [Nat.xor_assoc, Nat.xor_self, Nat.xor_zero, Nat.zero_xor] at this
        · rintro rfl; exact Nat.xor_self x
      rw [Nat.or_eq_zero_iff, h3, hz]
      constructor
      · rintro ⟨p, q⟩ j hj
        by_cases e : j = k
        · subst e; rw [hx, hy, q]
        · exact p j (by omega)
      · intro p
        refine ⟨fun j hj => p j (by omega), ?_⟩
        have := p k (by omega)
        rw [hx, hy] at this
        omega

theorem byteAt_ext (a b : ByteArray) (h : a.size = b.size) (hb : ∀ j, j < a.size → byteAt a j = byteAt b j) : a = b := by
  apply ByteArray.ext
  apply Array.ext
  · exact h
  · intro i h1 h2
    have := hb i h1
    unfold byteAt at this
    rw [Array.getElem?_eq_getElem h1, Array.getElem?_eq_getElem h2] at this
    simp only [Option.getD_some] at this
    exact UInt8.toNat_inj.mp (by omega)

theorem odds_same (a : ByteArray) (k : Nat) : odds a a k = 0 := by
  obtain ⟨n, h1, _, h3⟩ := odds_nat a a k
  rw [h1, h3.mpr (fun _ _ => rfl)]
  rfl

theorem odds_apart (a b : ByteArray) (h : a.size = b.size) (hn : a ≠ b) : odds a b a.size ≠ 0 := by
  obtain ⟨n, h1, _, h3⟩ := odds_nat a b a.size
  rw [h1]
  intro h0
  exact hn (byteAt_ext a b h (h3.mp (by omega)))

theorem byteAt_append (a b : ByteArray) (j : Nat) : byteAt (a ++ b) j = if j < a.size then byteAt a j else byteAt b (j - a.size) := by
  unfold byteAt
  rw [ByteArray.data_append, Array.getElem?_append]
  show _ = if j < a.data.size then _ else _
  split <;> rfl

theorem byteAt_zeros (n j : Nat) : byteAt (zeros n) j = 0 := by
  unfold byteAt zeros
  rw [List.getElem?_toArray, List.getElem?_replicate]
  split <;> rfl

/-- A block's byte. -/
theorem byteAt_block64 (k : ByteArray) (j : Nat) : byteAt (block64 k) j = if j < k.size then byteAt k j else 0 := by
  rw [block64, byteAt_append, byteAt_zeros]

theorem byteAt_zeros64 (k : ByteArray) (j : Nat) : byteAt (k ++ zeros 64) j = byteAt (block64 k) j := by
  rw [byteAt_block64, byteAt_append, byteAt_zeros]

theorem u8_xor_comm (a b : Nat) (ha : a < 256) (hb : b < 256) : bits .xor .u8 (a : Int) (b : Int) = bits .xor .u8 (b : Int) (a : Int) := by
  rw [u8_xor_nat a b ha hb, u8_xor_nat b a hb ha, Nat.xor_comm]

/-- The document's words for a block turned in. -/
def turnRef (k : ByteArray) (b : Nat) (j : Nat) : Int := if j < k.size then bits .xor .u8 (b : Int) (byteAt k j) else (b : Int)

theorem turnRef_eq (k : ByteArray) (b : Nat) (hb : b < 256) (j : Nat) : turnRef k b j = bits .xor .u8 (byteAt (block64 k) j) (b : Int) := by
  rw [turnRef, byteAt_block64]
  by_cases h : j < k.size
  · obtain ⟨x, hx, hx'⟩ := byteAt_lt k j
    rw [if_pos h, if_pos h, hx, u8_xor_comm x b hx' hb]
  · rw [if_neg h, if_neg h]
    have := u8_xor_nat 0 b (by omega) hb
    rw [Nat.zero_xor] at this
    exact this.symm

theorem turn_of (s : ByteArray) (b : Int) (l : List Int) (hl : l.length = s.size) (h : ∀ j, j < s.size → l.getD j 0 = bits .xor .u8 (byteAt s j) b) : strOfNums l = turn s b := by
  rw [turn]
  congr 1
  apply List.ext_getElem
  · rw [hl, turnL_length]
  · intro i h1 h2
    have e1 := h i (by omega)
    have e2 := turnL_get s b i (by omega)
    rw [List.getD_eq_getElem?_getD, List.getElem?_eq_getElem h1, Option.getD_some] at e1
    rw [List.getD_eq_getElem?_getD, List.getElem?_eq_getElem h2, Option.getD_some] at e2
    rw [e1, e2]

theorem secretOk_iff (k : ByteArray) : secretOk k = true ↔ 1 ≤ k.size ∧ k.size ≤ 32 := by simp [secretOk]
theorem secretOk_iff_not (k : ByteArray) : secretOk k = false ↔ k.size < 1 ∨ 32 < k.size := by
  cases h : secretOk k
  · refine ⟨fun _ => ?_, fun _ => rfl⟩
    have := mt (secretOk_iff k).mpr (by rw [h]; decide)
    omega
  · have := (secretOk_iff k).mp h
    refine ⟨fun h => (by cases h), fun h => ?_⟩
    omega

/-- A byte 0 behind a secret: the same block. -/
theorem block64_zero (k : ByteArray) (h : k.size < 64) : block64 (k ++ ⟨#[0]⟩) = block64 k := by
  have h0 : (k ++ ⟨#[0]⟩).size = k.size + 1 := by rw [ByteArray.size_append]; rfl
  apply byteAt_ext
  · rw [block64_size _ (by omega), block64_size _ (by omega)]
  · intro j _
    rw [byteAt_block64, byteAt_block64, byteAt_append, h0]
    by_cases a : j < k.size
    · rw [if_pos (by omega), if_pos a, if_pos a]
    · rw [if_neg a, if_neg a]
      split
      · have : j - k.size = 0 := by omega
        rw [this]; rfl
      · rfl

theorem mac_zero (k s : ByteArray) (h : k.size < 64) : mac (k ++ ⟨#[0]⟩) s = mac k s := by
  rw [mac, mac, block64_zero k h]

end Go.Proofs.YtpgkgpecbjjifaaGreat.Sha
