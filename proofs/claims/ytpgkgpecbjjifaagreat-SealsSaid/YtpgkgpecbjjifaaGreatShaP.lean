/- Plain words on SHA-256, in the walk's own numbers: no program in sight. -/
import Derived.WalkKit
import Derived.WalkLawsBesides
import Derived.Laws.BytesArg
namespace Go.Proofs.YtpgkgpecbjjifaaGreat.Sha

/-- A word, turned to the right. -/
def ror (x j : Int) : Int := bits .or .u32 (x * 2 ^ (32 - j).toNat % 4294967296) (x / 2 ^ j.toNat)

/-- A word, turned to the right by three numbers, together. -/
def ror3 (x a b c : Int) : Int := bits .xor .u32 (bits .xor .u32 (ror x a) (ror x b)) (ror x c)

theorem bits_or_comm (k : IntKind) (a b : Int) : bits .or k a b = bits .or k b a := by
  simp only [bits, BitVec.or_comm]

theorem ror_comm (x j : Int) : bits .or .u32 (x / 2 ^ j.toNat) (x * 2 ^ (32 - j).toNat % 4294967296) = ror x j := bits_or_comm ..

/-- A text's byte at a place. -/
def byteAt (s : ByteArray) (k : Nat) : Int := ((s.data[k]?.getD 0).toNat : Int)

theorem byteAt_of (s : ByteArray) (i : Int) : ∀ h : i.toNat < s.size, ((s[i.toNat]'h).toNat : Int) = byteAt s i.toNat := by
  intro h
  have h' : i.toNat < s.data.size := h
  unfold byteAt
  rw [Array.getElem?_eq_getElem h']
  rfl

/-- Four bytes as a word. -/
def word (s : ByteArray) (k : Nat) : Int :=
  bits .or .u32 (bits .or .u32 (bits .or .u32 (byteAt s k * 16777216 % 4294967296) (byteAt s (k + 1) * 65536 % 4294967296)) (byteAt s (k + 2) * 256 % 4294967296)) (byteAt s (k + 3))

theorem byteAt_nat (s : ByteArray) (k : Nat) (h : k < s.size) : ((s[k]'h).toNat : Int) = byteAt s k := byteAt_of s (k : Int) h

theorem byteAt_range (s : ByteArray) (k : Nat) : 0 ≤ byteAt s k ∧ byteAt s k < 256 := by
  unfold byteAt
  have := (s.data[k]?.getD 0).toNat_lt
  omega

theorem byteAt_mod (s : ByteArray) (k : Nat) : byteAt s k % 4294967296 = byteAt s k := by
  have := byteAt_range s k
  omega

theorem word_eq (s : ByteArray) (k : Nat) (h0 : k < s.size) (h1 : k + 1 < s.size) (h2 : k + 2 < s.size) (h3 : k + 3 < s.size) :
    bits .or .u32 (bits .or .u32 (bits .or .u32 (((s[k]'h0).toNat : Int) % 4294967296 * 16777216 % 4294967296) (((s[k + 1]'h1).toNat : Int) % 4294967296 * 65536 % 4294967296))
      (((s[k + 2]'h2).toNat : Int) % 4294967296 * 256 % 4294967296)) (((s[k + 3]'h3).toNat : Int) % 4294967296) = word s k := by
  rw [byteAt_nat, byteAt_nat, byteAt_nat, byteAt_nat, byteAt_mod, byteAt_mod, byteAt_mod, byteAt_mod, word]

/-- What a block's word is, from the 16th on, out of the words ahead. -/
def more (l : List Int) (k : Nat) : Int :=
  (l.getD (k - 16) 0 + bits .xor .u32 (bits .xor .u32 (ror (l.getD (k - 15) 0) 7) (ror (l.getD (k - 15) 0) 18)) (l.getD (k - 15) 0 / 8)
    + l.getD (k - 7) 0 + bits .xor .u32 (bits .xor .u32 (ror (l.getD (k - 2) 0) 17) (ror (l.getD (k - 2) 0) 19)) (l.getD (k - 2) 0 / 1024)) % 4294967296

/-- The first words of a block: one a round. -/
def sched (s : ByteArray) : Nat → List Int
  | 0 => []
  | k + 1 => sched s k ++ [if k < 16 then word s (4 * k) else more (sched s k) k]

theorem sched_length (s : ByteArray) (k : Nat) : (sched s k).length = k := by
  induction k with
  | zero => rfl
  | succ k ih => simp [sched, ih]

/-- The array's cells behind k rounds. -/
def cells (s : ByteArray) (k : Nat) : Array Value := ((sched s k ++ List.replicate (64 - k) 0).map (Value.int .u32)).toArray

theorem cells_size (s : ByteArray) (k : Nat) (h : k ≤ 64) : (cells s k).size = 64 := by
  simp [cells, sched_length]; omega

theorem cells_get (s : ByteArray) (k j : Nat) (h : j < k) : (cells s k)[j]? = some (.int .u32 ((sched s k).getD j 0)) := by
  have hl := sched_length s k
  have h' : j < (sched s k).length := by omega
  rw [cells, List.getElem?_toArray, List.getElem?_map, List.getElem?_append_left h', List.getD_eq_getElem?_getD, List.getElem?_eq_getElem h']
  rfl

theorem cells_set (s : ByteArray) (k : Nat) (h : k < 64) (v : Int) (hv : v = if k < 16 then word s (4 * k) else more (sched s k) k) :
    (cells s k).setIfInBounds k (.int .u32 v) = cells s (k + 1) := by
  have hl := sched_length s k
  subst hv
  simp only [cells, sched, List.setIfInBounds_toArray, List.append_assoc]
  congr 1
  rw [List.map_append, List.set_append_right _ _ (by simp [hl]), List.map_append]
  congr 1
  rw [List.length_map, hl, Nat.sub_self, show 64 - k = (64 - (k + 1)) + 1 by omega, List.replicate_succ]
  rfl

theorem cells_one (s : ByteArray) (k : Nat) : (cells s k).all (·.oneCell') = true := by
  rw [Array.all_eq_true_iff_forall_mem]
  intro x hx
  simp only [cells, List.mem_toArray, List.mem_map] at hx
  obtain ⟨n, _, rfl⟩ := hx
  rfl

theorem cells_at (s : ByteArray) (k : Nat) (h : k < 64) : (cells s k)[k]? = some (.int .u32 0) := by
  have hl := sched_length s k
  rw [cells, List.getElem?_toArray, List.getElem?_map, List.getElem?_append_right (by omega), hl, Nat.sub_self, List.getElem?_replicate, if_pos (by omega)]
  rfl

/-- The numbers of the 64 rounds. -/
def K : List Int := [1116352408, 1899447441, 3049323471, 3921009573, 961987163, 1508970993, 2453635748, 2870763221, 3624381080, 310598401, 607225278, 1426881987, 1925078388, 2162078206, 2614888103, 3248222580, 3835390401, 4022224774, 264347078, 604807628, 770255983, 1249150122, 1555081692, 1996064986, 2554220882, 2821834349, 2952996808, 3210313671, 3336571891, 3584528711, 113926993, 338241895, 666307205, 773529912, 1294757372, 1396182291, 1695183700, 1986661051, 2177026350, 2456956037, 2730485921, 2820302411, 3259730800, 3345764771, 3516065817, 3600352804, 4094571909, 275423344, 430227734, 506948616, 659060556, 883997877, 958139571, 1322822218, 1537002063, 1747873779, 1955562222, 2024104815, 2227730452, 2361852424, 2428436474, 2756734187, 3204031479, 3329325298]

/-- What a sum begins with. -/
def first : List Int := [1779033703, 3144134277, 1013904242, 2773480762, 1359893119, 2600822924, 528734635, 1541459225]

/-- One round. -/
def rnd (k w : Int) : List Int → List Int
  | [a, b, c, d, e, f, g, h] =>
    let t1 := h + ror3 e 6 11 25 + bits .xor .u32 (bits .and .u32 e f) (bits .and .u32 (bits .xor .u32 IntKind.u32.max e) g) + k + w
    let t2 := ror3 a 2 13 22 + bits .xor .u32 (bits .xor .u32 (bits .and .u32 a b) (bits .and .u32 a c)) (bits .and .u32 b c)
    [(t1 + t2) % 4294967296, a, b, c, (d + t1) % 4294967296, e, f, g]
  | l => l

/-- A sum behind so many rounds. -/
def rnds (ws : List Int) (v : List Int) : Nat → List Int
  | 0 => v
  | k + 1 => rnd (K.getD k 0) (ws.getD k 0) (rnds ws v k)

/-- Words in a row of cells. -/
def ints (l : List Int) : Array Value := (l.map (Value.int .u32)).toArray

theorem ints_size (l : List Int) : (ints l).size = l.length := by simp [ints]

theorem ints_get (l : List Int) (k : Nat) (h : k < l.length) : (ints l)[k]? = some (.int .u32 (l.getD k 0)) := by
  rw [ints, List.getElem?_toArray, List.getElem?_map, List.getD_eq_getElem?_getD, List.getElem?_eq_getElem h]
  rfl

theorem ints_set (l : List Int) (k : Nat) (v : Int) : (ints l).setIfInBounds k (.int .u32 v) = ints (l.set k v) := by
  simp [ints, List.map_set]

theorem ints_one (l : List Int) : (ints l).all (·.oneCell') = true := by
  rw [Array.all_eq_true_iff_forall_mem]
  intro x hx
  simp only [ints, List.mem_toArray, List.mem_map] at hx
  obtain ⟨n, _, rfl⟩ := hx
  rfl

/-- The first words of a row, each with its like added. -/
def addTo (v x : List Int) : Nat → List Int
  | 0 => v
  | k + 1 => (addTo v x k).set k (((addTo v x k).getD k 0 + x.getD k 0) % 4294967296)

theorem addTo_length (v x : List Int) (k : Nat) : (addTo v x k).length = v.length := by
  induction k with
  | zero => rfl
  | succ k ih => simp [addTo, ih]

/-- A block, mixed into a sum. -/
def mixL (v : List Int) (s : ByteArray) : List Int := addTo v (rnds (sched s 64) v 64) 8

/-- Bytes in a row of cells. -/
def byts (l : List Int) : Array Value := (l.map (Value.int .u8)).toArray

theorem byts_get (l : List Int) (k : Nat) (h : k < l.length) : (byts l)[k]? = some (.int .u8 (l.getD k 0)) := by
  rw [byts, List.getElem?_toArray, List.getElem?_map, List.getD_eq_getElem?_getD, List.getElem?_eq_getElem h]
  rfl

theorem byts_set (l : List Int) (k : Nat) (v : Int) : (byts l).setIfInBounds k (.int .u8 v) = byts (l.set k v) := by
  simp [byts, List.map_set]

/-- A number's eight bytes, the first k of them laid. -/
def eight (n : Int) : Nat → List Int
  | 0 => [0, 0, 0, 0, 0, 0, 0, 0]
  | k + 1 => (eight n k).set k (n / 2 ^ (8 * (7 - k)) % 256)

theorem eight_length (n : Int) (k : Nat) : (eight n k).length = 8 := by
  induction k with
  | zero => rfl
  | succ k ih => simp [eight, ih]

/-- So many bytes 0. -/
def zeros (z : Nat) : ByteArray := ⟨(List.replicate z 0).toArray⟩

theorem zeros_size (z : Nat) : (zeros z).size = z := by simp [zeros, ByteArray.size]

/-- A text with what stands behind it. -/
def pad (s : ByteArray) : ByteArray := s ++ ⟨#[128]⟩ ++ zeros ((119 - s.size % 64) % 64) ++ strOfNums (eight ((s.size : Int) * 8) 8)

/-- The first so many of a number's k bytes, the highest first. -/
def numTo (x : Int) (k : Nat) : Nat → List Int
  | 0 => []
  | r + 1 => numTo x k r ++ [x / 2 ^ (8 * (k - 1 - r)) % 256]

theorem numTo_length (x : Int) (k r : Nat) : (numTo x k r).length = r := by
  induction r with
  | zero => rfl
  | succ r ih => simp [numTo, ih]

/-- A number in k bytes. -/
def num (x : Int) (k : Nat) : ByteArray := strOfNums (numTo x k k)

theorem num_size (x : Int) (k : Nat) : (num x k).size = k := by rw [num, strOfNums_size, numTo_length]

theorem ret_int {k : IntKind} {a b : Int} (h : a = b) : Ending.returned (.int k a) = .returned (.int k b) := by rw [h]

end Go.Proofs.YtpgkgpecbjjifaaGreat.Sha
