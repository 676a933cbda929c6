/- More plain words on SHA-256: sums of texts. -/
import Derived.Test.YtpgkgpecbjjifaaGreatShaP
import Derived.RowKit
namespace Go.Proofs.YtpgkgpecbjjifaaGreat.Sha

/-- A text's sum behind so many of its blocks. -/
def sums (p : ByteArray) : Nat → List Int
  | 0 => first
  | k + 1 => mixL (sums p k) (p.extract (64 * k) (64 * k + 64))

theorem mixL_length (v : List Int) (s : ByteArray) : (mixL v s).length = v.length := addTo_length ..

theorem sums_length (p : ByteArray) (k : Nat) : (sums p k).length = 8 := by
  induction k with
  | zero => rfl
  | succ k ih => rw [sums, mixL_length, ih]

theorem of_eight {l : List Int} (h : l.length = 8) : ∃ a b c d e f g p, l = [a, b, c, d, e, f, g, p] :=
  match l, h with
  | [a, b, c, d, e, f, g, p], _ => ⟨a, b, c, d, e, f, g, p, rfl⟩

/-- The first so many words of two rows, added. -/
def sumTo (v x : List Int) : Nat → List Int
  | 0 => []
  | k + 1 => sumTo v x k ++ [(v.getD k 0 + x.getD k 0) % 4294967296]

theorem sumTo_length (v x : List Int) (k : Nat) : (sumTo v x k).length = k := by
  induction k with
  | zero => rfl
  | succ k ih => simp [sumTo, ih]

theorem addTo_eq (v x : List Int) (k : Nat) (h : k ≤ v.length) : addTo v x k = sumTo v x k ++ v.drop k := by
  induction k with
  | zero => rfl
  | succ k ih =>
    have hl := sumTo_length v x k
    have e : (sumTo v x k ++ v.drop k).getD k 0 = v.getD k 0 := by
      rw [List.getD_eq_getElem?_getD, List.getElem?_append_right (by omega), hl, Nat.sub_self, List.getElem?_drop, Nat.add_zero, ← List.getD_eq_getElem?_getD]
    rw [addTo, ih (by omega), e, List.set_append_right _ _ (by omega), hl, Nat.sub_self, List.drop_eq_getElem_cons (by omega), List.set_cons_zero, sumTo, List.append_assoc]
    rfl

theorem addTo_all (v x : List Int) : addTo v x v.length = sumTo v x v.length := by
  rw [addTo_eq v x _ (Nat.le_refl _), List.drop_length, List.append_nil]

theorem rnd_length (k w : Int) (l : List Int) (h : l.length = 8) : (rnd k w l).length = 8 := by
  obtain ⟨a, b, c, d, e, f, g, p, rfl⟩ := of_eight h
  rfl

theorem rnds_length (ws v : List Int) (k : Nat) (h : v.length = 8) : (rnds ws v k).length = 8 := by
  induction k with
  | zero => exact h
  | succ k ih => exact rnd_length _ _ _ ih

/-- A word's bytes. -/
def wordBytes (x : Int) : List Int := [x / 16777216 % 256, x / 65536 % 256, x / 256 % 256, x % 256]

/-- The bytes of the first so many words. -/
def wordsTo (l : List Int) : Nat → List Int
  | 0 => []
  | k + 1 => wordsTo l k ++ wordBytes (l.getD k 0)

theorem wordsTo_length (l : List Int) (k : Nat) : (wordsTo l k).length = 4 * k := by
  induction k with
  | zero => rfl
  | succ k ih => simp [wordsTo, ih, wordBytes]; omega

/-- How long a padded text is. -/
theorem pad_size (s : ByteArray) : (pad s).size = s.size + 9 + (119 - s.size % 64) % 64 := by
  simp only [pad, ByteArray.size_append, zeros_size, strOfNums_size, eight_length]
  show s.size + 1 + _ + 8 = _
  omega

theorem pad_blocks (s : ByteArray) : (pad s).size = 64 * ((pad s).size / 64) := by
  rw [pad_size]; omega

/-- SHA-256. -/
def sha (s : ByteArray) : ByteArray := strOfNums (wordsTo (sums (pad s) ((pad s).size / 64)) 8)

theorem sha_size (s : ByteArray) : (sha s).size = 32 := by rw [sha, strOfNums_size, wordsTo_length]

end Go.Proofs.YtpgkgpecbjjifaaGreat.Sha
