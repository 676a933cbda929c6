/- The contracts of package lsa: numbers' bytes. -/
import Derived.Test.YtpgkgpecbjjifaaGreatPkA
import Derived.Test.YtpgkgpecbjjifaaGreatShaJ
namespace Go.Proofs.YtpgkgpecbjjifaaGreat
open Go.RowKit Sha

theorem num_one (x : Int) : strOfNums [x % 256] = num x 1 := by
  rw [num, numTo, numTo]
  simp
theorem num_two (x : Int) : strOfNums [x / 256 % 256, x % 256] = num x 2 := by
  rw [num, numTo, numTo, numTo]
  simp
theorem strOfNums_append (a b : List Int) : strOfNums (a ++ b) = strOfNums a ++ strOfNums b := by
  apply ByteArray.ext
  apply Array.toList_inj.mp
  rw [ByteArray.data_append, Array.toList_append, strOfNums_data, strOfNums_data, strOfNums_data, List.map_append]
theorem num_halves (x : Int) : num (x / 65536) 2 ++ num x 2 = num x 4 := by
  rw [← num_two, ← num_two, ← strOfNums_append]
  have h1 : x / 65536 / 256 = x / 16777216 := by rw [Int.ediv_ediv_of_nonneg (by omega)]; rfl
  rw [num, numTo, numTo, numTo, numTo, numTo, h1]
  simp

theorem conv_new (W : World) (l : List Int) : (convert 140 9 (.slice (some ⟨W.heap.size, 0, none⟩) l.length l.length)).run Tryz.prog (W.alloc (.cells (byts l) 5)) = .ok (.string (strOfNums l)) (W.alloc (.cells (byts l) 5)) :=
  conv_bytes (w := W.alloc _) (heap_alloc_new _ _) (Below.refl _ _)

set_option maxRecDepth 100000 in
theorem one_calls (x : Int) (w : World) : Calls Tryz.prog 135 #[.int .i64 x] w fun e w' => e = .returned (.string (num x 1)) ∧ Below w.heap.size w w' := by
  have hcv : ∀ W : World, (convert 140 9 (.slice (some ⟨W.heap.size, 0, none⟩) 1 1)).run Tryz.prog (W.alloc (.cells #[.int .u8 (x % 256)] 5)) = .ok (.string (num x 1)) (W.alloc (.cells #[.int .u8 (x % 256)] 5)) := fun W => by
    rw [← num_one]; exact conv_new W [x % 256]
  go_enter Tryz.func135, Tryz.ntmps135
  go_wp2_with fail
  go_ret
  exact ⟨rfl, (Below.refl _ _).alloc (Nat.le_refl _) _⟩
set_option maxRecDepth 100000 in
theorem two_calls (x : Int) (w : World) : Calls Tryz.prog 197 #[.int .i64 x] w fun e w' => e = .returned (.string (num x 2)) ∧ Below w.heap.size w w' := by
  have hcv : ∀ W : World, (convert 140 9 (.slice (some ⟨W.heap.size, 0, none⟩) 2 2)).run Tryz.prog (W.alloc (.cells #[.int .u8 (x / 256 % 256), .int .u8 (x % 256)] 5)) = .ok (.string (num x 2)) (W.alloc (.cells #[.int .u8 (x / 256 % 256), .int .u8 (x % 256)] 5)) := fun W => by
    rw [← num_two]; exact conv_new W [x / 256 % 256, x % 256]
  go_enter Tryz.func197, Tryz.ntmps197
  go_wp2_with fail
  go_ret
  exact ⟨rfl, (Below.refl _ _).alloc (Nat.le_refl _) _⟩
set_option maxRecDepth 100000 in
theorem four_bytes_calls (x : Int) (w : World) : Calls Tryz.prog 136 #[.int .i64 x] w fun e w' => e = .returned (.string (num x 4)) ∧ Below w.heap.size w w' := by
  have hadd : ∀ W : World, (Op.stringOp .add (num (x / 65536) 2) (num x 2)).run Tryz.prog W = .ok (.string (num x 4)) W := fun W => by
    rw [run_string_add_sum W _ _ (by rw [num_size, num_size]; omega), num_halves]
  go_enter Tryz.func136, Tryz.ntmps136
  go_wp2_with fail
  ((with_reducible refine (two_calls _ _).mono ?_); rintro e w1 ⟨rfl, hb1⟩)
  go_wp2_with fail
  ((with_reducible refine (two_calls _ _).mono ?_); rintro e w2 ⟨rfl, hb2⟩)
  go_wp2_with fail
  go_ret
  exact ⟨rfl, hb1.trans (hb2.mono hb1.size)⟩
end Go.Proofs.YtpgkgpecbjjifaaGreat
