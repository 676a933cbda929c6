/- The walks of chapter 1's statements ShaLengths, ShaVectors. -/
import Derived.Test.YtmeopnnhoodlaaaShaN
namespace Go.Proofs.Ytmeopnnhoodlaaa
open Go.RowKit Sha

theorem i64_and255 (n : Int) : bits .and .i64 n 255 = n % 256 := by
  have h7 : (BitVec.ofInt 64 255).toNat = 2 ^ 8 - 1 := by decide
  have key : (BitVec.ofInt 64 n &&& BitVec.ofInt 64 255).toNat = (n % ((2 ^ 64 : Nat) : Int)).toNat % 2 ^ 8 := by
    rw [BitVec.toNat_and, BitVec.toNat_ofInt, h7, Nat.and_two_pow_sub_one_eq_mod]
  show IntKind.i64.wrap ((BitVec.ofInt 64 n &&& BitVec.ofInt 64 255).toNat : Nat) = n % 256
  rw [key, IntKind.wrap_i64]
  omega

/-- A slice of so many bytes 0. -/
theorem make_bytes (m : Nat) (hm : m ≤ 140737488355328) (W : World) : (Instr.makeSlice 25 (.int .i64 (m : Int)) (.int .i64 (m : Int))).run Try.prog W = .ok (.slice (some ⟨W.heap.size, 0, none⟩) m m) (W.alloc (.cells (byts (List.replicate m 0)) 5)) := by
  obtain ⟨i0, hi, hzz, hz1, hz2⟩ := info_parts info_u8
  have := run_make (P := Try.prog) W 25 5 i0 (.int .u8 0) Try.underlying25 hi hzz .i64 .i64 (m : Int) (m : Int) (by omega) (Int.le_refl _) (by rw [hz2]; omega) (by omega)
  rw [this, hz1, Nat.mul_one, Int.toNat_natCast, made_zeros]

theorem conv_len {w w' : World} {b m : Nat} {T : TypeId} {l : List Int} {fr : Nat × Nat} (hl : l.length = m) (hq : w.heap[b]? = some (.cells (byts l) T fr)) (hb : Below w.heap.size w w') :
    (convert 25 9 (.slice (some ⟨b, 0, none⟩) m m)).run Try.prog w' = .ok (.string (strOfNums l)) w' := by
  subst hl
  exact conv_bytes hq hb

set_option maxRecDepth 100000 in
set_option maxHeartbeats 400000 in
theorem shaLengths_calls (n c : Int) (w : World) :
    Calls Try.prog 4 #[.int .i64 n, .int .i64 c] w fun e w' => e = .returned (.bool true) ∧ Below w.heap.size w w' := by
  have hm0 : 0 ≤ bits .and .i64 n 255 ∧ bits .and .i64 n 255 ≤ 255 := by rw [i64_and255]; omega
  obtain ⟨m, hm⟩ : ∃ m : Nat, bits .and .i64 n 255 = m := ⟨(bits .and .i64 n 255).toNat, by omega⟩
  have hm7 : (m : Int) ≤ 255 := by omega
  have hmk := make_bytes m (by omega)
  clear hm0
  go_enter Try.func4, Try.ntmps4
  go_wp2_with fail
  ((with_reducible refine (awake_calls _).mono ?_); rintro e w1 ⟨rfl, hb1⟩)
  go_wp2_with fail
  go_loopw [6] (fun i wr => ∃ (j : Nat) (l : List Int), j ≤ m ∧ i = .int .i64 j ∧ l.length = m ∧ wr.heap[w1.heap.size]? = some (.cells (byts l) 5 (0, 0)) ∧ Below w.heap.size w wr) (fun i _ => m - (intOf i).toNat)
  case atStart => exact ⟨0, List.replicate m 0, by omega, rfl, List.length_replicate, heap_alloc_new _ _, hb1.alloc hb1.size _⟩
  case round =>
    obtain ⟨j, l, hj, rfl, hl, hq, hb⟩ := hrel
    have HL := Lib.hid hl
    have HQ := Lib.hid hq
    clear hl hq hmk
    by_cases hlt : j < m
    · have hlt1 : (j : Int) < (m : Int) := by omega
      have f0 : wr.frozen? ⟨w1.heap.size, j, none⟩ = false := frozen_of_row wr _ j _ _ HQ.out
      have c0 : wr.cell? ⟨w1.heap.size, j, none⟩ = some (.int .u8 (l.getD j 0)) := by
        rw [cell_of_row wr _ j _ _ _ HQ.out, byts_get l j (by rw [HL.out]; exact hlt)]
      go_wp2_with fail
      go_roundw
      case rel =>
        refine ⟨j + 1, _, hlt, by go_num, ?_, (heap_setCell_same wr _ j _ _ _ HQ.out).trans (by rw [byts_set]), hb.setCell hb1.size _⟩
        rw [List.length_set, HL.out]
      case measure => simp [intOf]; omega
    · obtain rfl : j = m := by omega
      have hv := conv_len HL.out HQ.out (Below.refl _ _)
      have hsz : (strOfNums l).size ≤ 140737488355000 := by rw [strOfNums_size, HL.out]; omega
      have HS := Lib.hid hsz
      have h32 : ((sha (strOfNums l)).size : Int) = 32 := by rw [sha_size]; rfl
      clear hsz
      go_wp2_with fail
      ((with_reducible refine (sum_calls _ _ HS.out).mono ?_); rintro e w2 ⟨rfl, hb2⟩)
      have hv2 := conv_len HL.out HQ.out hb2
      have hb3 := hb.trans (hb2.mono hb.size)
      clear hb2 hb hv
      go_wp2_with fail
      ((with_reducible refine (refSha_calls _ _ HS.out).mono ?_); rintro e w3 ⟨rfl, hb4⟩)
      go_wp2_with fail
      go_ret
      exact ⟨rfl, hb3.trans (hb4.mono hb3.size)⟩

set_option maxRecDepth 100000 in
set_option maxHeartbeats 2000000 in
theorem shaVectors_0 (c : Int) (w : World) (hc : IntKind.u64.wrap c % 4 = 0) :
    Calls Try.prog 5 #[.int .i64 c] w fun e w' => e = .returned (.bool true) ∧ Below w.heap.size w w' := by
  have hr : (IntKind.u64.wrap c).tmod 4 = 0 := by rw [Int.tmod_eq_emod_of_nonneg (wrap_u64_nonneg c), hc]
  clear hc
  go_enter Try.func5, Try.ntmps5
  go_wp2_with fail
  ((with_reducible refine (awake_calls _).mono ?_); rintro e w1 ⟨rfl, hb1⟩)
  go_wp2_with fail
  go_region_with (first | (go_simp; go_at_call 15; ((with_reducible refine (lawNum_calls _ _).mono ?_); rintro e w2 ⟨rfl, rfl⟩)) | (go_simp; go_at_call 12; ((with_reducible refine (sum_v0 _).mono ?_); rintro e w2 ⟨rfl, hb2⟩); have s2 : w1.heap.size + 1 < w2.heap.size := (by have := hb2.size; simp at this; omega); have c2 := hb2.cell (p := ⟨w1.heap.size + 1, 0, none⟩) (by simp); have b2 : Below w1.heap.size w1 w2 := ((((Below.refl _ _).alloc (Nat.le_refl _) _).alloc (by simp) _).drew).trans (hb2.mono (by simp; omega)); clear hb2) | (go_simp; go_at_call 16; ((with_reducible refine (hex_v0 _).mono ?_); rintro e w3 ⟨rfl, hb3⟩); have c3 := hb3.cell (p := ⟨w1.heap.size + 1, 0, none⟩) s2; have b3 := b2.trans (hb3.mono b2.size); clear hb3))
  all_goals
    go_wp2_with fail
    go_ret
    exact ⟨rfl, hb1.trans (b3.mono hb1.size)⟩

set_option maxRecDepth 100000 in
set_option maxHeartbeats 2000000 in
theorem shaVectors_1 (c : Int) (w : World) (hc : IntKind.u64.wrap c % 4 = 1) :
    Calls Try.prog 5 #[.int .i64 c] w fun e w' => e = .returned (.bool true) ∧ Below w.heap.size w w' := by
  have hr : (IntKind.u64.wrap c).tmod 4 = 1 := by rw [Int.tmod_eq_emod_of_nonneg (wrap_u64_nonneg c), hc]
  clear hc
  go_enter Try.func5, Try.ntmps5
  go_wp2_with fail
  ((with_reducible refine (awake_calls _).mono ?_); rintro e w1 ⟨rfl, hb1⟩)
  go_wp2_with fail
  go_region_with (first | (go_simp; go_at_call 15; ((with_reducible refine (lawNum_calls _ _).mono ?_); rintro e w2 ⟨rfl, rfl⟩)) | (go_simp; go_at_call 12; ((with_reducible refine (sum_v1 _).mono ?_); rintro e w2 ⟨rfl, hb2⟩); have s2 : w1.heap.size + 1 < w2.heap.size := (by have := hb2.size; simp at this; omega); have c2 := hb2.cell (p := ⟨w1.heap.size + 1, 1, none⟩) (by simp); have b2 : Below w1.heap.size w1 w2 := ((((Below.refl _ _).alloc (Nat.le_refl _) _).alloc (by simp) _).drew).trans (hb2.mono (by simp; omega)); clear hb2) | (go_simp; go_at_call 16; ((with_reducible refine (hex_v1 _).mono ?_); rintro e w3 ⟨rfl, hb3⟩); have c3 := hb3.cell (p := ⟨w1.heap.size + 1, 1, none⟩) s2; have b3 := b2.trans (hb3.mono b2.size); clear hb3))
  all_goals
    go_wp2_with fail
    go_ret
    exact ⟨rfl, hb1.trans (b3.mono hb1.size)⟩

set_option maxRecDepth 100000 in
set_option maxHeartbeats 2000000 in
theorem shaVectors_2 (c : Int) (w : World) (hc : IntKind.u64.wrap c % 4 = 2) :
    Calls Try.prog 5 #[.int .i64 c] w fun e w' => e = .returned (.bool true) ∧ Below w.heap.size w w' := by
  have hr : (IntKind.u64.wrap c).tmod 4 = 2 := by rw [Int.tmod_eq_emod_of_nonneg (wrap_u64_nonneg c), hc]
  clear hc
  go_enter Try.func5, Try.ntmps5
  go_wp2_with fail
  ((with_reducible refine (awake_calls _).mono ?_); rintro e w1 ⟨rfl, hb1⟩)
  go_wp2_with fail
  go_region_with (first | (go_simp; go_at_call 15; ((with_reducible refine (lawNum_calls _ _).mono ?_); rintro e w2 ⟨rfl, rfl⟩)) | (go_simp; go_at_call 12; ((with_reducible refine (sum_v2 _).mono ?_); rintro e w2 ⟨rfl, hb2⟩); have s2 : w1.heap.size + 1 < w2.heap.size := (by have := hb2.size; simp at this; omega); have c2 := hb2.cell (p := ⟨w1.heap.size + 1, 2, none⟩) (by simp); have b2 : Below w1.heap.size w1 w2 := ((((Below.refl _ _).alloc (Nat.le_refl _) _).alloc (by simp) _).drew).trans (hb2.mono (by simp; omega)); clear hb2) | (go_simp; go_at_call 16; ((with_reducible refine (hex_v2 _).mono ?_); rintro e w3 ⟨rfl, hb3⟩); have c3 := hb3.cell (p := ⟨w1.heap.size + 1, 2, none⟩) s2; have b3 := b2.trans (hb3.mono b2.size); clear hb3))
  all_goals
    go_wp2_with fail
    go_ret
    exact ⟨rfl, hb1.trans (b3.mono hb1.size)⟩

set_option maxRecDepth 100000 in
set_option maxHeartbeats 2000000 in
theorem shaVectors_3 (c : Int) (w : World) (hc : IntKind.u64.wrap c % 4 = 3) :
    Calls Try.prog 5 #[.int .i64 c] w fun e w' => e = .returned (.bool true) ∧ Below w.heap.size w w' := by
  have hr : (IntKind.u64.wrap c).tmod 4 = 3 := by rw [Int.tmod_eq_emod_of_nonneg (wrap_u64_nonneg c), hc]
  clear hc
  go_enter Try.func5, Try.ntmps5
  go_wp2_with fail
  ((with_reducible refine (awake_calls _).mono ?_); rintro e w1 ⟨rfl, hb1⟩)
  go_wp2_with fail
  go_region_with (first | (go_simp; go_at_call 15; ((with_reducible refine (lawNum_calls _ _).mono ?_); rintro e w2 ⟨rfl, rfl⟩)) | (go_simp; go_at_call 12; ((with_reducible refine (sum_v3 _).mono ?_); rintro e w2 ⟨rfl, hb2⟩); have s2 : w1.heap.size + 1 < w2.heap.size := (by have := hb2.size; simp at this; omega); have c2 := hb2.cell (p := ⟨w1.heap.size + 1, 3, none⟩) (by simp); have b2 : Below w1.heap.size w1 w2 := ((((Below.refl _ _).alloc (Nat.le_refl _) _).alloc (by simp) _).drew).trans (hb2.mono (by simp; omega)); clear hb2) | (go_simp; go_at_call 16; ((with_reducible refine (hex_v3 _).mono ?_); rintro e w3 ⟨rfl, hb3⟩); have c3 := hb3.cell (p := ⟨w1.heap.size + 1, 3, none⟩) s2; have b3 := b2.trans (hb3.mono b2.size); clear hb3))
  all_goals
    go_wp2_with fail
    go_ret
    exact ⟨rfl, hb1.trans (b3.mono hb1.size)⟩

theorem shaVectors_calls (c : Int) (w : World) :
    Calls Try.prog 5 #[.int .i64 c] w fun e w' => e = .returned (.bool true) ∧ Below w.heap.size w w' := by
  have h : IntKind.u64.wrap c % 4 = 0 ∨ IntKind.u64.wrap c % 4 = 1 ∨ IntKind.u64.wrap c % 4 = 2 ∨ IntKind.u64.wrap c % 4 = 3 := by omega
  rcases h with h | h | h | h
  · exact shaVectors_0 c w h
  · exact shaVectors_1 c w h
  · exact shaVectors_2 c w h
  · exact shaVectors_3 c w h
end Go.Proofs.Ytmeopnnhoodlaaa
