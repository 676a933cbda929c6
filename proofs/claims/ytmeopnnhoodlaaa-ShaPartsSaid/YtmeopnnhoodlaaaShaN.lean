/- The walks of chapter 1's statements ShaTwice, ShaParts. -/
import Derived.Test.YtmeopnnhoodlaaaShaL
namespace Go.Proofs.Ytmeopnnhoodlaaa
open Go.RowKit Sha

theorem cut_join (s : ByteArray) (k : Nat) : s.extract 0 k ++ s.extract k s.size = s := by
  apply ByteArray.ext
  simp

theorem tmod_nat (c : Int) (n : Nat) : ∃ k : Nat, (IntKind.u64.wrap c).tmod ((n : Int) + 1) = (k : Int) ∧ k ≤ n := by
  have h0 : 0 ≤ IntKind.u64.wrap c := wrap_u64_nonneg c
  have h1 : (IntKind.u64.wrap c).tmod ((n : Int) + 1) = IntKind.u64.wrap c % ((n : Int) + 1) := Int.tmod_eq_emod_of_nonneg h0
  refine ⟨(IntKind.u64.wrap c % ((n : Int) + 1)).toNat, ?_, ?_⟩
  · rw [h1, Int.toNat_of_nonneg (Int.emod_nonneg _ (by omega))]
  · have := Int.emod_lt_of_pos (IntKind.u64.wrap c) (show (0 : Int) < (n : Int) + 1 by omega)
    omega

theorem between_ok : (ByteArray.mk #[98, 101, 116, 119, 101, 101, 110]).size ≤ 140737488355000 := by decide

theorem i64_and7 (n : Int) : bits .and .i64 n 7 = n % 8 := by
  have h7 : (BitVec.ofInt 64 7).toNat = 2 ^ 3 - 1 := by decide
  have key : (BitVec.ofInt 64 n &&& BitVec.ofInt 64 7).toNat = (n % ((2 ^ 64 : Nat) : Int)).toNat % 2 ^ 3 := by
    rw [BitVec.toNat_and, BitVec.toNat_ofInt, h7, Nat.and_two_pow_sub_one_eq_mod]
  show IntKind.i64.wrap ((BitVec.ofInt 64 n &&& BitVec.ofInt 64 7).toNat : Nat) = n % 8
  rw [key, IntKind.wrap_i64]
  omega

set_option maxRecDepth 100000 in
set_option maxHeartbeats 400000 in
theorem shaTwice_calls (s : ByteArray) (c : Int) (hs : s.size ≤ 140737488351232) (w : World) :
    Calls Try.prog 6 #[.string s, .int .i64 c] w fun e w' => e = .returned (.bool true) ∧ Below w.heap.size w w' := by
  have h0 : (0 : Int) ≤ (s.size : Int) := by omega
  have h1 : (s.size : Int) ≤ 140737488351232 := by omega
  obtain ⟨k, hk, hks⟩ := tmod_nat c s.size
  have hk1 : (k : Int) ≤ (s.size : Int) := by omega
  have hcj := cut_join s k
  have hadd : ∀ w, (Op.stringOp .add (s.extract 0 k) (s.extract k s.size)).run Try.prog w = .ok (.string s) w := fun w => by
    rw [run_string_add_sum w _ _ (by rw [ByteArray.size_extract, ByteArray.size_extract]; omega), hcj]
  clear hcj
  have hsz : ((sha s).size : Int) = 32 := by rw [sha_size]; rfl
  go_enter Try.func6, Try.ntmps6
  go_wp2_with fail
  ((with_reducible refine (awake_calls _).mono ?_); rintro e w1 ⟨rfl, hb1⟩)
  go_wp2_with fail
  refine region_tail 7 (by kernel_rfl) (by kernel_rfl) ?_
  simp only [List.take_succ_cons, List.take_zero, List.drop_succ_cons, List.drop_zero]
  repeat still_step
  refine wpStill_nil ?_
  go_wp2_with fail
  ((with_reducible refine (sum_calls _ _ (by omega)).mono ?_); rintro e w2 ⟨rfl, hb2⟩)
  have hb3 := hb1.drew.trans (hb2.mono hb1.size)
  clear hb1 hb2
  go_wp2_with fail
  ((with_reducible refine (sum_calls _ _ between_ok).mono ?_); rintro e w3 ⟨rfl, hb4⟩)
  have hb5 := hb3.trans (hb4.mono hb3.size)
  clear hb3 hb4
  go_wp2_with fail
  ((with_reducible refine (sum_calls _ _ (by omega)).mono ?_); rintro e w4 ⟨rfl, hb6⟩)
  have hb7 := hb5.trans (hb6.mono hb5.size)
  clear hb5 hb6
  go_wp2_with fail
  ((with_reducible refine (refSha_calls _ _ (by omega)).mono ?_); rintro e w5 ⟨rfl, hb8⟩)
  go_wp2_with fail
  go_ret
  exact ⟨rfl, hb7.trans (hb8.mono hb7.size)⟩

set_option maxRecDepth 100000 in
set_option maxHeartbeats 400000 in
theorem shaParts_calls (s : ByteArray) (c : Int) (hs : s.size ≤ 140737488351232) (w : World) :
    Calls Try.prog 7 #[.string s, .int .i64 c] w fun e w' => e = .returned (.bool true) ∧ Below w.heap.size w w' := by
  have hm0 : 0 ≤ bits .and .i64 c 7 ∧ bits .and .i64 c 7 ≤ 7 := by rw [i64_and7]; omega
  obtain ⟨m, hm⟩ : ∃ m : Nat, bits .and .i64 c 7 = m := ⟨(bits .and .i64 c 7).toNat, by omega⟩
  have hm7 : (m : Int) ≤ 7 := by omega
  clear hm0
  go_enter Try.func7, Try.ntmps7
  go_wp2_with fail
  ((with_reducible refine (awake_calls _).mono ?_); rintro e w1 ⟨rfl, hb1⟩)
  go_wp2_with fail
  go_loopw [5, 6, 7] (fun a b i wr => ∃ (j : Nat) (T : ByteArray), j ≤ m ∧ i = .int .i64 j ∧ a = .string T ∧ b = .string T ∧ T.size ≤ 140737488351232 ∧ Below w.heap.size w wr) (fun _ _ i _ => m - (intOf i).toNat)
  case atStart => exact ⟨0, s, by omega, rfl, rfl, rfl, hs, hb1⟩
  case round =>
    obtain ⟨j, T, hj, rfl, rfl, rfl, hT, hb⟩ := hrel
    have HT := Lib.hid hT
    clear hT
    by_cases hlt : j < m
    · have hlt1 : (j : Int) < (m : Int) := by omega
      go_wp2_with fail
      ((with_reducible refine (sum_calls _ _ (by have := HT.out; omega)).mono ?_); rintro e w2 ⟨rfl, hb2⟩)
      have hb3 := hb.trans (hb2.mono hb.size)
      clear hb2 hb
      go_wp2_with fail
      ((with_reducible refine (refSha_calls _ _ (by have := HT.out; omega)).mono ?_); rintro e w3 ⟨rfl, hb4⟩)
      go_wp2_with fail
      go_roundw
      case rel => exact ⟨j + 1, sha T, hlt, by go_num, rfl, rfl, by rw [sha_size]; omega, hb3.trans (hb4.mono hb3.size)⟩
      case measure => simp [intOf]; omega
    · obtain rfl : j = m := by omega
      go_wp2_with fail
      ((with_reducible refine (lawNum_calls _ _).mono ?_); rintro e w2 ⟨rfl, rfl⟩)
      go_wp2_with fail
      go_ret
      exact ⟨rfl, hb⟩
end Go.Proofs.Ytmeopnnhoodlaaa
