/- The walk of chapter 2's statement MacTurned. -/
import Derived.Test.YtmeopnnhoodlaaaMacI
namespace Go.Proofs.Ytmeopnnhoodlaaa
open Go.RowKit Sha

theorem mac_tmod32 (c : Int) : ∃ k : Nat, (IntKind.u64.wrap c).tmod 32 = (k : Int) ∧ k < 32 := by
  have h0 : 0 ≤ IntKind.u64.wrap c := wrap_u64_nonneg c
  have h1 : (IntKind.u64.wrap c).tmod 32 = IntKind.u64.wrap c % 32 := Int.tmod_eq_emod_of_nonneg h0
  refine ⟨(IntKind.u64.wrap c % 32).toNat, ?_, ?_⟩
  · rw [h1]; omega
  · omega

theorem mac_i64_and127 (n : Int) : bits .and .i64 n 127 = n % 128 := by
  have h7 : (BitVec.ofInt 64 127).toNat = 2 ^ 7 - 1 := by decide
  have key : (BitVec.ofInt 64 n &&& BitVec.ofInt 64 127).toNat = (n % ((2 ^ 64 : Nat) : Int)).toNat % 2 ^ 7 := by
    rw [BitVec.toNat_and, BitVec.toNat_ofInt, h7, Nat.and_two_pow_sub_one_eq_mod]
  show IntKind.i64.wrap ((BitVec.ofInt 64 n &&& BitVec.ofInt 64 127).toNat : Nat) = n % 128
  rw [key, IntKind.wrap_i64]
  omega

theorem inner_at (k : ByteArray) (b : Int) (w : World) (hk : k.size ≤ 64) :
    Calls Try.prog 21 #[.string k, .int .u8 b] w fun e w' => ∃ u, e = .returned (.string u) ∧ Hid (u = turn (block64 k) b) ∧ (u.size : Int) = 64 ∧ Below w.heap.size w w' := by
  refine (inner_calls k b w hk).mono ?_
  rintro e w' ⟨rfl, hb⟩
  exact ⟨_, rfl, rfl, by rw [turn_size, block64_size _ hk]; rfl, hb⟩

theorem refSha_eq (s a : ByteArray) (w : World) (h : (s.size : Int) ≤ 140737488355000) (ha : a = sha s) :
    Calls Try.prog 13 #[.string s] w fun e w' => e = .returned (.string a) ∧ Below w.heap.size w w' := by
  subst ha
  exact refSha_calls s w (by omega)

set_option maxRecDepth 100000 in
set_option maxHeartbeats 400000 in
theorem macTurned_bad (k s : ByteArray) (c d : Int) (hk : k.size ≤ 140737488351232) (w : World) (h : secretOk k = false) :
    Calls Try.prog 10 #[.string k, .string s, .int .i64 c, .int .i64 d] w fun e w' => e = .returned (.bool true) ∧ Below w.heap.size w w' := by
  have hT := tag_bad k s h (by omega)
  have HT := Lib.hid hT
  clear hT
  go_enter Try.func10, Try.ntmps10
  go_wp2_with fail
  ((with_reducible refine (macAwake_calls _).mono ?_); rintro e1 w1 ⟨rfl, hb1⟩)
  go_wp2_with fail
  ((with_reducible refine (HT.out _).mono ?_); rintro e1 w2 ⟨rfl, hb2⟩)
  have hb3 := hb1.trans (hb2.mono hb1.size)
  clear hb1 hb2
  go_wp2_with fail
  ((with_reducible refine (lawNum_calls _ _).mono ?_); rintro e1 w5 ⟨rfl, rfl⟩)
  go_wp2_with fail
  go_ret
  exact ⟨rfl, hb3⟩

set_option maxRecDepth 100000 in
set_option maxHeartbeats 1000000 in
theorem macTurned_ok (k s : ByteArray) (c d : Int) (hs : s.size ≤ 140737488351232) (w : World) (hok : secretOk k = true) :
    Calls Try.prog 10 #[.string k, .string s, .int .i64 c, .int .i64 d] w fun e w' => e = .returned (.bool true) ∧ Below w.heap.size w w' := by
  obtain ⟨k1, k2⟩ := secretOk_sizes k hok
  have k3 : (k.size : Int) ≤ 32 := by omega
  have hT := fun w => macTag_ok k s w hok (by omega)
  obtain ⟨i, hi, hi1⟩ := mac_tmod32 c
  obtain ⟨y, hy, hy1⟩ : ∃ y : Nat, bits .and .i64 d 127 = y ∧ y ≤ 127 := ⟨(bits .and .i64 d 127).toNat, by rw [mac_i64_and127]; omega, by rw [mac_i64_and127]; omega⟩
  have y0 : (y : Int) ≤ 127 := by omega
  obtain ⟨t1, t2, t3⟩ := turned_ne (mac k s) i (1 + y) (by omega) (by omega)
  have hn := other_byte (mac k s) i _ (by rw [mac_size]; exact hi1) t2 t3 t1
  have hyc : (((1 + y : Nat)) : Int) = 1 + (y : Int) := by omega
  rw [hyc] at hn
  have a1 : ((mac k s).size : Int) = 32 := by rw [mac_size]; rfl
  have HA := Lib.hid (mac_size k s)
  have HM := Lib.hid (show mac k s = sha (turn (block64 k) 92 ++ sha (turn (block64 k) 54 ++ s)) from rfl)
  have s1 : (s.size : Int) ≤ 140737488351232 := by omega
  clear t1 t2 t3 hyc hs
  generalize mac k s = a at *
  have HT := Lib.hid hT
  have HN := Lib.hid hn
  have i1 : (i : Int) < 32 := by omega
  clear hT hn
  go_enter Try.func10, Try.ntmps10
  go_wp2_with fail
  ((with_reducible refine (macAwake_calls _).mono ?_); rintro e1 w1 ⟨rfl, hb1⟩)
  go_wp2_with fail
  ((with_reducible refine (HT.out _).mono ?_); rintro e1 w2 ⟨rfl, hb2⟩)
  have hb3 := hb1.trans (hb2.mono hb1.size)
  clear hb1 hb2
  go_wp2_with fail
  ((with_reducible refine (lawNum_calls _ _).mono ?_); rintro e1 w5 ⟨rfl, rfl⟩)
  obtain ⟨W', cp, q1, _, q3, q4, q5⟩ := bytes_back w2 a
  have hb4 := hb3.trans (q3.mono hb3.size)
  have c0 := q4.out i (by have := HA.out; omega)
  have c1 := q5.out i (by have := HA.out; omega)
  have hsz : w.heap.size ≤ w2.heap.size := hb3.size
  clear hb3
  go_wp2_with fail
  have hR : w2.heap.size < W'.heap.size := World.block_lt_of_cell? W' ⟨w2.heap.size, i, none⟩ c0
  obtain ⟨W2, hW2⟩ : ∃ W2, W2 = W'.setCell ⟨w2.heap.size, i, none⟩ (.int .u8 (bits .xor .u8 (byteAt a i) (1 + (y : Int)))) := ⟨_, rfl⟩
  have HC : ∀ j, j < a.size → W2.cell? ⟨w2.heap.size, j, none⟩ = some (.int .u8 (((numsOf a).set i (bits .xor .u8 (byteAt a i) (1 + (y : Int)))).getD j 0)) := by
    intro j hj
    rw [set_get _ _ _ _ (by rw [numsOf_length, HA.out]; exact hi1), hW2]
    by_cases e : j = i
    · subst e
      rw [World.cell?_setCell_same _ _ _ c0, if_pos rfl]
    · rw [World.cell?_setCell_other _ _ _ _ (by intro h; injection h; omega), q4.out j hj, if_neg e, numsOf_get]
  have hb5 : Below w.heap.size w W2 := by rw [hW2]; exact hb4.setCell hsz _
  have hR2 : w2.heap.size < W2.heap.size := by rw [hW2, World.size_setCell]; exact hR
  rw [← hW2]
  clear hW2 hb4 hR c0 c1 q1 q3 q4 q5
  generalize bits .xor .u8 (byteAt a i) (1 + (y : Int)) = x at *
  have HC := Lib.hid HC
  ((with_reducible refine (HT.out _).mono ?_); rintro e1 w8 ⟨rfl, hb6⟩)
  have hv := run_convert_bytes_arg (P := Try.prog) w8 25 5 Try.underlying25 Try.underlying5 w2.heap.size 0 a.size cp ((numsOf a).set i x) (by rw [List.length_set, numsOf_length])
    (fun j hj => by rw [Nat.zero_add]; exact (hb6.cell (p := ⟨w2.heap.size, j, none⟩) hR2).trans (HC.out j hj)) 9 Try.underlying9
  have hb7 := hb5.trans (hb6.mono hb5.size)
  generalize strOfNums ((numsOf a).set i x) = b at *
  clear hb5 hb6 hR2
  go_wp2_with fail
  ((with_reducible refine (same_apart a b _ HN.out (by have := HA.out; omega)).mono ?_); rintro e1 w9 ⟨rfl, hb8⟩)
  have hb9 := hb7.trans (hb8.mono hb7.size)
  clear hb7 hb8 hv
  go_wp2_with fail
  ((with_reducible refine (lawNum_calls _ _).mono ?_); rintro e1 w10 ⟨rfl, rfl⟩)
  go_wp2_with fail
  ((with_reducible refine (same_self a _ (by have := HA.out; omega)).mono ?_); rintro e1 w11 ⟨rfl, hb8⟩)
  have hb10 := hb9.trans (hb8.mono hb9.size)
  clear hb9 hb8
  go_wp2_with fail
  ((with_reducible refine (inner_at k _ _ (by omega)).mono ?_); rintro e1 w12 ⟨u1, rfl, e11, e12, hb8⟩)
  have hb11 := hb10.trans (hb8.mono hb10.size)
  clear hb10 hb8
  go_wp2_with fail
  ((with_reducible refine (inner_at k _ _ (by omega)).mono ?_); rintro e1 w13 ⟨u2, rfl, e21, e22, hb8⟩)
  have hb12 := hb11.trans (hb8.mono hb11.size)
  clear hb11 hb8
  go_wp2_with fail
  ((with_reducible refine (refSha_at _ _ (by rw [ByteArray.size_append]; omega)).mono ?_); rintro e1 w14 ⟨u3, rfl, e31, e32, hb8⟩)
  have hb13 := hb12.trans (hb8.mono hb12.size)
  clear hb12 hb8
  go_wp2_with fail
  ((with_reducible refine (refSha_eq _ a _ (by rw [ByteArray.size_append]; omega) (by rw [HM.out, e31.out, e21.out, e11.out])).mono ?_); rintro e1 w15 ⟨rfl, hb8⟩)
  go_wp2_with fail
  go_ret
  exact ⟨rfl, hb13.trans (hb8.mono hb13.size)⟩

theorem lawMacTurned_calls (k s : ByteArray) (c d : Int) (hk : k.size ≤ 140737488351232) (hs : s.size ≤ 140737488351232) (w : World) :
    Calls Try.prog 10 #[.string k, .string s, .int .i64 c, .int .i64 d] w fun e w' => e = .returned (.bool true) ∧ Below w.heap.size w w' := by
  cases h : secretOk k
  · exact macTurned_bad k s c d hk w h
  · exact macTurned_ok k s c d hs w h
end Go.Proofs.Ytmeopnnhoodlaaa
