/- The contracts of package mac: Tag. -/
import Derived.Test.YtpgkgpecbjjifaaGreatMacA
namespace Go.Proofs.YtpgkgpecbjjifaaGreat
open Go.RowKit Sha

theorem secret_true (s : ByteArray) (w : World) (h : secretOk s = true) (hs : s.size ≤ 9223372036854775807) :
    Calls Tryz.prog 134 #[.string s] w fun e w' => e = .returned (.bool true) ∧ w = w' := by
  have := secret_calls s w hs
  rw [h] at this
  exact this

theorem secret_false (s : ByteArray) (w : World) (h : secretOk s = false) (hs : s.size ≤ 9223372036854775807) :
    Calls Tryz.prog 134 #[.string s] w fun e w' => e = .returned (.bool false) ∧ w = w' := by
  have := secret_calls s w hs
  rw [h] at this
  exact this

theorem secretOk_sizes (k : ByteArray) (h : secretOk k = true) : 1 ≤ k.size ∧ k.size ≤ 32 := by
  simpa [secretOk] using h

theorem turned_at (k t : ByteArray) (b : Int) (w : World) (h1 : (k.size : Int) ≤ 32) (ht1 : (t.size : Int) ≤ 64) :
    Calls Tryz.prog 199 #[.string (k ++ t), .int .u8 b] w fun e w' => ∃ u, e = .returned (.string u) ∧ Hid (u = turn (k ++ t) b) ∧ 0 ≤ (u.size : Int) ∧ (u.size : Int) ≤ 96 ∧ Below w.heap.size w w' := by
  refine (macTurned_calls (k ++ t) b w (by rw [ByteArray.size_append]; omega)).mono ?_
  rintro e w' ⟨rfl, hb⟩
  exact ⟨_, rfl, rfl, by omega, by rw [turn_size, ByteArray.size_append]; omega, hb⟩

theorem sum_at (s : ByteArray) (w : World) (h : (s.size : Int) ≤ 140737488355000) :
    Calls Tryz.prog 198 #[.string s] w fun e w' => ∃ u, e = .returned (.string u) ∧ Hid (u = sha s) ∧ (u.size : Int) = 32 ∧ Below w.heap.size w w' := by
  refine (sum_calls s w (by omega)).mono ?_
  rintro e w' ⟨rfl, hb⟩
  exact ⟨_, rfl, rfl, by rw [sha_size]; rfl, hb⟩

set_option maxRecDepth 100000 in
set_option maxHeartbeats 400000 in
theorem macTag_ok (k s : ByteArray) (w : World) (hk : secretOk k = true) (hs : s.size ≤ 140737488354000) :
    Calls Tryz.prog 137 #[.string k, .string s] w fun e w' => e = .returned (.tuple #[.string (mac k s), .int .i64 0]) ∧ Below w.heap.size w w' := by
  obtain ⟨k1, k2⟩ := secretOk_sizes k hk
  have a0 : (0 : Int) ≤ (s.size : Int) := by omega
  have a1 : (s.size : Int) ≤ 140737488354000 := by omega
  have a2 : (1 : Int) ≤ (k.size : Int) := by omega
  have a3 : (k.size : Int) ≤ 32 := by omega
  have HZ := Lib.hid (show (64 : Int) - (k.size : Int) = ((64 - k.size : Nat) : Int) by omega)
  have hzl : 64 - k.size ≤ 64 := by omega
  clear hs k1 k2
  go_enter Tryz.func137, Tryz.ntmps137
  go_wp2_with fail
  ((with_reducible refine (secret_true k _ hk (by omega)).mono ?_); rintro e w1 ⟨rfl, rfl⟩)
  go_wp2_with fail
  ((with_reducible refine (repeat_at _ _ HZ.out _ hzl).mono ?_); rintro e w2 ⟨t, rfl, ht, ht0, ht1, hb⟩)
  go_wp2_with fail
  ((with_reducible refine (turned_at k t _ _ a3 ht1).mono ?_); rintro e w3 ⟨u1, rfl, hu1, hu2, hu3, hb1⟩)
  have hb2 := hb.trans (hb1.mono hb.size)
  clear hb hb1
  go_wp2_with fail
  ((with_reducible refine (turned_at k t _ _ a3 ht1).mono ?_); rintro e w4 ⟨u2, rfl, hu4, hu5, hu6, hb3⟩)
  have hb4 := hb2.trans (hb3.mono hb2.size)
  clear hb2 hb3
  go_wp2_with fail
  ((with_reducible refine (sum_at _ _ (by rw [ByteArray.size_append]; omega)).mono ?_); rintro e w5 ⟨u3, rfl, hu7, hu8, hb5⟩)
  have hb6 := hb4.trans (hb5.mono hb4.size)
  clear hb4 hb5
  go_wp2_with fail
  ((with_reducible refine (sum_calls _ _ (by rw [ByteArray.size_append]; omega)).mono ?_); rintro e w6 ⟨rfl, hb7⟩)
  have hb8 := hb6.trans (hb7.mono hb6.size)
  clear hb6 hb7
  go_wp2_with fail
  go_ret2
  refine ⟨?_, hb8⟩
  rw [hu7.out, hu4.out, hu1.out, ht.out]
  rfl

set_option maxRecDepth 100000 in
set_option maxHeartbeats 400000 in
theorem macTag_bad (k s : ByteArray) (w : World) (hk : secretOk k = false) (hs : k.size ≤ 140737488355000) :
    Calls Tryz.prog 137 #[.string k, .string s] w fun e w' => e = .returned (.tuple #[.string ⟨#[]⟩, .int .i64 200]) ∧ w = w' := by
  go_enter Tryz.func137, Tryz.ntmps137
  go_wp2_with fail
  ((with_reducible refine (secret_false k _ hk (by omega)).mono ?_); rintro e w1 ⟨rfl, rfl⟩)
  go_wp2_with fail
  go_ret2
  exact ⟨rfl, rfl⟩
end Go.Proofs.YtpgkgpecbjjifaaGreat
