/- The walk of chapter 2's statement MacKeys. -/
import Derived.Test.YtmeopnnhoodlaaaMacG
namespace Go.Proofs.Ytmeopnnhoodlaaa
open Go.RowKit Sha

set_option maxRecDepth 100000 in
set_option maxHeartbeats 400000 in
/-- A secret that may be none. -/
theorem macKeys_bad (k s S a b : ByteArray) (f : Int) (w : World) (hadd : ∀ w, (Op.stringOp .add k ⟨#[0]⟩).run Try.prog w = .ok (.string S) w) (h : (k.size : Int) < 1 ∨ (32 : Int) ≤ k.size)
    (h1 : Hid (∀ w, Calls Try.prog 17 #[.string k, .string s] w fun r w' => r = .returned (.tuple #[.string a, .int .i64 200]) ∧ Below w.heap.size w w'))
    (h2 : Hid (∀ w, Calls Try.prog 17 #[.string S, .string s] w fun r w' => r = .returned (.tuple #[.string b, .int .i64 f]) ∧ Below w.heap.size w w')) :
    Calls Try.prog 11 #[.string k, .string s] w fun e w' => e = .returned (.bool true) ∧ Below w.heap.size w w' := by
  go_enter Try.func11, Try.ntmps11
  go_wp2_with fail
  ((with_reducible refine (macAwake_calls _).mono ?_); rintro e1 w1 ⟨rfl, hb1⟩)
  go_wp2_with fail
  ((with_reducible refine (h1.out _).mono ?_); rintro e1 w2 ⟨rfl, hb2⟩)
  have hb3 := hb1.trans (hb2.mono hb1.size)
  clear hb1 hb2
  go_wp2_with fail
  ((with_reducible refine (h2.out _).mono ?_); rintro e1 w4 ⟨rfl, hb4⟩)
  have hb5 := hb3.trans (hb4.mono hb3.size)
  clear hb3 hb4
  go_wp2_with fail
  ((with_reducible refine (lawNum_calls _ _).mono ?_); rintro e1 w5 ⟨rfl, rfl⟩)
  rcases h with h | h
  · go_wp2_with fail
    go_ret
    exact ⟨rfl, hb5⟩
  · have h3 : ¬ (k.size : Int) < 1 := by omega
    go_wp2_with fail
    go_ret
    exact ⟨rfl, hb5⟩

set_option maxRecDepth 100000 in
set_option maxHeartbeats 400000 in
/-- The longest secret. -/
theorem macKeys_long (k s S a b : ByteArray) (w : World) (hadd : ∀ w, (Op.stringOp .add k ⟨#[0]⟩).run Try.prog w = .ok (.string S) w) (h : (k.size : Int) = 32)
    (h1 : Hid (∀ w, Calls Try.prog 17 #[.string k, .string s] w fun r w' => r = .returned (.tuple #[.string a, .int .i64 0]) ∧ Below w.heap.size w w'))
    (h2 : Hid (∀ w, Calls Try.prog 17 #[.string S, .string s] w fun r w' => r = .returned (.tuple #[.string b, .int .i64 200]) ∧ Below w.heap.size w w')) :
    Calls Try.prog 11 #[.string k, .string s] w fun e w' => e = .returned (.bool true) ∧ Below w.heap.size w w' := by
  go_enter Try.func11, Try.ntmps11
  go_wp2_with fail
  ((with_reducible refine (macAwake_calls _).mono ?_); rintro e1 w1 ⟨rfl, hb1⟩)
  go_wp2_with fail
  ((with_reducible refine (h1.out _).mono ?_); rintro e1 w2 ⟨rfl, hb2⟩)
  have hb3 := hb1.trans (hb2.mono hb1.size)
  clear hb1 hb2
  go_wp2_with fail
  ((with_reducible refine (h2.out _).mono ?_); rintro e1 w4 ⟨rfl, hb4⟩)
  have hb5 := hb3.trans (hb4.mono hb3.size)
  clear hb3 hb4
  go_wp2_with fail
  ((with_reducible refine (lawNum_calls _ _).mono ?_); rintro e1 w5 ⟨rfl, rfl⟩)
  go_wp2_with fail
  ((with_reducible refine (lawNum_calls _ _).mono ?_); rintro e1 w5 ⟨rfl, rfl⟩)
  go_wp2_with fail
  go_ret
  exact ⟨rfl, hb5⟩

set_option maxRecDepth 100000 in
set_option maxHeartbeats 400000 in
/-- Two secrets. -/
theorem macKeys_two (k s S a : ByteArray) (w : World) (hadd : ∀ w, (Op.stringOp .add k ⟨#[0]⟩).run Try.prog w = .ok (.string S) w) (ha : (a.size : Int) = 32)
    (h1 : Hid (∀ w, Calls Try.prog 17 #[.string k, .string s] w fun r w' => r = .returned (.tuple #[.string a, .int .i64 0]) ∧ Below w.heap.size w w'))
    (h2 : Hid (∀ w, Calls Try.prog 17 #[.string S, .string s] w fun r w' => r = .returned (.tuple #[.string a, .int .i64 0]) ∧ Below w.heap.size w w')) :
    Calls Try.prog 11 #[.string k, .string s] w fun e w' => e = .returned (.bool true) ∧ Below w.heap.size w w' := by
  go_enter Try.func11, Try.ntmps11
  go_wp2_with fail
  ((with_reducible refine (macAwake_calls _).mono ?_); rintro e1 w1 ⟨rfl, hb1⟩)
  go_wp2_with fail
  ((with_reducible refine (h1.out _).mono ?_); rintro e1 w2 ⟨rfl, hb2⟩)
  have hb3 := hb1.trans (hb2.mono hb1.size)
  clear hb1 hb2
  go_wp2_with fail
  ((with_reducible refine (h2.out _).mono ?_); rintro e1 w4 ⟨rfl, hb4⟩)
  have hb5 := hb3.trans (hb4.mono hb3.size)
  clear hb3 hb4
  go_wp2_with fail
  ((with_reducible refine (lawNum_calls _ _).mono ?_); rintro e1 w5 ⟨rfl, rfl⟩)
  go_wp2_with fail
  ((with_reducible refine (lawNum_calls _ _).mono ?_); rintro e1 w5 ⟨rfl, rfl⟩)
  go_wp2_with fail
  ((with_reducible refine (same_self a _ (by omega)).mono ?_); rintro e1 w6 ⟨rfl, hb6⟩)
  go_wp2_with fail
  go_ret
  exact ⟨rfl, hb5.trans (hb6.mono hb5.size)⟩

theorem tag_bad (k s : ByteArray) (h : secretOk k = false) (hk : k.size ≤ 140737488354000) :
    ∀ w, Calls Try.prog 17 #[.string k, .string s] w fun r w' => r = .returned (.tuple #[.string ⟨#[]⟩, .int .i64 200]) ∧ Below w.heap.size w w' := fun w =>
  (macTag_bad k s w h (by omega)).mono (by rintro r w' ⟨rfl, rfl⟩; exact ⟨rfl, Below.refl _ _⟩)

theorem macKeys_calls (k s : ByteArray) (hk : k.size ≤ 140737488351232) (hs : s.size ≤ 140737488351232) (w : World) :
    Calls Try.prog 11 #[.string k, .string s] w fun e w' => e = .returned (.bool true) ∧ Below w.heap.size w w' := by
  have h0 : (k ++ (ByteArray.mk #[0])).size = k.size + 1 := by rw [ByteArray.size_append]; rfl
  have hadd : ∀ w, (Op.stringOp .add k ⟨#[0]⟩).run Try.prog w = .ok (.string (k ++ ⟨#[0]⟩)) w := fun w => run_string_add_sum w _ _ (by show k.size + 1 ≤ _; omega)
  by_cases h1 : k.size < 1 ∨ 32 < k.size
  · obtain ⟨b, f, _, hT, _⟩ := tag_pair (k ++ ⟨#[0]⟩) s (by omega) (by omega)
    exact macKeys_bad k s _ _ b f w hadd (by omega) (Lib.hid (tag_bad k s ((secretOk_iff_not k).mpr h1) (by omega))) (Lib.hid hT)
  · have hok : secretOk k = true := (secretOk_iff k).mpr (by omega)
    by_cases h2 : k.size = 32
    · exact macKeys_long k s _ _ _ w hadd (by omega) (Lib.hid fun w => macTag_ok k s w hok (by omega)) (Lib.hid (tag_bad _ s ((secretOk_iff_not _).mpr (by omega)) (by omega)))
    · refine macKeys_two k s _ (mac k s) w hadd (by rw [mac_size]; rfl) (Lib.hid fun w => macTag_ok k s w hok (by omega)) (Lib.hid fun w => ?_)
      rw [← mac_zero k s (by omega)]
      exact macTag_ok _ s w ((secretOk_iff _).mpr (by omega)) (by omega)
end Go.Proofs.Ytmeopnnhoodlaaa
