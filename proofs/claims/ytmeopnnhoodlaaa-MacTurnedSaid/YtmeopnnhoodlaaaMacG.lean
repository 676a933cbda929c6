/- The walks of chapter 2's statements: Macs, MacKeys. -/
import Derived.Test.YtmeopnnhoodlaaaMacF
namespace Go.Proofs.Ytmeopnnhoodlaaa
open Go.RowKit Sha

theorem toList_inj (a b : ByteArray) (h : a.toList = b.toList) : a = b := by
  rw [ByteArray.toList_eq, ByteArray.toList_eq] at h
  exact ByteArray.ext (Array.toList_inj.mp h)

theorem same_is (a b : ByteArray) (w : World) (v : Bool) (hv : (a.toList == b.toList) = v) (h8 : a.size ≤ 9223372036854775806) :
    Calls Try.prog 19 #[.string a, .string b] w fun e w' => e = .returned (.bool v) ∧ Below w.heap.size w w' := by
  cases v
  · exact same_apart a b w (by intro h; subst h; rw [beq_self_eq_true] at hv; cases hv) h8
  · obtain rfl : a = b := toList_inj a b (eq_of_beq hv)
    exact same_self a w h8

/-- The tag of a secret that may be none. -/
theorem tag_pair (k s : ByteArray) (hk : k.size ≤ 140737488354000) (hs : s.size ≤ 140737488354000) : ∃ (a : ByteArray) (e : Int), (a.size : Int) ≤ 32
    ∧ (∀ w, Calls Try.prog 17 #[.string k, .string s] w fun r w' => r = .returned (.tuple #[.string a, .int .i64 e]) ∧ Below w.heap.size w w')
    ∧ (∀ w, Calls Try.prog 18 #[.string k, .string s] w fun r w' => r = .returned (.tuple #[.string a, .int .i64 e]) ∧ Below w.heap.size w w') := by
  cases h : secretOk k
  · refine ⟨⟨#[]⟩, 200, by decide, fun w => (macTag_bad k s w h (by omega)).mono ?_, fun w => (refTag_bad k s w h (by omega)).mono ?_⟩
    · rintro r w' ⟨rfl, rfl⟩; exact ⟨rfl, Below.refl _ _⟩
    · rintro r w' ⟨rfl, rfl⟩; exact ⟨rfl, Below.refl _ _⟩
  · exact ⟨mac k s, 0, by rw [mac_size]; decide, fun w => macTag_ok k s w h hs, fun w => refTag_ok k s w h hs⟩

set_option maxRecDepth 100000 in
set_option maxHeartbeats 400000 in
theorem macs_calls (k s t : ByteArray) (hk : k.size ≤ 140737488351232) (hs : s.size ≤ 140737488351232) (_ht : t.size ≤ 140737488351232) (w : World) :
    Calls Try.prog 8 #[.string k, .string s, .string t] w fun e w' => e = .returned (.bool true) ∧ Below w.heap.size w w' := by
  obtain ⟨a, e, ha, hT, hR⟩ := tag_pair k s (by omega) (by omega)
  obtain ⟨v, hv⟩ : ∃ v, (s.toList == t.toList) = v := ⟨_, rfl⟩
  have HT := Lib.hid hT
  have HR := Lib.hid hR
  have HV := Lib.hid hv
  have HW := Lib.hid hs
  clear hT hR hs hk
  go_enter Try.func8, Try.ntmps8
  go_wp2_with fail
  ((with_reducible refine (HT.out _).mono ?_); rintro e1 w1 ⟨rfl, hb1⟩)
  go_wp2_with fail
  ((with_reducible refine (HR.out _).mono ?_); rintro e1 w2 ⟨rfl, hb2⟩)
  have hb3 := hb1.trans (hb2.mono hb1.size)
  clear hb1 hb2
  go_wp2_with fail
  ((with_reducible refine (lawNum_calls _ _).mono ?_); rintro e1 w4 ⟨rfl, rfl⟩)
  go_wp2_with fail
  ((with_reducible refine (same_is s t _ v HV.out (by have := HW.out; omega)).mono ?_); rintro e1 w4 ⟨rfl, hb4⟩)
  have hb5 := hb3.trans (hb4.mono hb3.size)
  clear hb3 hb4
  go_wp2_with fail
  ((with_reducible refine (same_self s _ (by have := HW.out; omega)).mono ?_); rintro e1 w6 ⟨rfl, hb6⟩)
  have hb7 := hb5.trans (hb6.mono hb5.size)
  clear hb5 hb6
  go_wp2_with fail
  ((with_reducible refine (macAwake_calls _).mono ?_); rintro e1 w8 ⟨rfl, hb8⟩)
  go_wp2_with fail
  go_ret
  exact ⟨rfl, hb7.trans (hb8.mono hb7.size)⟩
end Go.Proofs.Ytmeopnnhoodlaaa
