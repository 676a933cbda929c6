/- The walk of chapter 2's statement MacForms. -/
import Derived.Test.YtmeopnnhoodlaaaMacH
import Derived.Test.YtmeopnnhoodlaaaMacJ
namespace Go.Proofs.Ytmeopnnhoodlaaa
open Go.RowKit Sha

theorem mac_i64_and63 (n : Int) : bits .and .i64 n 63 = n % 64 := by
  have h7 : (BitVec.ofInt 64 63).toNat = 2 ^ 6 - 1 := by decide
  have key : (BitVec.ofInt 64 n &&& BitVec.ofInt 64 63).toNat = (n % ((2 ^ 64 : Nat) : Int)).toNat % 2 ^ 6 := by
    rw [BitVec.toNat_and, BitVec.toNat_ofInt, h7, Nat.and_two_pow_sub_one_eq_mod]
  show IntKind.i64.wrap ((BitVec.ofInt 64 n &&& BitVec.ofInt 64 63).toNat : Nat) = n % 64
  rw [key, IntKind.wrap_i64]
  omega

theorem mac_empty_eq (a : ByteArray) (h : a.size = 32) : (a.toList == ([] : List UInt8)) = false := by
  rw [ByteArray.toList_eq]
  have : a.data.toList.length = 32 := h
  cases e : a.data.toList with
  | nil => rw [e] at this; cases this
  | cons x xs => rfl

theorem append_x_size (a : ByteArray) : a.size ≠ (a ++ ByteArray.mk #[120]).size := by
  rw [ByteArray.size_append, show (ByteArray.mk #[120]).size = 1 from rfl]
  omega

/-- '[]byte(a)', and back. -/
theorem bytes_back (W : World) (a : ByteArray) : ∃ (W' : World) (cp : Nat),
    (convert 9 25 (.string a)).run Try.prog W = .ok (.slice (some ⟨W.heap.size, 0, none⟩) a.size cp) W'
    ∧ (convert 25 9 (.slice (some ⟨W.heap.size, 0, none⟩) a.size cp)).run Try.prog W' = .ok (.string a) W'
    ∧ Below W.heap.size W W' ∧ Hid (∀ j, j < a.size → W'.cell? ⟨W.heap.size, j, none⟩ = some (.int .u8 (byteAt a j)))
    ∧ Hid (∀ j, j < a.size → W'.frozen? ⟨W.heap.size, j, none⟩ = false) := by
  obtain ⟨f1, f2, f3⟩ := bytes_facts W a
  refine ⟨_, _, Lib.run_convert_string_bytes (P := Try.prog) W 9 25 5 a Try.underlying9 Try.underlying25 Try.underlying5, ?_, f3, f1, f2⟩
  have := run_convert_bytes_arg (P := Try.prog) (Lib.bytesWorld W 5 a) 25 5 Try.underlying25 Try.underlying5 W.heap.size 0 a.size (grownCap W a.size 0 5) (numsOf a) (numsOf_length a)
    (fun i hi => by rw [Nat.zero_add, f1 i hi, numsOf_get]) 9 Try.underlying9
  rw [this, strOf_nums]

set_option maxRecDepth 100000 in
set_option maxHeartbeats 400000 in
theorem macForms_calls (n : Int) (s : ByteArray) (hs : s.size ≤ 140737488351232) (w : World) :
    Calls Try.prog 9 #[.int .i64 n, .string s] w fun e w' => e = .returned (.bool true) ∧ Below w.heap.size w w' := by
  have hm0 : 0 ≤ bits .and .i64 n 63 ∧ bits .and .i64 n 63 ≤ 63 := by rw [mac_i64_and63]; omega
  obtain ⟨m, hm⟩ : ∃ m : Nat, bits .and .i64 n 63 = m := ⟨(bits .and .i64 n 63).toNat, by omega⟩
  have hm7 : (m : Int) ≤ 63 := by omega
  have hmk := macMake_bytes m (by omega)
  obtain ⟨Z, hZ, hz⟩ : ∃ Z : List Int, Z = List.replicate m 0 ∧ Z.length = m := ⟨_, rfl, List.length_replicate⟩
  rw [← hZ] at hmk
  have hcv : ∀ W : World, (convert 25 9 (.slice (some ⟨W.heap.size, 0, none⟩) m m)).run Try.prog (W.alloc (.cells (byts Z) 5)) = .ok (.string (strOfNums Z)) (W.alloc (.cells (byts Z) 5)) :=
    fun W => macConv_len (w := W.alloc _) hz (heap_alloc_new _ _) (Below.refl _ _)
  have hus : (strOfNums Z).size = m := by rw [strOfNums_size, hz]
  clear hZ hz hm0
  generalize strOfNums Z = u at *
  have HS := Lib.hid hs
  have HU := Lib.hid hus
  clear hs hus
  by_cases hbad : m < 1 ∨ 32 < m
  · have hT := tag_bad u s ((secretOk_iff_not u).mpr (by have := HU.out; omega)) (by have := HU.out; omega)
    have HT := Lib.hid hT
    clear hT
    go_enter Try.func9, Try.ntmps9
    go_wp2_with fail
    ((with_reducible refine (macAwake_calls _).mono ?_); rintro e1 w1 ⟨rfl, hb1⟩)
    go_wp2_with fail
    ((with_reducible refine (HT.out _).mono ?_); rintro e1 w2 ⟨rfl, hb2⟩)
    have hb3 := (hb1.alloc hb1.size (.cells (byts Z) 5)).trans (hb2.mono (hb1.alloc hb1.size (.cells (byts Z) 5)).size)
    clear hb1 hb2
    by_cases hbad1 : m < 1
    · have hbad2 : (m : Int) < 1 := by omega
      clear hbad hbad1
      go_wp2_with fail
      ((with_reducible refine (lawNum_calls _ _).mono ?_); rintro e1 w5 ⟨rfl, rfl⟩)
      go_wp2_with fail
      go_ret
      exact ⟨rfl, hb3⟩
    · have hbad2 : ¬ (m : Int) < 1 := by omega
      have hbad3 : (32 : Int) < (m : Int) := by omega
      clear hbad hbad1
      go_wp2_with fail
      ((with_reducible refine (lawNum_calls _ _).mono ?_); rintro e1 w5 ⟨rfl, rfl⟩)
      go_wp2_with fail
      go_ret
      exact ⟨rfl, hb3⟩
  · have hT := fun w => macTag_ok u s w ((secretOk_iff u).mpr (by have := HU.out; omega)) (by have := HS.out; omega)
    have a1 : ((mac u s).size : Int) = 32 := by rw [mac_size]; rfl
    have a2 : (mac u s).size = 32 := mac_size _ _
    have HA := Lib.hid a2
    clear a2
    generalize mac u s = a at *
    have HT := Lib.hid hT
    clear hT
    have hbad2 : ¬ (m : Int) < 1 := by omega
    have hbad3 : ¬ (32 : Int) < (m : Int) := by omega
    clear hbad
    go_enter Try.func9, Try.ntmps9
    go_wp2_with fail
    ((with_reducible refine (macAwake_calls _).mono ?_); rintro e1 w1 ⟨rfl, hb1⟩)
    go_wp2_with fail
    ((with_reducible refine (HT.out _).mono ?_); rintro e1 w2 ⟨rfl, hb2⟩)
    have hb3 := (hb1.alloc hb1.size (.cells (byts Z) 5)).trans (hb2.mono (hb1.alloc hb1.size (.cells (byts Z) 5)).size)
    clear hb1 hb2
    go_wp2_with fail
    ((with_reducible refine (lawNum_calls _ _).mono ?_); rintro e1 w5 ⟨rfl, rfl⟩)
    go_wp2_with fail
    ((with_reducible refine (same_unlike a _ _ (by have := HA.out; rw [ByteArray.size_extract]; omega)).mono ?_); rintro e1 w6 ⟨rfl, hb6⟩)
    have hb7 := hb3.trans (hb6.mono hb3.size)
    clear hb3 hb6
    go_wp2_with fail
    ((with_reducible refine (same_unlike a _ _ (append_x_size a)).mono ?_); rintro e1 w6 ⟨rfl, hb6⟩)
    have hb8 := hb7.trans (hb6.mono hb7.size)
    clear hb7 hb6
    obtain ⟨W', cp, q1, q2, q3, _, _⟩ := bytes_back w6 a
    have hb9 := hb8.trans (q3.mono hb8.size)
    go_wp2_with fail
    ((with_reducible refine (same_self a _ (by have := HA.out; omega)).mono ?_); rintro e1 w8 ⟨rfl, hb6⟩)
    go_wp2_with fail
    go_ret
    exact ⟨rfl, hb9.trans (hb6.mono hb9.size)⟩
end Go.Proofs.Ytmeopnnhoodlaaa
