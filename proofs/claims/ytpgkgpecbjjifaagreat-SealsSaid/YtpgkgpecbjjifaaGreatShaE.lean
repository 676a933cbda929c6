/- The contract of sha.padded. -/
import Derived.Test.YtpgkgpecbjjifaaGreatShaD
import Derived.Test.YtpgkgpecbjjifaaGreatShelf
import Derived.Deep.RegionWith
namespace Go.Proofs.YtpgkgpecbjjifaaGreat
open Go.RowKit Sha

theorem repeat_at (c : Int) (z : Nat) (h : c = z) (w : World) (hz : z ≤ 64) :
    Calls Tryz.prog 115 #[.string ⟨#[0]⟩, .int .i64 c] w fun e w' => ∃ t, e = .returned (.string t) ∧ Hid (t = zeros z) ∧ 0 ≤ (t.size : Int) ∧ (t.size : Int) ≤ 64 ∧ Below w.heap.size w w' := by
  subst h
  have h1 : (ByteArray.mk #[0]).size = 1 := rfl
  refine (Tryz.strings_Repeat ⟨#[0]⟩ z w (by omega) (by rw [h1]; omega)).mono ?_
  rintro e w' ⟨rfl, hb⟩
  have e1 : (ByteArray.mk (Lib.repeatL (ByteArray.mk #[0]).data.toList z).toArray) = zeros z := by
    have := Lib.repeatL_replicate 0 1 z
    simp only [List.replicate_one, Nat.mul_one] at this
    show (ByteArray.mk (Lib.repeatL [0] z).toArray) = zeros z
    rw [this]
    rfl
  refine ⟨_, rfl, e1, by omega, ?_, hb⟩
  rw [e1, zeros_size]
  omega

theorem conv_bytes {w w' : World} {b : Nat} {T : TypeId} {l : List Int} {fr : Nat × Nat} (hq : w.heap[b]? = some (.cells (byts l) T fr)) (hb : Below w.heap.size w w') :
    (convert 140 9 (.slice (some ⟨b, 0, none⟩) l.length l.length)).run Tryz.prog w' = .ok (.string (strOfNums l)) w' := by
  have hlt : b < w.heap.size := (Array.getElem?_eq_some_iff.1 hq).1
  refine run_convert_bytes_arg w' 140 5 Tryz.underlying140 Tryz.underlying5 b 0 l.length l.length l rfl (fun i hi => ?_) 9 Tryz.underlying9
  rw [Nat.zero_add, hb.cell (p := ⟨b, i, none⟩) hlt, cell_of_row w b i _ _ _ hq, byts_get l i hi]

set_option maxRecDepth 100000 in
set_option maxHeartbeats 400000 in
theorem padded_calls (s : ByteArray) (w : World) (hs : s.size ≤ 140737488355000) :
    Calls Tryz.prog 257 #[.string s] w fun e w' => e = .returned (.string (pad s)) ∧ Below w.heap.size w w' := by
  have h0 : (0 : Int) ≤ (s.size : Int) := by omega
  have h1 : (s.size : Int) ≤ 140737488355000 := by omega
  go_enter Tryz.func257, Tryz.ntmps257
  go_wp2_with fail
  go_loopw [6, 16] (fun _ i wr => ∃ k : Nat, k ≤ 8 ∧ i = .int .i64 k ∧ wr.heap[w.heap.size]? = some (.cells (byts (eight ((s.size : Int) * 8) k)) 357 (0, 0)) ∧ Below w.heap.size w wr) (fun _ i _ => 8 - (intOf i).toNat)
  case atStart => exact ⟨0, by omega, rfl, by rw [heap_alloc_new]; rfl, (Below.refl _ _).alloc (Nat.le_refl _) _⟩
  case round =>
    obtain ⟨k, hk, rfl, q0, hb⟩ := hrel
    have Q0 := Lib.hid q0
    clear q0
    by_cases hlt : k < 8
    · have hlt1 : (k : Int) < 8 := by omega
      have f0 : wr.frozen? ⟨w.heap.size, k, none⟩ = false := frozen_of_row wr _ k _ _ Q0.out
      have c0 : wr.cell? ⟨w.heap.size, k, none⟩ = some (.int .u8 ((eight ((s.size : Int) * 8) k).getD k 0)) := by
        rw [cell_of_row wr _ k _ _ _ Q0.out, byts_get _ k (by rw [eight_length]; exact hlt)]
      go_wp2_with fail
      go_roundw
      case rel =>
        refine ⟨k + 1, by omega, by go_num, ?_, hb.setCell (Nat.le_refl _) _⟩
        refine (heap_setCell_same wr _ k _ _ _ Q0.out).trans ?_
        rw [byts_set]
        rfl
      case measure => simp [intOf]; omega
    · obtain rfl : k = 8 := by omega
      have hz : (119 - (s.size : Int)) % 64 = ((119 - s.size % 64) % 64 : Nat) := by omega
      have hzl : (119 - s.size % 64) % 64 ≤ 64 := by omega
      have HZ := Lib.hid hz
      clear hz
      go_wp2_with fail
      obtain ⟨l8, hl8⟩ : ∃ l, l = strOfNums (eight ((s.size : Int) * 8) 8) := ⟨_, rfl⟩
      have L8 := Lib.hid hl8
      have la : 0 ≤ (l8.size : Int) := by omega
      have lb : (l8.size : Int) ≤ 8 := by rw [hl8, strOfNums_size, eight_length]; omega
      have hv : (convert 140 9 (.slice (some ⟨w.heap.size, 0, none⟩) 8 8)).run Tryz.prog wr.drew = .ok (.string l8) wr.drew := by
        rw [hl8]; exact conv_bytes (w := wr.drew) Q0.out (Below.refl _ _)
      clear hl8
      go_region_with (go_simp; go_at_call 115; ((with_reducible refine (repeat_at _ _ HZ.out _ hzl).mono ?_); rintro e w' ⟨t, rfl, ht, ht0, ht1, hb'⟩); have hv' : (convert 140 9 (.slice (some ⟨w.heap.size, 0, none⟩) 8 8)).run Tryz.prog w' = .ok (.string l8) w' := (by rw [L8.out]; exact conv_bytes (w := wr.drew) Q0.out hb'))
      all_goals
        go_wp2_with fail
        go_ret
        exact ⟨by rw [ht.out, L8.out]; rfl, hb.drew.trans (hb'.mono hb.size)⟩
end Go.Proofs.YtpgkgpecbjjifaaGreat
