/- The contracts of package mac. -/
import Derived.Test.YtpgkgpecbjjifaaGreatMacP
import Derived.Test.YtpgkgpecbjjifaaGreatShaG
import Derived.Lib.ConvBytes
namespace Go.Proofs.YtpgkgpecbjjifaaGreat
open Go.RowKit Sha

/-- '[]byte(s)': the bytes of a new row. -/
theorem bytes_facts (w : World) (s : ByteArray) :
    (∀ j, j < s.size → (Lib.bytesWorld w 5 s).cell? ⟨w.heap.size, j, none⟩ = some (.int .u8 (byteAt s j))) ∧
    (∀ j, j < s.size → (Lib.bytesWorld w 5 s).frozen? ⟨w.heap.size, j, none⟩ = false) ∧
    Below w.heap.size w (Lib.bytesWorld w 5 s) := by
  refine ⟨fun j hj => ?_, fun j hj => ?_, ⟨rfl, rfl, rfl, ?_, fun k hk => Lib.bytesWorld_at_old w _ s k hk⟩⟩
  · rw [Lib.bytesWorld_cell w _ s j hj, List.getD_eq_getElem?_getD, Array.getElem?_toList]
    rfl
  · have h := Lib.bytesWorld_at_new w 5 s
    have hz : s.size ≤ (Lib.bytesCells w 5 s).size := by
      simp only [Lib.bytesCells, Array.size_append, Array.size_map]
      exact Nat.le_add_right _ _
    simp only [World.frozen?, h]
    have : ¬ (Lib.bytesCells w 5 s).size ≤ j := by omega
    simp [this]
  · rw [Lib.bytesWorld_size]; omega

set_option maxRecDepth 100000 in
set_option maxHeartbeats 400000 in
theorem macTurned_calls (s : ByteArray) (b : Int) (w : World) (hs : s.size ≤ 1000) :
    Calls Tryz.prog 199 #[.string s, .int .u8 b] w fun e w' => e = .returned (.string (turn s b)) ∧ Below w.heap.size w w' := by
  have h1 : (s.size : Int) ≤ 1000 := by omega
  have hcv := Lib.run_convert_string_bytes (P := Tryz.prog) w 9 140 5 s Tryz.underlying9 Tryz.underlying140 Tryz.underlying5
  obtain ⟨f1, f2, f3⟩ := bytes_facts w s
  have F1 := Lib.hid f1
  have F2 := Lib.hid f2
  clear f1 f2
  generalize Lib.bytesWorld w 5 s = w1 at *
  generalize grownCap w s.size 0 5 = cp at *
  go_enter Tryz.func199, Tryz.ntmps199
  go_wp2_with fail
  go_loopw [6, 11] (fun _ i wr => ∃ k : Nat, k ≤ s.size ∧ i = .int .i64 k ∧ (∀ j, j < s.size → wr.cell? ⟨w.heap.size, j, none⟩ = some (.int .u8 (turnAt s b k j)))
      ∧ (∀ j, j < s.size → wr.frozen? ⟨w.heap.size, j, none⟩ = false) ∧ Below w.heap.size w wr) (fun _ i _ => s.size - (intOf i).toNat)
  case atStart => exact ⟨0, Nat.zero_le _, rfl, fun j hj => (F1.out j hj).trans (by rw [turnAt, if_neg (by omega)]), F2.out, f3⟩
  case round =>
    obtain ⟨k, hk, rfl, g1, g2, hb⟩ := hrel
    have G1 := Lib.hid g1
    have G2 := Lib.hid g2
    clear g1 g2
    by_cases hlt : k < s.size
    · have hlt1 : (k : Int) < (s.size : Int) := by omega
      have c0 : wr.cell? ⟨w.heap.size, k, none⟩ = some (.int .u8 (byteAt s k)) := by rw [G1.out k hlt, turnAt, if_neg (by omega)]
      have c1 := G2.out k hlt
      go_wp2_with fail
      go_roundw
      case rel =>
        refine ⟨k + 1, hlt, by go_num, fun j hj => ?_, fun j hj => ?_, hb.setCell (Nat.le_refl _) _⟩
        · by_cases e : j = k
          · subst e
            rw [World.cell?_setCell_same _ _ _ c0, turnAt, if_pos (by omega)]
          · rw [World.cell?_setCell_other _ _ _ _ (by intro h; injection h; omega), G1.out j hj, turnAt_other s b k j e]
        · rw [World.frozen?_setCell]; exact G2.out j hj
      case measure => simp [intOf]; omega
    · obtain rfl : k = s.size := by omega
      have hv := run_convert_bytes_arg (P := Tryz.prog) wr 140 5 Tryz.underlying140 Tryz.underlying5 w.heap.size 0 s.size cp (turnL s b) (turnL_length s b)
        (fun i hi => by rw [Nat.zero_add, G1.out i hi, turnL_get s b i hi, turnAt, if_pos hi]) 9 Tryz.underlying9
      go_wp2_with fail
      go_ret
      exact ⟨rfl, hb⟩

set_option maxRecDepth 100000 in
set_option maxHeartbeats 400000 in
theorem secret_calls (s : ByteArray) (w : World) (hs : s.size ≤ 9223372036854775807) :
    Calls Tryz.prog 134 #[.string s] w fun e w' => e = .returned (.bool (secretOk s)) ∧ w = w' := by
  have h0 : (s.size : Int) ≤ 9223372036854775807 := by omega
  by_cases h1 : 1 ≤ s.size
  · by_cases h2 : s.size ≤ 32
    · have a1 : (1 : Int) ≤ (s.size : Int) := by omega
      have a2 : (s.size : Int) ≤ 32 := by omega
      have hd : secretOk s = true := secretOk_true s h1 h2
      have HD := Lib.hid hd
      clear hd h1 h2 hs
      go_enter Tryz.func134, Tryz.ntmps134
      go_wp2
      go_ret
      exact ⟨by rw [HD.out]; rfl, rfl⟩
    · have a1 : (1 : Int) ≤ (s.size : Int) := by omega
      have a2 : ¬ (s.size : Int) ≤ 32 := by omega
      have hd : secretOk s = false := secretOk_long s h2
      have HD := Lib.hid hd
      clear hd h1 h2 hs
      go_enter Tryz.func134, Tryz.ntmps134
      go_wp2
      go_ret
      exact ⟨by rw [HD.out]; rfl, rfl⟩
  · have a1 : ¬ (1 : Int) ≤ (s.size : Int) := by omega
    have hd : secretOk s = false := secretOk_none s h1
    have HD := Lib.hid hd
    clear hd h1 hs
    go_enter Tryz.func134, Tryz.ntmps134
    go_wp2
    go_ret
    exact ⟨by rw [HD.out]; rfl, rfl⟩
end Go.Proofs.YtpgkgpecbjjifaaGreat
