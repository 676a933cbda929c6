/- The contract of chapter 2's inner. -/
import Derived.Test.YtmeopnnhoodlaaaMacE
namespace Go.Proofs.Ytmeopnnhoodlaaa
open Go.RowKit Sha

set_option maxRecDepth 100000 in
set_option maxHeartbeats 400000 in
theorem inner_calls (k : ByteArray) (b : Int) (w : World) (hk : k.size ≤ 64) :
    Calls Try.prog 21 #[.string k, .int .u8 b] w fun e w' => e = .returned (.string (turn (block64 k) b)) ∧ Below w.heap.size w w' := by
  have h1 : (k.size : Int) ≤ 64 := by omega
  obtain ⟨Z, hZ, hz⟩ : ∃ Z : List Int, Z = List.replicate 64 0 ∧ Z.length = 64 := ⟨_, rfl, List.length_replicate⟩
  have hmk := macMake_64
  rw [← hZ] at hmk
  have hcv : ∀ W : World, (convert 25 9 (.slice (some ⟨W.heap.size, 0, none⟩) 64 64)).run Try.prog (W.alloc (.cells (byts Z) 5)) = .ok (.string (strOfNums Z)) (W.alloc (.cells (byts Z) 5)) :=
    fun W => macConv_len (w := W.alloc _) hz (heap_alloc_new _ _) (Below.refl _ _)
  have hzz : strOfNums Z = zeros 64 := by rw [hZ, nums_zeros]
  obtain ⟨S, hS⟩ : ∃ S, S = k ++ strOfNums Z := ⟨_, rfl⟩
  have hadd : ∀ w, (Op.stringOp .add k (strOfNums Z)).run Try.prog w = .ok (.string S) w := fun w => by
    rw [run_string_add_sum w _ _ (by rw [hzz, zeros_size]; omega), hS]
  have s1 : (S.size : Int) = k.size + 64 := by rw [hS, hzz, ByteArray.size_append, zeros_size]; omega
  have hb0 : ∀ j, byteAt S j = byteAt (block64 k) j := fun j => by rw [hS, hzz, byteAt_zeros64]
  have HB := Lib.hid hb0
  clear hb0 hS hzz hZ hz hk
  generalize strOfNums Z = z at *
  obtain ⟨W1, hW1⟩ : ∃ W1 : World, W1 = w.alloc (.cells (byts Z) 5) := ⟨_, rfl⟩
  have hcs := Lib.run_convert_string_bytes (P := Try.prog) W1 9 25 5 S Try.underlying9 Try.underlying25 Try.underlying5
  obtain ⟨f1, f2, f3⟩ := bytes_facts W1 S
  have hR : W1.heap.size = w.heap.size + 1 := by rw [hW1, World.size_alloc]
  have hsz1 : w.heap.size ≤ W1.heap.size := by omega
  have hcp0 := grownCap_ge W1 S.size 0 5
  have f4 : Below w.heap.size w W1 := by rw [hW1]; exact (Below.refl _ _).alloc (Nat.le_refl _) _
  have f5 := f4.trans (f3.mono hsz1)
  rw [hR] at f1 f2 hcs
  have F1 := Lib.hid f1
  have F2 := Lib.hid f2
  clear f1 f2 f3 f4
  generalize Lib.bytesWorld W1 5 S = w1 at *
  generalize grownCap W1 S.size 0 5 = cp at *
  rw [hW1] at hcs
  clear hW1 hR hsz1
  have hcp1 : (64 : Int) ≤ cp := by omega
  clear hcp0
  have s2 : 64 ≤ S.size := by omega
  go_enter Try.func21, Try.ntmps21
  go_wp2_with fail
  have hbs : (block64 k).size = 64 := block64_size k (by omega)
  clear hmk hcv hadd hcs
  go_loopw [6] (fun i wr => ∃ n : Nat, n ≤ 64 ∧ i = .int .i64 n ∧ (∀ j, j < 64 → wr.cell? ⟨w.heap.size + 1, j, none⟩ = some (.int .u8 (turnAt (block64 k) b n j)))
      ∧ (∀ j, j < 64 → wr.frozen? ⟨w.heap.size + 1, j, none⟩ = false) ∧ Below w.heap.size w wr) (fun i _ => 64 - (intOf i).toNat)
  case atStart => exact ⟨0, by omega, rfl, fun j hj => (F1.out j (by omega)).trans (by rw [turnAt, if_neg (by omega), HB.out]), fun j hj => F2.out j (by omega), f5⟩
  case round =>
    obtain ⟨n, hk, rfl, g1, g2, hb⟩ := hrel
    have G1 := Lib.hid g1
    have G2 := Lib.hid g2
    clear g1 g2
    by_cases hlt : n < 64
    · have hlt1 : (n : Int) < 64 := by omega
      have c0 : wr.cell? ⟨w.heap.size + 1, n, none⟩ = some (.int .u8 (byteAt (block64 k) n)) := by rw [G1.out n hlt, turnAt, if_neg (by omega)]
      have c1 := G2.out n hlt
      go_wp2_with fail
      go_roundw
      case rel =>
        refine ⟨n + 1, hlt, by go_num, fun j hj => ?_, fun j hj => ?_, hb.setCell (Nat.le_succ _) _⟩
        · by_cases e : j = n
          · subst e
            rw [World.cell?_setCell_same _ _ _ c0, turnAt, if_pos (by omega)]
          · rw [World.cell?_setCell_other _ _ _ _ (by intro h; injection h; omega), G1.out j hj, turnAt_other (block64 k) b n j e]
        · rw [World.frozen?_setCell]; exact G2.out j hj
      case measure => simp [intOf]; omega
    · obtain rfl : n = 64 := by omega
      rw [show (((64 : Nat) : Int)) = 64 from rfl]
      have hv := run_convert_bytes_arg (P := Try.prog) wr 25 5 Try.underlying25 Try.underlying5 (w.heap.size + 1) 0 64 cp (turnL (block64 k) b) (by rw [turnL_length, hbs])
        (fun i hi => by rw [Nat.zero_add, G1.out i hi, turnL_get (block64 k) b i (by omega), turnAt, if_pos hi]) 9 Try.underlying9
      go_wp2_with fail
      go_ret
      exact ⟨rfl, hb⟩
end Go.Proofs.Ytmeopnnhoodlaaa
