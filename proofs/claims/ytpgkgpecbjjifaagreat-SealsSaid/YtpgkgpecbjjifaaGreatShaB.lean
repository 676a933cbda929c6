/- The contract of sha.spread: a block's words, one a round. -/
import Derived.Test.YtpgkgpecbjjifaaGreatShaA
import Derived.Outline
import Derived.Laws.CopyOwn
namespace Go.Proofs.YtpgkgpecbjjifaaGreat
open Go.RowKit Sha

set_option maxRecDepth 100000 in
set_option maxHeartbeats 400000 in
theorem spread_calls (s : ByteArray) (w : World) (hs : s.size = 64) :
    Calls Tryz.prog 291 #[.string s] w fun e w' => e = .returned (.agg (cells s 64)) ∧ Below w.heap.size w w' := by
  have Hs := Lib.hid hs
  clear hs
  go_enter Tryz.func291, Tryz.ntmps291
  go_wp2
  go_loopw [4, 5, 6, 7, 8, 9] (fun _ _ _ _ _ i wr => ∃ k : Nat, k ≤ 64 ∧ i = .int .i64 k ∧ wr.heap[w.heap.size + 1]? = some (.cells (cells s k) 330 (0, 0))
      ∧ wr.heap[w.heap.size]? = some (.cells (cells s 0) 330 (0, 0)) ∧ Below w.heap.size w wr) (fun _ _ _ _ _ i _ => 64 - (intOf i).toNat)
  case atStart =>
    refine ⟨0, by omega, rfl, ?_, ?_, ?_⟩
    · rw [heap_alloc2_new]; rfl
    · rw [heap_alloc2_old]; rfl
    · exact ((Below.refl _ _).alloc (Nat.le_refl _) _).alloc (by simp) _
  case round =>
    obtain ⟨k, hk, rfl, hc, h2, hb⟩ := hrel
    have HC := Lib.hid hc
    have H2 := Lib.hid h2
    clear hc h2
    have hcell : k < 64 → wr.cell? ⟨w.heap.size + 1, k, none⟩ = some (.int .u32 0) := fun h => by rw [cell_of_row wr _ k _ _ _ HC.out, cells_at s k h]
    have hget : ∀ j, j < k → wr.cell? ⟨w.heap.size + 1, j, none⟩ = some (.int .u32 ((sched s k).getD j 0)) := fun j h => by rw [cell_of_row wr _ j _ _ _ HC.out, cells_get s k j h]
    have hfr : wr.frozen? ⟨w.heap.size + 1, k, none⟩ = false := frozen_of_row wr _ k _ _ HC.out
    have HG := Lib.hid hget
    clear hget
    by_cases h16 : k < 16
    · have hlt : (k : Int) < 64 := by omega
      have hlt2 : (k : Int) < 16 := by omega
      replace hcell := hcell (by omega)
      go_wp2_with fail
      ((with_reducible refine (four_at s _ (4 * k) (by omega) _ (by have := Hs.out; omega) (by have := Hs.out; omega)).mono ?_); rintro e w' ⟨rfl, n, rfl⟩)
      go_wp2_with fail
      go_roundw
      case rel =>
        refine ⟨k + 1, by omega, by go_num, ?_, ?_, ?_⟩
        · refine (heap_setCell_same _ _ k _ _ _ HC.out).trans ?_
          rw [cells_set s k (by omega) _ (by rw [if_pos h16])]
        · exact (heap_setCell_other _ _ _ _ (by simp)).trans H2.out
        · exact (below_drewN hb n).setCell (by simp) _
      case measure => simp [intOf]; omega
    · by_cases hlt : k < 64
      · have hlt1 : (k : Int) < 64 := by omega
        have hge : ¬ (k : Int) < 16 := by omega
        have x15 : IntKind.i64.wrap ((k : Int) - 15) = (k : Int) - 15 := IntWalk.i64_in _ (by omega)
        have x2 : IntKind.i64.wrap ((k : Int) - 2) = (k : Int) - 2 := IntWalk.i64_in _ (by omega)
        have x16 : IntKind.i64.wrap ((k : Int) - 16) = (k : Int) - 16 := IntWalk.i64_in _ (by omega)
        have x7 : IntKind.i64.wrap ((k : Int) - 7) = (k : Int) - 7 := IntWalk.i64_in _ (by omega)
        have y15 : (0 : Int) ≤ (k : Int) - 15 := by omega
        have y2 : (0 : Int) ≤ (k : Int) - 2 := by omega
        have y16 : (0 : Int) ≤ (k : Int) - 16 := by omega
        have y7 : (0 : Int) ≤ (k : Int) - 7 := by omega
        have v7 : (7 : Int) ≤ (k : Int) := by omega
        have v16 : (16 : Int) ≤ (k : Int) := by omega
        have t7 : (k : Int) < 71 := by omega
        have t16 : (k : Int) < 80 := by omega
        have z15 : (k : Int) - 15 < 64 := by omega
        have z2 : (k : Int) - 2 < 64 := by omega
        have z16 : (k : Int) - 16 < 64 := by omega
        have z7 : (k : Int) - 7 < 64 := by omega
        have e16 : ((k : Int) - 16).toNat = k - 16 := by omega
        have e7 : ((k : Int) - 7).toNat = k - 7 := by omega
        have c15 := HG.out (k - 15) (by omega)
        have c2 := HG.out (k - 2) (by omega)
        have c16 := HG.out (k - 16) (by omega)
        have c7 := HG.out (k - 7) (by omega)
        replace hcell := hcell (by omega)
        go_wp2_with fail
        go_quiet (fail)
        go_wp2_with fail
        ((with_reducible refine (rotateLeft32_calls _ _ _ (by decide) (by decide)).mono ?_); rintro e w' ⟨rfl, rfl⟩)
        go_wp2_with fail
        ((with_reducible refine (rotateLeft32_calls _ _ _ (by decide) (by decide)).mono ?_); rintro e w' ⟨rfl, rfl⟩)
        go_wp2_with fail
        ((with_reducible refine (rotateLeft32_calls _ _ _ (by decide) (by decide)).mono ?_); rintro e w' ⟨rfl, rfl⟩)
        go_wp2_with fail
        ((with_reducible refine (rotateLeft32_calls _ _ _ (by decide) (by decide)).mono ?_); rintro e w' ⟨rfl, rfl⟩)
        go_wp2_with fail
        refine region_tail 15 (by kernel_rfl) (by kernel_rfl) ?_
        simp only [List.take_succ_cons, List.take_zero, List.drop_succ_cons, List.drop_zero]
        repeat still_step
        refine wpStill_nil ?_
        go_wp2_with fail
        go_roundw
        case rel =>
          refine ⟨k + 1, by omega, by go_num, ?_, ?_, ?_⟩
          · refine (heap_setCell_same _ _ k _ _ _ HC.out).trans ?_
            rw [cells_set s k (by omega) _ (by rw [if_neg h16]; rfl)]
          · exact (heap_setCell_other _ _ _ _ (by simp)).trans H2.out
          · exact (below_drewN hb _).drew.setCell (by simp) _
        case measure => simp [intOf]; omega
      · have hge : ¬ (k : Int) < 64 := by omega
        obtain rfl : k = 64 := by omega
        go_wp2_with (first | (refine wpList_load_row rfl 330 _ rfl (w.heap.size + 1) rfl 330 (cells s 64) (0, 0) _ HC.out Tryz.underlying330 rfl ?_ ?_; (rw [cells_size s 64 hk]; kernel_rfl)) | (refine wpList_store_row rfl 330 _ _ rfl w.heap.size (cells s 64) rfl rfl 330 (cells s 0) H2.out ?_ ?_ (cells_one s 64) ?_; (rw [cells_size s 64 hk]; kernel_rfl); rw [cells_size s 64 hk, cells_size s 0 (by omega)]))
        refine bodyPost_ret (v := .agg (cells s 64)) (results_cell_row rfl _ _ w.heap.size 330 (cells s 64) (0, 0) _ rfl (setRow_heap _ _ _ _ _ _ H2.out) Tryz.underlying330 rfl ?_) rfl ⟨rfl, ?_⟩
        · rw [cells_size s 64 hk]; kernel_rfl
        · exact below_setRow hb (Nat.le_refl _) _
end Go.Proofs.YtpgkgpecbjjifaaGreat
