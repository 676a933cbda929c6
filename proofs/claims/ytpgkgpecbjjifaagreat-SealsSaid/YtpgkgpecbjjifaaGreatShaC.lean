/- The contract of sha.mix: a block is mixed into a sum. -/
import Derived.Test.YtpgkgpecbjjifaaGreatShaB
namespace Go.Proofs.YtpgkgpecbjjifaaGreat
open Go.RowKit Sha

theorem alloc3 {w w1 : World} {A B C : Obj} (h : Below (((w.alloc A).alloc B).alloc C).heap.size (((w.alloc A).alloc B).alloc C) w1) :
    w1.heap[w.heap.size]? = some A ∧ w1.heap[w.heap.size + 1]? = some B ∧ w1.heap[w.heap.size + 2]? = some C ∧ Below w.heap.size w w1 := by
  have hz : (((w.alloc A).alloc B).alloc C).heap.size = w.heap.size + 3 := by simp
  have e1 : (w.alloc A).heap.size = w.heap.size + 1 := by simp
  have e2 : ((w.alloc A).alloc B).heap.size = w.heap.size + 2 := by simp
  refine ⟨?_, ?_, ?_, ?_⟩
  · rw [h.block _ (by omega), Below.heap_alloc _ _ _ (by omega), Below.heap_alloc _ _ _ (by omega), heap_alloc_new]
  · rw [h.block _ (by omega), Below.heap_alloc _ _ _ (by omega), ← e1, heap_alloc_new]
  · rw [h.block _ (by omega), ← e2, heap_alloc_new]
  · exact ((((Below.refl _ _).alloc (Nat.le_refl _) _).alloc (by omega) _).alloc (by omega) _).trans (h.mono (by omega))

theorem run_index_agg {P : Program} {T E : TypeId} {n : Nat} {cs : Array Value} {v : Value} {k : Nat} (hT : P.underlying T = some (.array n E)) (hk : k < n) (hv : cs[k]? = some v)
    (hE : (P.info? E).map (·.size) = some 1) (ha : ∀ w, (isAgg E).run P w = .ok false w) (w : World) : (Instr.index T (.agg cs) (.int .i64 (k : Int))).run P w = .ok v w := by
  cases hq : P.info? E with
  | none => simp [hq] at hE
  | some i =>
    have hs : i.size = 1 := by simpa [hq] using hE
    simp [Instr.index, asIntOf, run_underlying hT, hk, sizeOf, typeInfo, hq, hs, part, ha, hv]

set_option maxRecDepth 100000 in
set_option maxHeartbeats 400000 in
theorem mix_calls (a b c d e f g p : Int) (s : ByteArray) (R : Nat) (w : World) (hs : s.size = 64) (hR : R < w.heap.size)
    (hK : ∀ j, j < 64 → w.cell? ⟨R, 8 + j, none⟩ = some (.int .u32 (K.getD j 0))) :
    Calls Tryz.prog 258 #[.agg #[.int .u32 a, .int .u32 b, .int .u32 c, .int .u32 d, .int .u32 e, .int .u32 f, .int .u32 g, .int .u32 p], .string s, .pointer (some ⟨R, 8, none⟩)] w
      fun en w' => en = .returned (.agg (ints (mixL [a, b, c, d, e, f, g, p] s))) ∧ Below w.heap.size w w' := by
  have HK := Lib.hid hK
  clear hK
  go_enter Tryz.func258, Tryz.ntmps258
  go_wp2_with fail
  ((with_reducible refine (spread_calls _ _ hs).mono ?_); rintro e w1 ⟨rfl, hb1⟩)
  go_wp2_with fail
  obtain ⟨h0, h1, h2, hb⟩ := alloc3 hb1
  have hagg : ∀ w, (isAgg 215).run Tryz.prog w = .ok false w := fun w => by kernel_rfl
  clear hb1
  go_loopw [8, 9, 10, 11, 12, 13, 14, 15, 16, 17, 22] (fun _ _ _ _ _ _ _ _ _ _ i wr => ∃ (k : Nat) (a' b' c' d' e' f' g' h' : Int), k ≤ 64 ∧ i = .int .i64 k ∧ rnds (sched s 64) [a, b, c, d, e, f, g, p] k = [a', b', c', d', e', f', g', h']
      ∧ wr.heap[w.heap.size]? = some (.cells #[.int .u32 a, .int .u32 b, .int .u32 c, .int .u32 d, .int .u32 e, .int .u32 f, .int .u32 g, .int .u32 p] 329 (0, 0))
      ∧ (∃ z, wr.heap[w.heap.size + 1]? = some (.cells z 329 (0, 0)) ∧ z.size = 8)
      ∧ wr.heap[w.heap.size + 2]? = some (.cells #[.int .u32 a', .int .u32 b', .int .u32 c', .int .u32 d', .int .u32 e', .int .u32 f', .int .u32 g', .int .u32 h'] 329 (0, 0))
      ∧ Below w.heap.size w wr) (fun _ _ _ _ _ _ _ _ _ _ i _ => 64 - (intOf i).toNat)
  case atStart => exact ⟨0, a, b, c, d, e, f, g, p, by omega, rfl, rfl, h0, ⟨_, h1, rfl⟩, h2, hb⟩
  case round =>
    obtain ⟨k, a', b', c', d', e', f', g', h', hk, rfl, hrn, q0, ⟨z, q1, hz⟩, q2, hb'⟩ := hrel
    have Q0 := Lib.hid q0
    have Q1 := Lib.hid q1
    have Q2 := Lib.hid q2
    have RN := Lib.hid hrn
    have HZ := Lib.hid hz
    clear q0 q1 q2 hrn hz h0 h1 h2 hb
    by_cases hlt : k < 64
    · have hlt1 : (k : Int) < 64 := by omega
      have hix := run_index_agg (P := Tryz.prog) Tryz.underlying330 hlt (cells_get s 64 k hlt) (by kernel_rfl) hagg
      have x0 : wr.cell? ⟨w.heap.size + 2, 0, none⟩ = some (.int .u32 a') := cell_of_row wr _ 0 _ _ _ Q2.out
      have x1 : wr.cell? ⟨w.heap.size + 2, 1, none⟩ = some (.int .u32 b') := cell_of_row wr _ 1 _ _ _ Q2.out
      have x2 : wr.cell? ⟨w.heap.size + 2, 2, none⟩ = some (.int .u32 c') := cell_of_row wr _ 2 _ _ _ Q2.out
      have x3 : wr.cell? ⟨w.heap.size + 2, 3, none⟩ = some (.int .u32 d') := cell_of_row wr _ 3 _ _ _ Q2.out
      have x4 : wr.cell? ⟨w.heap.size + 2, 4, none⟩ = some (.int .u32 e') := cell_of_row wr _ 4 _ _ _ Q2.out
      have x5 : wr.cell? ⟨w.heap.size + 2, 5, none⟩ = some (.int .u32 f') := cell_of_row wr _ 5 _ _ _ Q2.out
      have x6 : wr.cell? ⟨w.heap.size + 2, 6, none⟩ = some (.int .u32 g') := cell_of_row wr _ 6 _ _ _ Q2.out
      have x7 : wr.cell? ⟨w.heap.size + 2, 7, none⟩ = some (.int .u32 h') := cell_of_row wr _ 7 _ _ _ Q2.out
      have xk : wr.cell? ⟨R, 8 + k, none⟩ = some (.int .u32 (K.getD k 0)) := (hb'.cell (p := ⟨R, 8 + k, none⟩) hR).trans (HK.out k hlt)
      go_wp2_with fail
      go_quiet (fail)
      go_wp2_with fail
      go_quiet ((go_at_call 292; exact drew_later (drew_of_same fun W => shaTurned_calls _ _ _ _ W (by decide) (by decide) (by decide) (by decide) (by decide) (by decide))))
      go_wp2_with fail
      ((with_reducible refine (shaTurned_calls _ _ _ _ _ (by decide) (by decide) (by decide) (by decide) (by decide) (by decide)).mono ?_); rintro er w' ⟨rfl, rfl⟩)
      go_wp2_with ((with_reducible show wpList _ _ _ (Oper.mk none (Op.store _ _ _) _ _ _ _ :: _) _ _); go_must (refine wpList_store_row rfl 329 _ _ rfl (w.heap.size + 2) _ rfl rfl 329 _ Q2.out ?_ ?_ ?_ ?_); kernel_rfl; kernel_rfl; kernel_rfl)
      go_roundw
      case rel =>
        refine ⟨k + 1, _, a', b', c', _, e', f', g', by omega, by go_num, ?_, ?_, ⟨z, ?_, HZ.out⟩, setRow_heap _ _ _ _ _ _ Q2.out, below_setRow (below_drewN hb' _) (by omega) _⟩
        · show rnd _ _ (rnds _ _ k) = _
          rw [RN.out]
          rfl
        · exact (setRow_other _ _ _ _ (by omega)).trans Q0.out
        · exact (setRow_other _ _ _ _ (by omega)).trans Q1.out
      case measure => simp [intOf]; omega
    · obtain rfl : k = 64 := by omega
      rw [show (((64 : Nat) : Int)) = 64 from rfl]
      go_wp2_with fail
      obtain ⟨V, hV⟩ : ∃ V : List Int, V = [a, b, c, d, e, f, g, p] := ⟨_, rfl⟩
      obtain ⟨X, hX⟩ : ∃ X : List Int, X = [a', b', c', d', e', f', g', h'] := ⟨_, rfl⟩
      have HV := Lib.hid hV
      have HX := Lib.hid hX
      have hlv : V.length = 8 := by rw [hV]; rfl
      have hlx : X.length = 8 := by rw [hX]; rfl
      have LV := Lib.hid hlv
      have LX := Lib.hid hlx
      clear hV hX hlv hlx
      go_loopw [18, 89] (fun _ i ws => ∃ k : Nat, k ≤ 8 ∧ i = .int .i64 k
          ∧ ws.heap[w.heap.size]? = some (.cells (ints (addTo V X k)) 329 (0, 0))
          ∧ ws.heap[w.heap.size + 1]? = some (.cells z 329 (0, 0))
          ∧ ws.heap[w.heap.size + 2]? = some (.cells (ints X) 329 (0, 0))
          ∧ Below w.heap.size w ws) (fun _ i _ => 8 - (intOf i).toNat)
      case atStart => exact ⟨0, by omega, rfl, by rw [HV.out]; exact Q0.out, Q1.out, by rw [HX.out]; exact Q2.out, hb'⟩
      case round =>
        obtain ⟨k, hk8, rfl, q0, q1, q2, hb2⟩ := hrel
        have P0 := Lib.hid q0
        have P1 := Lib.hid q1
        have P2 := Lib.hid q2
        clear q0 q1 q2 Q0 Q1 Q2 hb'
        by_cases hlt : k < 8
        · have hlt1 : (k : Int) < 8 := by omega
          have x0 : wr.cell? ⟨w.heap.size, k, none⟩ = some (.int .u32 ((addTo V X k).getD k 0)) := by
            rw [cell_of_row wr _ k _ _ _ P0.out, ints_get _ k (by rw [addTo_length, LV.out]; exact hlt)]
          have x2 : wr.cell? ⟨w.heap.size + 2, k, none⟩ = some (.int .u32 (X.getD k 0)) := by
            rw [cell_of_row wr _ k _ _ _ P2.out, ints_get _ k (by rw [LX.out]; exact hlt)]
          have f0 : wr.frozen? ⟨w.heap.size, k, none⟩ = false := frozen_of_row wr _ k _ _ P0.out
          go_wp2_with fail
          refine region_tail 8 (by kernel_rfl) (by kernel_rfl) ?_
          simp only [List.take_succ_cons, List.take_zero, List.drop_succ_cons, List.drop_zero]
          repeat still_step
          refine wpStill_nil ?_
          go_wp2_with fail
          go_roundw
          case rel =>
            refine ⟨k + 1, by omega, by go_num, ?_, ?_, ?_, ?_⟩
            · refine (heap_setCell_same wr _ k _ _ _ P0.out).trans ?_
              rw [ints_set]
              rfl
            · exact (heap_setCell_other wr _ _ _ (by simp)).trans P1.out
            · exact (heap_setCell_other wr _ _ _ (by simp)).trans P2.out
            · exact (hb2.setCell (Nat.le_refl _) _).drew
          case measure => simp [intOf]; omega
        · obtain rfl : k = 8 := by omega
          have hsz : (ints (addTo V X 8)).size = 8 := by rw [ints_size, addTo_length, LV.out]
          have HS := Lib.hid hsz
          clear hsz
          go_wp2_with (first | ((with_reducible show wpList _ _ _ (Oper.mk _ (Op.load _ _) _ _ _ _ :: _) _ _); refine wpList_load_row rfl 329 _ rfl w.heap.size rfl 329 (ints (addTo V X 8)) (0, 0) _ P0.out Tryz.underlying329 rfl ?_ ?_; (rw [HS.out]; kernel_rfl)) | ((with_reducible show wpList _ _ _ (Oper.mk none (Op.store _ _ _) _ _ _ _ :: _) _ _); refine wpList_store_row rfl 329 _ _ rfl (w.heap.size + 1) (ints (addTo V X 8)) rfl rfl 329 z P1.out ?_ ?_ (ints_one _) ?_; (rw [HS.out]; kernel_rfl); (rw [HS.out, HZ.out])))
          refine bodyPost_ret (v := .agg (ints (addTo V X 8))) (results_cell_row rfl _ _ (w.heap.size + 1) 329 (ints (addTo V X 8)) (0, 0) _ rfl (setRow_heap _ _ _ _ _ _ P1.out) Tryz.underlying329 rfl ?_) rfl ⟨?_, ?_⟩
          · rw [HS.out]; kernel_rfl
          · rw [HV.out, HX.out, ← RN.out]; rfl
          · exact below_setRow hb2 (by omega) _
end Go.Proofs.YtpgkgpecbjjifaaGreat
