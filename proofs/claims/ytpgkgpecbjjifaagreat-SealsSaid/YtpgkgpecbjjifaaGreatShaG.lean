/- The contract of sha.Sum. -/
import Derived.Test.YtpgkgpecbjjifaaGreatShaQ
import Derived.Test.YtpgkgpecbjjifaaGreatShaF
namespace Go.Proofs.YtpgkgpecbjjifaaGreat
open Go.RowKit Sha

theorem cells_new (w : World) (l : List Value) (t : TypeId) : ∀ j u, l[j]? = some u → (w.alloc (.cells l.toArray t)).cell? ((⟨w.heap.size, 0, none⟩ : Addr).add j) = some u := by
  intro j u hj
  have hadd : (⟨w.heap.size, 0, none⟩ : Addr).add j = ⟨w.heap.size, j, none⟩ := by unfold Addr.add; split <;> simp_all
  rw [hadd, cell_of_row _ _ j _ _ _ (heap_alloc_new w _), List.getElem?_toArray, hj]

theorem toList_isEmpty (s : ByteArray) : s.toList.isEmpty = decide (s.size = 0) := by
  rw [ByteArray.toList_eq]
  cases h : s.data.toList <;> simp [ByteArray.size, ← Array.length_toList, h]

theorem table_at (w : World) (B j : Nat) (T : TypeId) (fr : Nat × Nat) (h : w.heap[B]? = some (.cells (ints (first ++ K)) T fr)) (hj : j < 64) : w.cell? ⟨B, 8 + j, none⟩ = some (.int .u32 (K.getD j 0)) := by
  rw [cell_of_row w B _ _ _ _ h, ints_get _ _ (by show 8 + j < 72; omega)]
  rw [List.getD_eq_getElem?_getD, List.getElem?_append_right (by show 8 ≤ 8 + j; omega), show 8 + j - first.length = j by show 8 + j - 8 = j; omega]
  rfl

set_option maxRecDepth 100000 in
set_option maxHeartbeats 400000 in
theorem sum_calls (s : ByteArray) (w : World) (hs : s.size ≤ 140737488355000) :
    Calls Tryz.prog 198 #[.string s] w fun e w' => e = .returned (.string (sha s)) ∧ Below w.heap.size w w' := by
  go_enter Tryz.func198, Tryz.ntmps198
  go_wp2_with fail
  ((with_reducible refine (all_calls _).mono ?_); rintro e w1 ⟨rfl, hw1⟩)
  have hb1 : Below w.heap.size w w1 := by rw [← hw1]; exact (Below.refl _ _).alloc (Nat.le_refl _) _
  have q1 : w1.heap[w.heap.size]? = some (.cells (ints (first ++ K)) 332 (0, 0)) := by rw [← hw1]; exact heap_alloc_new _ _
  have hz1 : w.heap.size < w1.heap.size := by rw [← hw1]; simp
  clear hw1
  have Q1 := Lib.hid q1
  clear q1
  have x0 : w1.cell? ⟨w.heap.size, 0, none⟩ = some (.int .u32 1779033703) := cell_of_row w1 _ 0 _ _ _ Q1.out
  have x1 : w1.cell? ⟨w.heap.size, 1, none⟩ = some (.int .u32 3144134277) := cell_of_row w1 _ 1 _ _ _ Q1.out
  have x2 : w1.cell? ⟨w.heap.size, 2, none⟩ = some (.int .u32 1013904242) := cell_of_row w1 _ 2 _ _ _ Q1.out
  have x3 : w1.cell? ⟨w.heap.size, 3, none⟩ = some (.int .u32 2773480762) := cell_of_row w1 _ 3 _ _ _ Q1.out
  have x4 : w1.cell? ⟨w.heap.size, 4, none⟩ = some (.int .u32 1359893119) := cell_of_row w1 _ 4 _ _ _ Q1.out
  have x5 : w1.cell? ⟨w.heap.size, 5, none⟩ = some (.int .u32 2600822924) := cell_of_row w1 _ 5 _ _ _ Q1.out
  have x6 : w1.cell? ⟨w.heap.size, 6, none⟩ = some (.int .u32 528734635) := cell_of_row w1 _ 6 _ _ _ Q1.out
  have x7 : w1.cell? ⟨w.heap.size, 7, none⟩ = some (.int .u32 1541459225) := cell_of_row w1 _ 7 _ _ _ Q1.out
  go_wp2_with fail
  ((with_reducible refine (padded_calls _ _ hs).mono ?_); rintro e w2 ⟨rfl, hb2⟩)
  have q2 : w2.heap[w.heap.size]? = some (.cells (ints (first ++ K)) 332 (0, 0)) := by
    rw [hb2.block _ (by simp; omega), Below.heap_alloc _ _ _ hz1]; exact Q1.out
  have p2 : w2.heap[w1.heap.size]? = some (.cells (ints first) 329 (0, 0)) := by
    rw [hb2.block _ (by simp), heap_alloc_new]; rfl
  have hb : Below w.heap.size w w2 := (hb1.alloc hb1.size _).trans (hb2.mono (by simp; omega))
  clear hb2 x0 x1 x2 x3 x4 x5 x6 x7
  obtain ⟨T, hT⟩ : ∃ T, T = pad s := ⟨_, rfl⟩
  have hTs := pad_size s
  have hTb := pad_blocks s
  rw [← hT] at hTs hTb ⊢
  obtain ⟨n, hn⟩ : ∃ n, n = T.size / 64 := ⟨_, rfl⟩
  rw [← hn] at hTb
  have hTl : T.size ≤ 140737488355100 := by omega
  have HT := Lib.hid hT
  have HN := Lib.hid hn
  have HB := Lib.hid hTb
  have Q2 := Lib.hid q2
  have P2 := Lib.hid p2
  clear hT hTs hTb hn Q1 q2 p2 hb1
  go_wp2_with fail
  go_loopw [5] (fun r wr => ∃ (k : Nat) (R : ByteArray), k ≤ n ∧ r = .string R ∧ R = T.extract (64 * k) T.size
      ∧ wr.heap[w.heap.size]? = some (.cells (ints (first ++ K)) 332 (0, 0))
      ∧ wr.heap[w1.heap.size]? = some (.cells (ints (sums T k)) 329 (0, 0)) ∧ Below w.heap.size w wr) (fun r _ => match r with | .string R => R.size | _ => 0)
  case atStart => exact ⟨0, T, Nat.zero_le _, rfl, (ByteArray.extract_zero_size).symm, Q2.out, P2.out, hb⟩
  case round =>
    obtain ⟨k, R, hk, rfl, hR, q3, p3, hb3⟩ := hrel
    have hRs : R.size = T.size - 64 * k := by rw [hR, ByteArray.size_extract]; omega
    have Q3 := Lib.hid q3
    have P3 := Lib.hid p3
    have HR := Lib.hid hR
    have RS := Lib.hid hRs
    clear hR hRs q3 p3 Q2 P2 hb
    by_cases hlt : k < n
    · have hE : R.toList.isEmpty = false := by
        rw [toList_isEmpty, RS.out]
        have := HB.out
        simp
        omega
      have r64 : 64 ≤ (R.size : Int) := by have := RS.out; have := HB.out; omega
      have r65 : 64 ≤ R.size := by omega
      obtain ⟨a, b, c, d, e, f, g, p, hv⟩ := of_eight (sums_length T k)
      have HV := Lib.hid hv
      clear hv
      have hx : ∀ j v, (ints [a, b, c, d, e, f, g, p])[j]? = some v → wr.cell? ⟨w1.heap.size, j, none⟩ = some v := fun j v h => by
        rw [cell_of_row wr _ j _ _ _ P3.out, HV.out]; exact h
      have x0 : wr.cell? ⟨w1.heap.size, 0, none⟩ = some (.int .u32 a) := hx 0 _ rfl
      have x1 : wr.cell? ⟨w1.heap.size, 1, none⟩ = some (.int .u32 b) := hx 1 _ rfl
      have x2 : wr.cell? ⟨w1.heap.size, 2, none⟩ = some (.int .u32 c) := hx 2 _ rfl
      have x3 : wr.cell? ⟨w1.heap.size, 3, none⟩ = some (.int .u32 d) := hx 3 _ rfl
      have x4 : wr.cell? ⟨w1.heap.size, 4, none⟩ = some (.int .u32 e) := hx 4 _ rfl
      have x5 : wr.cell? ⟨w1.heap.size, 5, none⟩ = some (.int .u32 f) := hx 5 _ rfl
      have x6 : wr.cell? ⟨w1.heap.size, 6, none⟩ = some (.int .u32 g) := hx 6 _ rfl
      have x7 : wr.cell? ⟨w1.heap.size, 7, none⟩ = some (.int .u32 p) := hx 7 _ rfl
      clear hx
      go_wp2_with fail
      refine region_tail 6 (by kernel_rfl) (by kernel_rfl) ?_
      simp only [List.take_succ_cons, List.take_zero, List.drop_succ_cons, List.drop_zero]
      repeat still_step
      refine wpStill_nil ?_
      have hxs : (R.extract 0 64).size = 64 := by rw [ByteArray.size_extract]; omega
      have HXS := Lib.hid hxs
      clear hxs
      go_wp2_with fail
      ((with_reducible refine (mix_calls a b c d e f g p _ _ wr.drew HXS.out (Array.getElem?_eq_some_iff.1 Q3.out).1 (fun j hj => table_at wr.drew _ j _ _ Q3.out hj)).mono ?_); rintro er w3 ⟨rfl, hb4⟩)
      have hlt3 : w1.heap.size < wr.drew.heap.size := (Array.getElem?_eq_some_iff.1 P3.out).1
      have hltw : w.heap.size < wr.drew.heap.size := (Array.getElem?_eq_some_iff.1 Q3.out).1
      have q4 : w3.heap[w.heap.size]? = some (.cells (ints (first ++ K)) 332 (0, 0)) := (hb4.block _ hltw).trans Q3.out
      have p4 : w3.heap[w1.heap.size]? = some (.cells (ints (sums T k)) 329 (0, 0)) := (hb4.block _ hlt3).trans P3.out
      have hb5 : Below w.heap.size w w3 := hb3.drew.trans (hb4.mono hb3.size)
      have Q4 := Lib.hid q4
      have P4 := Lib.hid p4
      have hms : (ints (mixL [a, b, c, d, e, f, g, p] (R.extract 0 64))).size = 8 := by rw [ints_size, mixL_length]; rfl
      have HM := Lib.hid hms
      have hss : (ints (sums T k)).size = 8 := by rw [ints_size, sums_length]
      have HS := Lib.hid hss
      clear q4 p4 hms hss x0 x1 x2 x3 x4 x5 x6 x7 hb3 hb4
      go_wp2_with ((with_reducible show wpList _ _ _ (Oper.mk none (Op.store _ _ _) _ _ _ _ :: _) _ _); refine wpList_store_row rfl 329 _ _ rfl w1.heap.size (ints (mixL [a, b, c, d, e, f, g, p] (R.extract 0 64))) rfl rfl 329 (ints (sums T k)) P4.out ?_ ?_ (ints_one _) ?_; (rw [HM.out]; kernel_rfl); (rw [HM.out, HS.out]))
      go_roundw
      case rel =>
        refine ⟨k + 1, _, hlt, rfl, ?_, (setRow_other _ _ _ _ (by omega)).trans Q4.out, ?_, below_setRow hb5 (by omega) _⟩
        · have hB := HB.out
          rw [HR.out, ByteArray.extract_extract, ByteArray.size_extract, show 64 * k + 64 = 64 * (k + 1) by omega, show min (64 * k + (min T.size T.size - 64 * k)) T.size = T.size by omega]
        · rw [setRow_heap _ _ _ _ _ _ P4.out, sums, HV.out, HR.out, ByteArray.extract_extract]
          have hB := HB.out
          rw [show min (64 * k + 64) T.size = 64 * k + 64 by omega, Nat.add_zero]
      case measure =>
        simp [ByteArray.size_extract]
        omega
    · have hE : R.toList.isEmpty = true := by
        rw [toList_isEmpty, RS.out]
        have := HB.out
        obtain rfl : k = n := by omega
        simp
        omega
      have hsz : (ints (sums T k)).size = 8 := by rw [ints_size, sums_length]
      have HS := Lib.hid hsz
      clear hsz
      go_wp2_with ((with_reducible show wpList _ _ _ (Oper.mk _ (Op.load _ _) _ _ _ _ :: _) _ _); refine wpList_load_row rfl 329 _ rfl w1.heap.size rfl 329 (ints (sums T k)) (0, 0) _ P3.out Tryz.underlying329 rfl ?_ ?_; (rw [HS.out]; kernel_rfl))
      obtain ⟨i0, hi, hz0, hz1', hz2⟩ := info_parts info_u8
      have HI := Lib.hid hi
      have Z0 := Lib.hid hz0
      have Z1 := Lib.hid hz1'
      have Z2 := Lib.hid hz2
      have hagg : ∀ w, (isAgg 215).run Tryz.prog w = .ok false w := fun w => by kernel_rfl
      obtain ⟨L, hL⟩ : ∃ L, L = sums T k := ⟨_, rfl⟩
      rw [← hL]
      have HL := Lib.hid hL
      have hLl : L.length = 8 := by rw [hL, sums_length]
      have LL := Lib.hid hLl
      clear hi hz0 hz1' hz2 hL hLl
      go_loopw [6, 8, 28] (fun v _ i ws => ∃ j : Nat, j ≤ 8 ∧ i = .int .i64 j ∧ ws.ownsRow w.heap.size 5 1 v (4 * j) ((wordsTo L j).map (Value.int .u8)) ∧ Below w.heap.size w ws) (fun _ _ i _ => 8 - (intOf i).toNat)
      case atStart => exact ⟨0, by omega, rfl, ⟨rfl, .inl ⟨rfl, rfl⟩⟩, hb3⟩
      case round =>
        obtain ⟨j, hj, rfl, hown, hb4⟩ := hrel
        have HO := Lib.hid hown
        clear hown
        by_cases hlt8 : j < 8
        · have hlt1 : (j : Int) < 8 := by omega
          have hix := run_index_agg (P := Tryz.prog) Tryz.underlying329 hlt8 (ints_get L j (by rw [LL.out]; exact hlt8)) (by kernel_rfl) hagg
          go_wp2_with (at_builtin; refine wpList_append_own _ rfl _ _ 140 rfl w.heap.size 5 i0 (.int .u8 0) 1 1 Tryz.underlying140 HI.out Z0.out Z1.out Z2.out rfl (by decide) _ _ _ rfl (HO.out.alloc _) ⟨wr.heap.size, 0, none⟩ 4 4 ((wordBytes (L.getD j 0)).map (Value.int .u8)) rfl rfl ?c1 ?c2 ?c3 ?c4 ?c5 ?_)
          case c1 => exact cells_new _ _ _
          case c2 => intro u hu; rw [List.mem_map] at hu; obtain ⟨x, _, rfl⟩ := hu; rfl
          case c3 => unfold maxLen; omega
          case c4 => omega
          case c5 => have := hb4.size; simp; omega
          intro v' w4 hown1 hgrow _
          have HO1 := Lib.hid hown1
          have hB1 : Below w.heap.size w w4 := (hb4.alloc hb4.size _).grown hgrow (by have := hb4.size; simp; omega) (fun q hq => (HO.out.lt q hq).1)
          clear hown1 hgrow
          go_wp2_with fail
          go_roundw
          case rel =>
            refine ⟨j + 1, by omega, by go_num, ?_, hB1⟩
            have := HO1.out
            rw [← List.map_append] at this
            exact this
          case measure => simp [intOf]; omega
        · have hge : ¬ (j : Int) < 8 := by omega
          obtain rfl : j = 8 := by omega
          have hcv := conv_own HO.out
          go_wp2_with fail
          go_ret
          refine ⟨?_, hb4⟩
          rw [HL.out, HT.out, show k = n by omega, HN.out, HT.out]
          rfl
end Go.Proofs.YtpgkgpecbjjifaaGreat
