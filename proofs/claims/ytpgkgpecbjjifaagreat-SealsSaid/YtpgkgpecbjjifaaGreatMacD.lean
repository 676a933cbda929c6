/- The contracts of the document's words on tags. -/
import Derived.Test.YtpgkgpecbjjifaaGreatMacB
import Derived.Test.YtpgkgpecbjjifaaGreatMacQ
import Derived.Test.YtpgkgpecbjjifaaGreatShaJ
namespace Go.Proofs.YtpgkgpecbjjifaaGreat
open Go.RowKit Sha

theorem macMake_bytes (m : Nat) (hm : m ≤ 140737488355328) (W : World) : (Instr.makeSlice 140 (.int .i64 (m : Int)) (.int .i64 (m : Int))).run Tryz.prog W = .ok (.slice (some ⟨W.heap.size, 0, none⟩) m m) (W.alloc (.cells (byts (List.replicate m 0)) 5)) := by
  obtain ⟨i0, hi, hzz, hz1, hz2⟩ := info_parts info_u8
  have := run_make (P := Tryz.prog) W 140 5 i0 (.int .u8 0) Tryz.underlying140 hi hzz .i64 .i64 (m : Int) (m : Int) (by omega) (Int.le_refl _) (by rw [hz2]; omega) (by omega)
  rw [this, hz1, Nat.mul_one, Int.toNat_natCast, made_zeros]

theorem macMake_64 (W : World) : (Instr.makeSlice 140 (.int .i64 64) (.int .i64 64)).run Tryz.prog W = .ok (.slice (some ⟨W.heap.size, 0, none⟩) 64 64) (W.alloc (.cells (byts (List.replicate 64 0)) 5)) :=
  macMake_bytes 64 (by decide) W

theorem macConv_len {w w' : World} {b m : Nat} {T : TypeId} {l : List Int} {fr : Nat × Nat} (hl : l.length = m) (hq : w.heap[b]? = some (.cells (byts l) T fr)) (hb : Below w.heap.size w w') :
    (convert 140 9 (.slice (some ⟨b, 0, none⟩) m m)).run Tryz.prog w' = .ok (.string (strOfNums l)) w' := by
  subst hl
  exact conv_bytes hq hb

theorem set_get (l : List Int) (j i : Nat) (x : Int) (h : j < l.length) : (l.set j x).getD i 0 = if i = j then x else l.getD i 0 := by
  rw [List.getD_eq_getElem?_getD, List.getElem?_set]
  by_cases e : j = i
  · subst e
    rw [if_pos rfl, if_pos h, if_pos rfl]
    rfl
  · rw [if_neg e, if_neg (fun h => e h.symm), List.getD_eq_getElem?_getD]

set_option maxRecDepth 100000 in
set_option maxHeartbeats 400000 in
theorem refTurned_calls (k : ByteArray) (b : Nat) (w : World) (hk : k.size ≤ 32) (hb9 : b < 256) :
    Calls Tryz.prog 70 #[.string k, .int .u8 b] w fun e w' => e = .returned (.string (turn (block64 k) b)) ∧ Below w.heap.size w w' := by
  have h1 : (k.size : Int) ≤ 32 := by omega
  have hmk := macMake_64
  have HB := Lib.hid hb9
  clear hb9 hk
  go_enter Tryz.func70, Tryz.ntmps70
  go_wp2_with fail
  go_loopw [6] (fun i wr => ∃ (j : Nat) (l : List Int), j ≤ 64 ∧ i = .int .i64 j ∧ l.length = 64 ∧ (∀ i, i < j → l.getD i 0 = turnRef k b i) ∧ wr.heap[w.heap.size]? = some (.cells (byts l) 5 (0, 0)) ∧ Below w.heap.size w wr) (fun i _ => 64 - (intOf i).toNat)
  case atStart => exact ⟨0, List.replicate 64 0, by omega, rfl, List.length_replicate, fun i hi => by omega, heap_alloc_new _ _, (Below.refl _ _).alloc (Nat.le_refl _) _⟩
  case round =>
    obtain ⟨j, l, hj, rfl, hl, hr, hq, hb⟩ := hrel
    have HL := Lib.hid hl
    have HR := Lib.hid hr
    have HQ := Lib.hid hq
    clear hl hr hq hmk
    by_cases hlt : j < 64
    · have hlt1 : (j : Int) < 64 := by omega
      have f0 : wr.frozen? ⟨w.heap.size, j, none⟩ = false := frozen_of_row wr _ j _ _ HQ.out
      have c0 : wr.cell? ⟨w.heap.size, j, none⟩ = some (.int .u8 (l.getD j 0)) := by
        rw [cell_of_row wr _ j _ _ _ HQ.out, byts_get l j (by rw [HL.out]; exact hlt)]
      by_cases hlk : j < k.size
      · have hlk1 : (j : Int) < (k.size : Int) := by omega
        go_wp2_with fail
        go_roundw
        case rel =>
          have q1 : (wr.setCell ⟨w.heap.size, j, none⟩ (.int .u8 b)).heap[w.heap.size]? = some (.cells (byts (l.set j b)) 5 (0, 0)) := (heap_setCell_same wr _ j _ _ _ HQ.out).trans (by rw [byts_set])
          refine ⟨j + 1, _, hlt, by go_num, ?_, ?_, (heap_setCell_same _ _ j _ _ _ q1).trans (by rw [byts_set]), (hb.setCell (Nat.le_refl _) _).setCell (Nat.le_refl _) _⟩
          · rw [List.length_set, List.length_set, HL.out]
          · intro i hi
            rw [set_get _ _ _ _ (by rw [List.length_set, HL.out]; exact hlt), set_get _ _ _ _ (by rw [HL.out]; exact hlt)]
            by_cases e : i = j
            · subst e
              rw [if_pos rfl, turnRef, if_pos hlk, ← byteAt_nat k i hlk]
            · rw [if_neg e, if_neg e]
              exact HR.out i (by omega)
        case measure => simp [intOf]; omega
      · have hlk1 : ¬ (j : Int) < (k.size : Int) := by omega
        go_wp2_with fail
        go_roundw
        case rel =>
          refine ⟨j + 1, _, hlt, by go_num, ?_, ?_, (heap_setCell_same wr _ j _ _ _ HQ.out).trans (by rw [byts_set]), hb.setCell (Nat.le_refl _) _⟩
          · rw [List.length_set, HL.out]
          · intro i hi
            rw [set_get _ _ _ _ (by rw [HL.out]; exact hlt)]
            by_cases e : i = j
            · subst e
              rw [if_pos rfl, turnRef, if_neg hlk]
            · rw [if_neg e]
              exact HR.out i (by omega)
        case measure => simp [intOf]; omega
    · obtain rfl : j = 64 := by omega
      rw [show (((64 : Nat) : Int)) = 64 from rfl]
      have hv := macConv_len HL.out HQ.out (Below.refl _ _)
      go_wp2_with fail
      go_ret
      refine ⟨?_, hb⟩
      rw [turn_of (block64 k) b l (by rw [HL.out, block64_size _ (by omega)]) (fun j hj => by rw [block64_size _ (by omega)] at hj; rw [HR.out j hj, turnRef_eq k b HB.out])]
      rfl

theorem refTurned_at (k : ByteArray) (b : Nat) (w : World) (hk : (k.size : Int) ≤ 32) (hb9 : b < 256) :
    Calls Tryz.prog 70 #[.string k, .int .u8 b] w fun e w' => ∃ u, e = .returned (.string u) ∧ Hid (u = turn (block64 k) b) ∧ (u.size : Int) = 64 ∧ Below w.heap.size w w' := by
  refine (refTurned_calls k b w (by omega) hb9).mono ?_
  rintro e w' ⟨rfl, hb⟩
  exact ⟨_, rfl, rfl, by rw [turn_size, block64_size _ (by omega)]; rfl, hb⟩

theorem refTurned_92 (k : ByteArray) (w : World) (hk : (k.size : Int) ≤ 32) :
    Calls Tryz.prog 70 #[.string k, .int .u8 92] w fun e w' => ∃ u, e = .returned (.string u) ∧ Hid (u = turn (block64 k) 92) ∧ (u.size : Int) = 64 ∧ Below w.heap.size w w' :=
  refTurned_at k 92 w hk (by decide)
theorem refTurned_54 (k : ByteArray) (w : World) (hk : (k.size : Int) ≤ 32) :
    Calls Tryz.prog 70 #[.string k, .int .u8 54] w fun e w' => ∃ u, e = .returned (.string u) ∧ Hid (u = turn (block64 k) 54) ∧ (u.size : Int) = 64 ∧ Below w.heap.size w w' :=
  refTurned_at k 54 w hk (by decide)

theorem refSha_at (s : ByteArray) (w : World) (h : (s.size : Int) ≤ 140737488355000) :
    Calls Tryz.prog 69 #[.string s] w fun e w' => ∃ u, e = .returned (.string u) ∧ Hid (u = sha s) ∧ (u.size : Int) = 32 ∧ Below w.heap.size w w' := by
  refine (refSha_calls s w (by omega)).mono ?_
  rintro e w' ⟨rfl, hb⟩
  exact ⟨_, rfl, rfl, by rw [sha_size]; rfl, hb⟩

set_option maxRecDepth 100000 in
set_option maxHeartbeats 400000 in
theorem refTag_ok (k s : ByteArray) (w : World) (hk : secretOk k = true) (hs : s.size ≤ 140737488354000) :
    Calls Tryz.prog 22 #[.string k, .string s] w fun e w' => e = .returned (.tuple #[.string (mac k s), .int .i64 0]) ∧ Below w.heap.size w w' := by
  obtain ⟨k1, k2⟩ := secretOk_sizes k hk
  have a0 : (0 : Int) ≤ (s.size : Int) := by omega
  have a1 : (s.size : Int) ≤ 140737488354000 := by omega
  have a2 : (1 : Int) ≤ (k.size : Int) := by omega
  have a3 : (k.size : Int) ≤ 32 := by omega
  clear hs k1 k2
  go_enter Tryz.func22, Tryz.ntmps22
  go_wp2_with fail
  ((with_reducible refine (refTurned_92 k _ a3).mono ?_); rintro e w3 ⟨u1, rfl, hu1, hu2, hb1⟩)
  go_wp2_with fail
  ((with_reducible refine (refTurned_54 k _ a3).mono ?_); rintro e w4 ⟨u2, rfl, hu4, hu5, hb3⟩)
  have hb4 := hb1.trans (hb3.mono hb1.size)
  clear hb1 hb3
  go_wp2_with fail
  ((with_reducible refine (refSha_at _ _ (by rw [ByteArray.size_append]; omega)).mono ?_); rintro e w5 ⟨u3, rfl, hu7, hu8, hb5⟩)
  have hb6 := hb4.trans (hb5.mono hb4.size)
  clear hb4 hb5
  go_wp2_with fail
  ((with_reducible refine (refSha_calls _ _ (by rw [ByteArray.size_append]; omega)).mono ?_); rintro e w6 ⟨rfl, hb7⟩)
  have hb8 := hb6.trans (hb7.mono hb6.size)
  clear hb6 hb7
  go_wp2_with fail
  go_ret2
  refine ⟨?_, hb8⟩
  rw [hu7.out, hu4.out, hu1.out]
  rfl

set_option maxRecDepth 100000 in
set_option maxHeartbeats 400000 in
theorem refTag_bad (k s : ByteArray) (w : World) (hk : secretOk k = false) (hs : k.size ≤ 140737488355000) :
    Calls Tryz.prog 22 #[.string k, .string s] w fun e w' => e = .returned (.tuple #[.string ⟨#[]⟩, .int .i64 200]) ∧ w = w' := by
  have a1 : (k.size : Int) ≤ 140737488355000 := by omega
  have hc := (secretOk_iff_not k).mp hk
  clear hs hk
  by_cases c : k.size < 1
  · have c1 : (k.size : Int) < 1 := by omega
    clear hc c
    go_enter Tryz.func22, Tryz.ntmps22
    go_wp2_with fail
    go_ret2
    exact ⟨rfl, rfl⟩
  · have c1 : ¬ (k.size : Int) < 1 := by omega
    have c2 : 32 < (k.size : Int) := by omega
    clear hc c
    go_enter Tryz.func22, Tryz.ntmps22
    go_wp2_with fail
    go_ret2
    exact ⟨rfl, rfl⟩
end Go.Proofs.YtpgkgpecbjjifaaGreat
