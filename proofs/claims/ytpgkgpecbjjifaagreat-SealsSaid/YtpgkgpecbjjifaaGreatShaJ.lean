/- The contract of the reference's Sha. -/
import Derived.Test.YtpgkgpecbjjifaaGreatShaI
import Derived.Deep.DeepCutAuto
namespace Go.Proofs.YtpgkgpecbjjifaaGreat
open Go.RowKit Sha

theorem made_zeros (z : Nat) : madeCells (Value.int .u8 0).cells z = byts (List.replicate z 0) := by
  apply Array.ext
  · simp [size_madeCells, byts]
  · intro i h1 h2
    simp [madeCells, byts, Value.cells, Nat.mod_one]

theorem eight_num (n : Int) : eight n 8 = numTo n 8 8 := rfl

theorem nums_zeros (z : Nat) : strOfNums (List.replicate z 0) = zeros z := by
  simp [strOfNums, zeros]

theorem num8_calls (x : Int) (w : World) :
    Calls Tryz.prog 23 #[.int .i64 x, .int .i64 8] w fun e w' => e = .returned (.string (num x 8)) ∧ Below w.heap.size w w' :=
  num_calls x 8 w (Nat.le_refl 8)

theorem num4_calls (x : Int) (w : World) :
    Calls Tryz.prog 23 #[.int .i64 x, .int .i64 4] w fun e w' => e = .returned (.string (num x 4)) ∧ Below w.heap.size w w' :=
  num_calls x 4 w (by decide)

theorem sumTo_range (v x : List Int) (k j : Nat) : 0 ≤ (sumTo v x k).getD j 0 ∧ (sumTo v x k).getD j 0 < 4294967296 := by
  induction k with
  | zero => exact ⟨by simp [sumTo], by simp [sumTo]⟩
  | succ k ih =>
    have hl := sumTo_length v x k
    rw [sumTo, List.getD_eq_getElem?_getD]
    rcases Nat.lt_trichotomy j k with h | h | h
    · rw [List.getElem?_append_left (by omega), ← List.getD_eq_getElem?_getD]; exact ih
    · subst h
      rw [List.getElem?_append_right (by omega), hl, Nat.sub_self]
      simp
      omega
    · rw [List.getElem?_eq_none (by simp [hl]; omega)]
      simp

theorem sums_range (p : ByteArray) (k j : Nat) : 0 ≤ (sums p k).getD j 0 ∧ (sums p k).getD j 0 < 4294967296 := by
  cases k with
  | zero =>
    rcases Nat.lt_or_ge j 8 with h | h
    · have : ∀ i, i < 8 → 0 ≤ first.getD i 0 ∧ first.getD i 0 < 4294967296 := by decide
      exact this j h
    · rw [sums, List.getD_eq_getElem?_getD, List.getElem?_eq_none (by show 8 ≤ j; exact h)]
      simp
  | succ k =>
    have h8 := sums_length p k
    have e := addTo_all (sums p k) (rnds (sched (p.extract (64 * k) (64 * k + 64)) 64) (sums p k) 64)
    rw [h8] at e
    rw [sums, mixL, e]
    exact sumTo_range ..

theorem num_four (x : Int) : num x 4 = strOfNums (wordBytes x) := by
  show strOfNums [x / 2 ^ 24 % 256, x / 2 ^ 16 % 256, x / 2 ^ 8 % 256, x / 2 ^ 0 % 256] = _
  rw [Int.pow_zero, Int.ediv_one]
  rfl

theorem nums_append (a b : List Int) : strOfNums (a ++ b) = strOfNums a ++ strOfNums b := by
  apply ByteArray.ext
  simp [strOfNums]

set_option maxRecDepth 100000 in
set_option maxHeartbeats 4000000 in
theorem refSha_calls (s : ByteArray) (w : World) (hs : s.size ≤ 140737488355000) :
    Calls Tryz.prog 69 #[.string s] w fun e w' => e = .returned (.string (sha s)) ∧ Below w.heap.size w w' := by
  have h0 : (0 : Int) ≤ (s.size : Int) := by omega
  have h1 : (s.size : Int) ≤ 140737488355000 := by omega
  obtain ⟨z, hz⟩ : ∃ z, z = (119 - s.size % 64) % 64 := ⟨_, rfl⟩
  have hzi : (119 - (s.size : Int)) % 64 = (z : Int) := by omega
  have hz0 : 0 ≤ (119 - (s.size : Int)) % 64 := by omega
  have hz64 : (119 - (s.size : Int)) % 64 < 64 := by omega
  obtain ⟨i0, hi, hzz, hz1, hz2⟩ := info_parts info_u8
  have hmk : ∀ W, (Instr.makeSlice 140 (.int .i64 ((119 - (s.size : Int)) % 64)) (.int .i64 ((119 - (s.size : Int)) % 64))).run Tryz.prog W = .ok (.slice (some ⟨W.heap.size, 0, none⟩) z z) (W.alloc (.cells (byts (List.replicate z 0)) 5)) := by
    intro W
    have := run_makeSlice (P := Tryz.prog) W 140 5 i0 (.int .u8 0) Tryz.underlying140 hi hzz .i64 .i64 ((119 - (s.size : Int)) % 64) ((119 - (s.size : Int)) % 64) hz0 (Int.le_refl _) (by rw [hz1]; omega) (by rw [hz2]; omega) (by omega)
    rw [this, hz1, Nat.mul_one, hzi, Int.toNat_natCast, made_zeros]
  obtain ⟨Z, hZ⟩ : ∃ Z, Z = zeros z := ⟨_, rfl⟩
  have hcv : ∀ W W' : World, ∀ b, W.heap[b]? = some (.cells (byts (List.replicate z 0)) 5 (0, 0)) → Below W.heap.size W W' → (convert 140 9 (.slice (some ⟨b, 0, none⟩) z z)).run Tryz.prog W' = .ok (.string Z) W' := by
    intro W W' b hq hb
    have := conv_bytes (w := W) (w' := W') hq hb
    rw [List.length_replicate, nums_zeros] at this
    rw [hZ]
    exact this
  have cv1 : ∀ W : World, (convert 140 9 (.slice (some ⟨W.heap.size, 0, none⟩) z z)).run Tryz.prog (W.alloc (.cells (byts (List.replicate z 0)) 5)) = .ok (.string Z) (W.alloc (.cells (byts (List.replicate z 0)) 5)) :=
    fun W => hcv (W.alloc _) _ _ (heap_alloc_new _ _) (Below.refl _ _)
  have cv2 : ∀ W : World, (convert 140 9 (.slice (some ⟨W.heap.size, 0, none⟩) z z)).run Tryz.prog (W.alloc (.cells (byts (List.replicate z 0)) 5)).drew = .ok (.string Z) (W.alloc (.cells (byts (List.replicate z 0)) 5)).drew :=
    fun W => hcv (W.alloc _).drew _ _ (heap_alloc_new _ _) (Below.refl _ _)
  have hcv3 : ∀ W' : World, Below (w.heap.size + 1) (w.alloc (.cells (byts (List.replicate z 0)) 5)).drew W' → (convert 140 9 (.slice (some ⟨w.heap.size, 0, none⟩) z z)).run Tryz.prog W' = .ok (.string Z) W' := by
    intro W' hb
    refine hcv (w.alloc _).drew W' _ (heap_alloc_new _ _) (hb.mono ?_)
    simp
  have HC3 := Lib.hid hcv3
  have Zs : (0 : Int) ≤ (Z.size : Int) := by omega
  have Zl : (Z.size : Int) ≤ 64 := by rw [hZ, zeros_size]; omega
  have HZ := Lib.hid hZ
  have HZI := Lib.hid hz
  clear hcv hcv3 hZ hz hzi hi hzz hz1 hz2
  have r1 : (s.size : Int).tmod 64 = (s.size : Int) % 64 := Int.tmod_eq_emod_of_nonneg h0
  have r2 : IntKind.i64.wrap (119 - (s.size : Int) % 64) = 119 - (s.size : Int) % 64 := IntWalk.i64_in _ (by omega)
  have r3 : (119 - (s.size : Int) % 64).tmod 64 = (119 - (s.size : Int)) % 64 := by rw [Int.tmod_eq_emod_of_nonneg (by omega)]; omega
  have r4 : IntKind.i64.wrap (8 * (s.size : Int)) = 8 * (s.size : Int) := IntWalk.i64_in _ (by omega)
  go_enter Tryz.func69, Tryz.ntmps69
  go_upto_region 1 with (fail)
  go_cut [3] (fun t wx => t = .string (pad s) ∧ Below w.heap.size w wx)
  case first =>
    have hn1 : ((num (8 * (s.size : Int)) 8).size : Int) ≤ 8 := by rw [num_size]; omega
    go_region_with (go_simp; go_at_call 23; ((with_reducible refine (num8_calls _ _).mono ?_); rintro e w' ⟨rfl, hb'⟩); (try have hv' := HC3.out w' (hb'.mono (by simp))))
    all_goals
      go_wp2_with fail
      go_meet
      refine ⟨by rw [HZ.out, HZI.out, pad, Int.mul_comm]; rfl, ?_⟩
      first
        | exact ((((Below.refl _ _).alloc (Nat.le_refl _) _).drew).trans (hb'.mono (by simp)))
        | exact (((Below.refl _ _).drew.trans hb').alloc hb'.size _)
  case rest =>
    obtain ⟨rfl, hb⟩ := hcut
    obtain ⟨T, hT⟩ : ∃ T, T = pad s := ⟨_, rfl⟩
    have hTs := pad_size s
    have hTb := pad_blocks s
    rw [← hT] at hTs hTb ⊢
    obtain ⟨n, hn⟩ : ∃ n, n = T.size / 64 := ⟨_, rfl⟩
    rw [← hn] at hTb
    have hTl : T.size ≤ 140737488355100 := by omega
    have HT := Lib.hid hT
    have HN := Lib.hid hn
    have HB := Lib.hid hTb
    clear hT hTs hTb hn cv1 cv2 hmk r1 r2 r3 r4 HC3 HZ HZI Zs Zl
    go_wp2_with fail
    go_loopw [4, 5] (fun h i wr => ∃ k m b c : Nat, k ≤ n ∧ m = 64 * k ∧ i = .int .i64 m ∧ h = .slice (some ⟨b, 0, none⟩) 8 c
        ∧ (∀ j, j < 8 → wr.cell? ⟨b, j, none⟩ = some (.int .u32 ((sums T k).getD j 0))) ∧ Below w.heap.size w wr) (fun _ i _ => T.size - (intOf i).toNat)
    case atStart =>
      refine ⟨0, 0, wc.heap.size, 8, Nat.zero_le _, rfl, rfl, rfl, fun j hj => ?_, hb.alloc hb.size _⟩
      rw [cell_new_at wc _ j _ _ rfl]
      exact ints_get first j hj
    case round =>
      obtain ⟨k, m, b, c, hk, hm, rfl, rfl, hc, hb1⟩ := hrel
      have HM := Lib.hid hm
      have HC := Lib.hid hc
      have hbl : b < wr.heap.size := block_lt_of_cell (hc 0 (by omega))
      by_cases hlt : k < n
      · have m0 : (m : Int) < (T.size : Int) := by have := HB.out; omega
        have m1 : (m : Int) + 64 ≤ (T.size : Int) := by have := HB.out; omega
        have hxs : (T.extract m (m + 64)).size = 64 := by rw [ByteArray.size_extract]; omega
        have HXS := Lib.hid hxs
        clear hxs hm hc
        go_wp2_with fail
        ((with_reducible refine (block_calls (sums T k) _ b c _ (sums_length T k) HXS.out hbl HC.out).mono ?_); rintro e w2 ⟨b2, c2, rfl, hc2, hb2⟩)
        have HC2 := Lib.hid hc2
        clear hc2
        go_wp2_with fail
        go_roundw
        case rel =>
          refine ⟨k + 1, m + 64, b2, c2, hlt, by have := HM.out; omega, by go_num, rfl, ?_, hb1.trans (hb2.mono hb1.size)⟩
          rw [sums, ← HM.out]
          exact HC2.out
        case measure => simp [intOf]; omega
      · obtain rfl : k = n := by omega
        have m0 : ¬ (m : Int) < (T.size : Int) := by have := HB.out; omega
        obtain ⟨L, hL⟩ : ∃ L, L = sums T k := ⟨_, rfl⟩
        have hr := sums_range T k
        rw [← hL] at hc hr
        have HL := Lib.hid hL
        have HCL := Lib.hid hc
        have HR := Lib.hid hr
        clear hm hc hL hr HC
        obtain ⟨wo, hwo⟩ : ∃ wo : World, wo = wr := ⟨_, rfl⟩
        rw [← hwo] at hb1 hbl
        have HCO := Lib.hid (show ∀ j, j < 8 → wo.cell? ⟨b, j, none⟩ = some (.int .u32 (L.getD j 0)) by rw [hwo]; exact HCL.out)
        rw [← hwo]
        clear hwo HCL
        go_wp2_with fail
        go_loopw [6, 7] (fun o i ws => ∃ (j : Nat) (O : ByteArray), j ≤ 8 ∧ i = .int .i64 j ∧ o = .string O ∧ O = strOfNums (wordsTo L j) ∧ Below wo.heap.size wo ws) (fun _ i _ => 8 - (intOf i).toNat)
        case atStart => exact ⟨0, _, by omega, rfl, rfl, rfl, Below.refl _ _⟩
        case round =>
          obtain ⟨j, O, hj, rfl, rfl, hO, hb5⟩ := hrel
          have HO := Lib.hid hO
          have o0 : (0 : Int) ≤ (O.size : Int) := by omega
          have o1 : (O.size : Int) ≤ 32 := by rw [hO, strOfNums_size, wordsTo_length]; omega
          clear hO
          by_cases hlt8 : j < 8
          · have hlt1 : (j : Int) < 8 := by omega
            have xh : wr.cell? ⟨b, j, none⟩ = some (.int .u32 (L.getD j 0)) := by
              rw [hb5.cell (p := ⟨b, j, none⟩) hbl]; exact HCO.out j hlt8
            obtain ⟨X, hX⟩ : ∃ X, X = L.getD j 0 := ⟨_, rfl⟩
            have r0 := (HR.out j).1
            have r1 := (HR.out j).2
            rw [← hX] at xh r0 r1
            have HX := Lib.hid hX
            clear hX
            have hn1 : ((num X 4).size : Int) ≤ 4 := by rw [num_size]; omega
            go_wp2_with fail
            ((with_reducible refine (num4_calls _ _).mono ?_); rintro e w2 ⟨rfl, hb2⟩)
            go_wp2_with fail
            go_roundw
            case rel =>
              refine ⟨j + 1, _, by omega, by go_num, rfl, ?_, hb5.trans (hb2.mono hb5.size)⟩
              rw [HO.out, wordsTo, num_four, HX.out]
              exact (nums_append _ _).symm
            case measure => simp [intOf]; omega
          · have hge : ¬ (j : Int) < 8 := by omega
            obtain rfl : j = 8 := by omega
            go_wp2_with fail
            go_ret
            refine ⟨?_, hb1.trans (hb5.mono hb1.size)⟩
            rw [HO.out, HL.out, HN.out, HT.out]
            rfl
end Go.Proofs.YtpgkgpecbjjifaaGreat
