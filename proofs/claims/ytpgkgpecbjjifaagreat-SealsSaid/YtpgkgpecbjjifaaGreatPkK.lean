/- update.Put and the document's PutUpdate. -/
import Derived.Test.YtpgkgpecbjjifaaGreatPkJ
namespace Go.Proofs.YtpgkgpecbjjifaaGreat
open Go.RowKit Sha

def updTo (xs : List Lsa) : Nat → ByteArray
  | 0 => num xs.length 1
  | k + 1 => updTo xs k ++ lsaBytes (at_ xs k)
/-- The bytes of Lsas in a row. -/
def upd (xs : List Lsa) : ByteArray := updTo xs xs.length
theorem updateMay_at (xs : List Lsa) (h : updateMay xs = true) (k : Nat) (hk : k < xs.length) : lsaMay (at_ xs k) = true := by
  have := noneBad_at updateBad xs h k hk
  simp [updateBad] at this
  exact this.1
theorem updTo_size (xs : List Lsa) (h : updateMay xs = true) (k : Nat) (hk : k ≤ xs.length) : (updTo xs k).size ≤ 1 + 21 * k := by
  induction k with
  | zero => simp only [updTo, num_size]; omega
  | succ k ih =>
    have := ih (by omega)
    have := lsaMay_links _ (updateMay_at xs h k (by omega))
    simp only [updTo, ByteArray.size_append, lsaBytes_size]
    omega

set_option maxRecDepth 100000 in
set_option maxHeartbeats 1000000 in
theorem updatePut_true (A : Option Addr) (c : Nat) (xs : List Lsa) (w : World) (hv : updateMay xs = true) (hA : LsasAt w A xs) :
    Calls Tryz.prog 194 #[.slice A xs.length c] w fun e w' => e = .returned (.tuple #[.string (upd xs), .int .i64 0]) ∧ Below w.heap.size w w' := by
  have h4 := update_four xs hv
  have h0 : (0 : Int) ≤ (xs.length : Int) := by omega
  have h1 : (xs.length : Int) ≤ 4 := by omega
  have hm := updateMay_calls A c xs w hA (by omega)
  rw [hv] at hm
  have HM := Lib.hid hm
  have HA := Lib.hid hA
  clear hm hA
  go_enter Tryz.func194, Tryz.ntmps194
  go_wp2_with fail
  ((with_reducible refine HM.out.mono ?_); rintro e w1 ⟨rfl, HB⟩)
  go_wp2_with fail
  ((with_reducible refine (one_calls _ _).mono ?_); rintro e w1 ⟨rfl, hb1⟩)
  replace HB := HB.trans (hb1.mono HB.size)
  clear hb1
  go_wp2_with fail
  go_loopw [4, 17] (fun s i wr => ∃ k : Nat, k ≤ xs.length ∧ s = .string (updTo xs k) ∧ i = .int .i64 k ∧ Below w.heap.size w wr) (fun _ i _ => xs.length - (intOf i).toNat)
  case atStart => exact ⟨0, Nat.zero_le _, rfl, rfl, HB⟩
  case round =>
    clear HB
    obtain ⟨k, hk, rfl, rfl, HB⟩ := hrel
    by_cases hlt : k < xs.length
    · have hlt1 : (k : Int) < (xs.length : Int) := by omega
      obtain ⟨ad, B, cb, rfl, c0, c1, c2, c3, hr, hlk, -⟩ := (HA.out.below HB) k _ (at_get xs k hlt)
      have hs := updTo_size xs hv k hk
      have hs2 := lsaBytes_size (at_ xs k)
      have hs3 := lsaMay_links _ (updateMay_at xs hv k hlt)
      have hadd : ∀ W : World, (Op.stringOp .add (updTo xs k) (lsaBytes (at_ xs k))).run Tryz.prog W = .ok (.string (updTo xs (k + 1))) W := fun W => by
        rw [run_string_add_sum W _ _ (by rw [hs2]; omega)]
        rfl
      obtain ⟨T, hT⟩ : ∃ T, updTo xs (k + 1) = T := ⟨_, rfl⟩
      rw [hT] at hadd
      have HT := Lib.hid hT
      have HP := fun W => Lib.hid (lsaPut_true (at_ xs k) B cb W (updateMay_at xs hv k hlt))
      clear hs hs2 hs3 hT
      generalize lsaBytes (at_ xs k) = S at *
      go_wp2_with fail
      replace HB := HB.alloc HB.size (.cells #[.int .i64 (at_ xs k).router, .int .i64 (at_ xs k).serial, .int .i64 (at_ xs k).age, .slice B (at_ xs k).links.length cb] 91)
      have hr1 := hr.below ((Below.refl wr.heap.size wr).alloc (Nat.le_refl _) (.cells #[.int .i64 (at_ xs k).router, .int .i64 (at_ xs k).serial, .int .i64 (at_ xs k).age, .slice B (at_ xs k).links.length cb] 91))
      ((with_reducible refine ((HP _).out hr1).mono ?_); rintro e w1 ⟨rfl, hb1⟩)
      replace HB := HB.trans (hb1.mono HB.size)
      clear hb1
      go_wp2_with fail
      go_roundw
      case rel => exact ⟨k + 1, hlt, by rw [HT.out], by go_num, HB⟩
      case measure => simp [intOf]; omega
    · obtain rfl : k = xs.length := by omega
      go_wp2_with fail
      go_ret2
      exact ⟨rfl, HB⟩
set_option maxRecDepth 100000 in
set_option maxHeartbeats 1000000 in
theorem updatePut_false (A : Option Addr) (c : Nat) (xs : List Lsa) (w : World) (hv : updateMay xs = false) (hA : LsasAt w A xs) (hl : xs.length ≤ 140737488355328) :
    Calls Tryz.prog 194 #[.slice A xs.length c] w fun e w' => e = .returned (.tuple #[.string ⟨#[]⟩, .int .i64 1000]) ∧ Below w.heap.size w w' := by
  have hm := updateMay_calls A c xs w hA hl
  rw [hv] at hm
  have HM := Lib.hid hm
  clear hm hA
  go_enter Tryz.func194, Tryz.ntmps194
  go_wp2_with fail
  ((with_reducible refine HM.out.mono ?_); rintro e w1 ⟨rfl, HB⟩)
  go_wp2_with fail
  go_ret2
  exact ⟨rfl, HB⟩

set_option maxRecDepth 100000 in
set_option maxHeartbeats 1000000 in
theorem refPutUpdate_true (A : Option Addr) (c : Nat) (xs : List Lsa) (w : World) (hv : updateMay xs = true) (hA : LsasAt w A xs) :
    Calls Tryz.prog 157 #[.slice A xs.length c] w fun e w' => e = .returned (.tuple #[.string (upd xs), .int .i64 0]) ∧ Below w.heap.size w w' := by
  have h4 := update_four xs hv
  have h0 : (0 : Int) ≤ (xs.length : Int) := by omega
  have h1 : (xs.length : Int) ≤ 4 := by omega
  have hm := refUpdateMay_calls A c xs w hA (by omega)
  rw [hv] at hm
  have HM := Lib.hid hm
  have HA := Lib.hid hA
  clear hm hA
  go_enter Tryz.func157, Tryz.ntmps157
  go_wp2_with fail
  ((with_reducible refine HM.out.mono ?_); rintro e w1 ⟨rfl, HB⟩)
  go_wp2_with fail
  ((with_reducible refine (num1_calls _ _).mono ?_); rintro e w1 ⟨rfl, hb1⟩)
  replace HB := HB.trans (hb1.mono HB.size)
  clear hb1
  go_wp2_with fail
  go_loopw [4, 5] (fun s i wr => ∃ k : Nat, k ≤ xs.length ∧ s = .string (updTo xs k) ∧ i = .int .i64 k ∧ Below w.heap.size w wr) (fun _ i _ => xs.length - (intOf i).toNat)
  case atStart => exact ⟨0, Nat.zero_le _, rfl, rfl, HB⟩
  case round =>
    clear HB
    obtain ⟨k, hk, rfl, rfl, HB⟩ := hrel
    by_cases hlt : k < xs.length
    · have hlt1 : (k : Int) < (xs.length : Int) := by omega
      obtain ⟨ad, B, cb, rfl, c0, c1, c2, c3, hr, hlk, -⟩ := (HA.out.below HB) k _ (at_get xs k hlt)
      have hs := updTo_size xs hv k hk
      have hs2 := lsaBytes_size (at_ xs k)
      have hs3 := lsaMay_links _ (updateMay_at xs hv k hlt)
      have hadd : ∀ W : World, (Op.stringOp .add (updTo xs k) (lsaBytes (at_ xs k))).run Tryz.prog W = .ok (.string (updTo xs (k + 1))) W := fun W => by
        rw [run_string_add_sum W _ _ (by rw [hs2]; omega)]
        rfl
      obtain ⟨T, hT⟩ : ∃ T, updTo xs (k + 1) = T := ⟨_, rfl⟩
      rw [hT] at hadd
      have HT := Lib.hid hT
      have HP := fun W => Lib.hid (refPutLsa_true (at_ xs k) B cb W (updateMay_at xs hv k hlt))
      clear hs hs2 hs3 hT
      generalize lsaBytes (at_ xs k) = S at *
      go_wp2_with fail
      ((with_reducible refine ((HP _).out hr).mono ?_); rintro e w1 ⟨rfl, hb1⟩)
      replace HB := HB.trans (hb1.mono HB.size)
      clear hb1
      go_wp2_with fail
      go_roundw
      case rel => exact ⟨k + 1, hlt, by rw [HT.out], by go_num, HB⟩
      case measure => simp [intOf]; omega
    · obtain rfl : k = xs.length := by omega
      go_wp2_with fail
      go_ret2
      exact ⟨rfl, HB⟩
set_option maxRecDepth 100000 in
set_option maxHeartbeats 1000000 in
theorem refPutUpdate_false (A : Option Addr) (c : Nat) (xs : List Lsa) (w : World) (hv : updateMay xs = false) (hA : LsasAt w A xs) (hl : xs.length ≤ 140737488355328) :
    Calls Tryz.prog 157 #[.slice A xs.length c] w fun e w' => e = .returned (.tuple #[.string ⟨#[]⟩, .int .i64 1000]) ∧ Below w.heap.size w w' := by
  have hm := refUpdateMay_calls A c xs w hA hl
  rw [hv] at hm
  have HM := Lib.hid hm
  clear hm hA
  go_enter Tryz.func157, Tryz.ntmps157
  go_wp2_with fail
  ((with_reducible refine HM.out.mono ?_); rintro e w1 ⟨rfl, HB⟩)
  go_wp2_with fail
  go_ret2
  exact ⟨rfl, HB⟩

end Go.Proofs.YtpgkgpecbjjifaaGreat
