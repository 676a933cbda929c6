/- ack.Put and the document's PutAck. -/
import Derived.Test.YtpgkgpecbjjifaaGreatPkN
namespace Go.Proofs.YtpgkgpecbjjifaaGreat
open Go.RowKit Sha
set_option linter.unusedSimpArgs false

def headBytes (h : Head) : ByteArray := num h.router 1 ++ num h.age 1 ++ num h.serial 4 ++ num h.sum 2
theorem headBytes_size (h : Head) : (headBytes h).size = 8 := by simp only [headBytes, ByteArray.size_append, num_size]
def ackTo (xs : List Head) : Nat → ByteArray
  | 0 => num xs.length 1
  | k + 1 => ackTo xs k ++ headBytes (at_ xs k)
/-- The bytes of heads in a row. -/
def ack (xs : List Head) : ByteArray := ackTo xs xs.length
theorem ackTo_size (xs : List Head) (k : Nat) : (ackTo xs k).size = 1 + 8 * k := by
  induction k with
  | zero => simp only [ackTo, num_size]
  | succ k ih => simp only [ackTo, ByteArray.size_append, headBytes_size, ih]; omega

set_option maxRecDepth 100000 in
set_option maxHeartbeats 1000000 in
theorem ackPut_false (A : Option Addr) (c : Nat) (xs : List Head) (w : World) (hv : ackMay xs = false) (hA : RowAt encHead 4 w A xs) (hl : xs.length ≤ 140737488355328) :
    Calls Tryz.prog 195 #[.slice A xs.length c] w fun e w' => e = .returned (.tuple #[.string ⟨#[]⟩, .int .i64 1100]) ∧ Below w.heap.size w w' := by
  have hm := ackMay_calls A c xs w hA hl
  rw [hv] at hm
  have HM := Lib.hid hm
  clear hm hA
  go_enter Tryz.func195, Tryz.ntmps195
  go_wp2_with fail
  ((with_reducible refine HM.out.mono ?_); rintro e w1 ⟨rfl, HB⟩)
  go_wp2_with fail
  go_ret2
  exact ⟨rfl, HB⟩

set_option maxRecDepth 100000 in
set_option maxHeartbeats 1000000 in
theorem refPutAck_false (A : Option Addr) (c : Nat) (xs : List Head) (w : World) (hv : ackMay xs = false) (hA : RowAt encHead 4 w A xs) (hl : xs.length ≤ 140737488355328) :
    Calls Tryz.prog 158 #[.slice A xs.length c] w fun e w' => e = .returned (.tuple #[.string ⟨#[]⟩, .int .i64 1100]) ∧ Below w.heap.size w w' := by
  have hm := refAckMay_calls A c xs w hA hl
  rw [hv] at hm
  have HM := Lib.hid hm
  clear hm hA
  go_enter Tryz.func158, Tryz.ntmps158
  go_wp2_with fail
  ((with_reducible refine HM.out.mono ?_); rintro e w1 ⟨rfl, HB⟩)
  go_wp2_with fail
  go_ret2
  exact ⟨rfl, HB⟩

set_option maxRecDepth 100000 in
set_option maxHeartbeats 1000000 in
theorem ackPut_true (A : Option Addr) (c : Nat) (xs : List Head) (w : World) (hv : ackMay xs = true) (hA : RowAt encHead 4 w A xs) :
    Calls Tryz.prog 195 #[.slice A xs.length c] w fun e w' => e = .returned (.tuple #[.string (ack xs), .int .i64 0]) ∧ Below w.heap.size w w' := by
  have h4 := ack_four xs hv
  have h0 : (0 : Int) ≤ (xs.length : Int) := by omega
  have h1 : (xs.length : Int) ≤ 4 := by omega
  have hm := ackMay_calls A c xs w hA (by omega)
  rw [hv] at hm
  have HM := Lib.hid hm
  have HA := Lib.hid hA
  clear hm hA
  go_enter Tryz.func195, Tryz.ntmps195
  go_wp2_with fail
  ((with_reducible refine HM.out.mono ?_); rintro e w1 ⟨rfl, HB⟩)
  go_wp2_with fail
  ((with_reducible refine (one_calls _ _).mono ?_); rintro e w1 ⟨rfl, hb1⟩)
  replace HB := HB.trans (hb1.mono HB.size)
  clear hb1
  go_wp2_with fail
  go_loopw [4, 15] (fun s i wr => ∃ k : Nat, k ≤ xs.length ∧ s = .string (ackTo xs k) ∧ i = .int .i64 k ∧ Below w.heap.size w wr) (fun _ i _ => xs.length - (intOf i).toNat)
  case atStart => exact ⟨0, Nat.zero_le _, rfl, rfl, HB⟩
  case round =>
    clear HB
    obtain ⟨k, hk, rfl, rfl, hb⟩ := hrel
    by_cases hlt : k < xs.length
    · have hlt1 : (k : Int) < (xs.length : Int) := by omega
      obtain ⟨ad, rfl, c0, c1, c2, c3⟩ := (HA.out.below hb).head k hlt
      have HB : Below w.heap.size w (wr.alloc (.cells #[.int .i64 (at_ xs k).router, .int .i64 (at_ xs k).serial, .int .i64 (at_ xs k).age, .int .i64 (at_ xs k).sum] 214)) := hb.alloc hb.size _
      have f0 : (wr.alloc (.cells #[.int .i64 (at_ xs k).router, .int .i64 (at_ xs k).serial, .int .i64 (at_ xs k).age, .int .i64 (at_ xs k).sum] 214)).cell? ⟨wr.heap.size, 0, none⟩ = some (.int .i64 (at_ xs k).router) := cell_new wr _ _ 0
      have f1 : (wr.alloc (.cells #[.int .i64 (at_ xs k).router, .int .i64 (at_ xs k).serial, .int .i64 (at_ xs k).age, .int .i64 (at_ xs k).sum] 214)).cell? ⟨wr.heap.size, 1, none⟩ = some (.int .i64 (at_ xs k).serial) := cell_new wr _ _ 1
      have f2 : (wr.alloc (.cells #[.int .i64 (at_ xs k).router, .int .i64 (at_ xs k).serial, .int .i64 (at_ xs k).age, .int .i64 (at_ xs k).sum] 214)).cell? ⟨wr.heap.size, 2, none⟩ = some (.int .i64 (at_ xs k).age) := cell_new wr _ _ 2
      have f3 : (wr.alloc (.cells #[.int .i64 (at_ xs k).router, .int .i64 (at_ xs k).serial, .int .i64 (at_ xs k).age, .int .i64 (at_ xs k).sum] 214)).cell? ⟨wr.heap.size, 3, none⟩ = some (.int .i64 (at_ xs k).sum) := cell_new wr _ _ 3
      have hs := ackTo_size xs k
      obtain ⟨B1, hB1⟩ : ∃ B, B = num (at_ xs k).router 1 ++ num (at_ xs k).age 1 := ⟨_, rfl⟩
      have ha1 : ∀ W : World, (Op.stringOp .add (num (at_ xs k).router 1) (num (at_ xs k).age 1)).run Tryz.prog W = .ok (.string B1) W := fun W => by rw [run_string_add_sum W _ _ (by simp only [ByteArray.size_append, num_size, hs]; omega), hB1]
      obtain ⟨B2, hB2⟩ : ∃ B, B = B1 ++ num (at_ xs k).serial 4 := ⟨_, rfl⟩
      have ha2 : ∀ W : World, (Op.stringOp .add B1 (num (at_ xs k).serial 4)).run Tryz.prog W = .ok (.string B2) W := fun W => by rw [run_string_add_sum W _ _ (by simp only [hB1, ByteArray.size_append, num_size, hs]; omega), hB2]
      obtain ⟨B3, hB3⟩ : ∃ B, B = B2 ++ num (at_ xs k).sum 2 := ⟨_, rfl⟩
      have ha3 : ∀ W : World, (Op.stringOp .add B2 (num (at_ xs k).sum 2)).run Tryz.prog W = .ok (.string B3) W := fun W => by rw [run_string_add_sum W _ _ (by simp only [hB2, hB1, ByteArray.size_append, num_size, hs]; omega), hB3]
      have ha4 : ∀ W : World, (Op.stringOp .add (ackTo xs k) (B3)).run Tryz.prog W = .ok (.string (ackTo xs (k + 1))) W := fun W => by
        rw [run_string_add_sum W _ _ (by simp only [hB3, hB2, hB1, ByteArray.size_append, num_size, hs]; omega), hB3, hB2, hB1]
        simp only [ackTo, headBytes, ByteArray.append_assoc]
      clear hB3 hB2 hB1
      obtain ⟨T, hT⟩ : ∃ T, ackTo xs (k + 1) = T := ⟨_, rfl⟩
      rw [hT] at ha4
      have HT := Lib.hid hT
      clear hs hT
      go_wp2_with fail
      clear c0 c1 c2 c3
      generalize wr.alloc (.cells #[.int .i64 (at_ xs k).router, .int .i64 (at_ xs k).serial, .int .i64 (at_ xs k).age, .int .i64 (at_ xs k).sum] 214) = W1 at *
      generalize (at_ xs k).router = x0 at *
      generalize (at_ xs k).serial = x1 at *
      generalize (at_ xs k).age = x2 at *
      generalize (at_ xs k).sum = x3 at *
      go_region_held3 (fun w' => w'.cell? ⟨wr.heap.size, 0, none⟩ = some (.int .i64 x0) ∧ w'.cell? ⟨wr.heap.size, 1, none⟩ = some (.int .i64 x1) ∧ w'.cell? ⟨wr.heap.size, 2, none⟩ = some (.int .i64 x2) ∧ w'.cell? ⟨wr.heap.size, 3, none⟩ = some (.int .i64 x3)) (first | exact ⟨f0, f1, f2, f3⟩) (first | (go_simp; go_at_call 135; (with_reducible refine (one_calls _ _).mono ?_); rintro e w1 ⟨rfl, hb1⟩; first | (replace f0 := cell_later hb1 f0; replace f1 := cell_later hb1 f1; replace f2 := cell_later hb1 f2; replace f3 := cell_later hb1 f3; replace HB := HB.trans (hb1.mono HB.size)) | (replace f0 := cell_drew hb1 f0; replace f1 := cell_drew hb1 f1; replace f2 := cell_drew hb1 f2; replace f3 := cell_drew hb1 f3; replace HB := HB.drew.trans (hb1.mono HB.drew.size)); clear hb1) | (go_simp; go_at_call 136; (with_reducible refine (four_bytes_calls _ _).mono ?_); rintro e w1 ⟨rfl, hb1⟩; first | (replace f0 := cell_later hb1 f0; replace f1 := cell_later hb1 f1; replace f2 := cell_later hb1 f2; replace f3 := cell_later hb1 f3; replace HB := HB.trans (hb1.mono HB.size)) | (replace f0 := cell_drew hb1 f0; replace f1 := cell_drew hb1 f1; replace f2 := cell_drew hb1 f2; replace f3 := cell_drew hb1 f3; replace HB := HB.drew.trans (hb1.mono HB.drew.size)); clear hb1) | (go_simp; go_at_call 197; (with_reducible refine (two_calls _ _).mono ?_); rintro e w1 ⟨rfl, hb1⟩; first | (replace f0 := cell_later hb1 f0; replace f1 := cell_later hb1 f1; replace f2 := cell_later hb1 f2; replace f3 := cell_later hb1 f3; replace HB := HB.trans (hb1.mono HB.size)) | (replace f0 := cell_drew hb1 f0; replace f1 := cell_drew hb1 f1; replace f2 := cell_drew hb1 f2; replace f3 := cell_drew hb1 f3; replace HB := HB.drew.trans (hb1.mono HB.drew.size)); clear hb1))
      go_wp2_with fail
      go_roundw
      case rel => exact ⟨k + 1, hlt, by rw [HT.out], by go_num, HB⟩
      case measure => simp [intOf]; omega
    · obtain rfl : k = xs.length := by omega
      go_wp2_with fail
      go_ret2
      exact ⟨rfl, hb⟩

set_option maxRecDepth 100000 in
set_option maxHeartbeats 1000000 in
theorem refPutAck_true (A : Option Addr) (c : Nat) (xs : List Head) (w : World) (hv : ackMay xs = true) (hA : RowAt encHead 4 w A xs) :
    Calls Tryz.prog 158 #[.slice A xs.length c] w fun e w' => e = .returned (.tuple #[.string (ack xs), .int .i64 0]) ∧ Below w.heap.size w w' := by
  have h4 := ack_four xs hv
  have h0 : (0 : Int) ≤ (xs.length : Int) := by omega
  have h1 : (xs.length : Int) ≤ 4 := by omega
  have hm := refAckMay_calls A c xs w hA (by omega)
  rw [hv] at hm
  have HM := Lib.hid hm
  have HA := Lib.hid hA
  clear hm hA
  go_enter Tryz.func158, Tryz.ntmps158
  go_wp2_with fail
  ((with_reducible refine HM.out.mono ?_); rintro e w1 ⟨rfl, HB⟩)
  go_wp2_with fail
  ((with_reducible refine (num1_calls _ _).mono ?_); rintro e w1 ⟨rfl, hb1⟩)
  replace HB := HB.trans (hb1.mono HB.size)
  clear hb1
  go_wp2_with fail
  go_loopw [4, 5] (fun s i wr => ∃ k : Nat, k ≤ xs.length ∧ s = .string (ackTo xs k) ∧ i = .int .i64 k ∧ Below w.heap.size w wr) (fun _ i _ => xs.length - (intOf i).toNat)
  case atStart => exact ⟨0, Nat.zero_le _, rfl, rfl, HB⟩
  case round =>
    clear HB
    obtain ⟨k, hk, rfl, rfl, hb⟩ := hrel
    by_cases hlt : k < xs.length
    · have hlt1 : (k : Int) < (xs.length : Int) := by omega
      obtain ⟨ad, rfl, c0, c1, c2, c3⟩ := (HA.out.below hb).head k hlt
      have HB : Below w.heap.size w (wr.alloc (.cells #[.int .i64 (at_ xs k).router, .int .i64 (at_ xs k).serial, .int .i64 (at_ xs k).age, .int .i64 (at_ xs k).sum] 214)) := hb.alloc hb.size _
      have f0 : (wr.alloc (.cells #[.int .i64 (at_ xs k).router, .int .i64 (at_ xs k).serial, .int .i64 (at_ xs k).age, .int .i64 (at_ xs k).sum] 214)).cell? ⟨wr.heap.size, 0, none⟩ = some (.int .i64 (at_ xs k).router) := cell_new wr _ _ 0
      have f1 : (wr.alloc (.cells #[.int .i64 (at_ xs k).router, .int .i64 (at_ xs k).serial, .int .i64 (at_ xs k).age, .int .i64 (at_ xs k).sum] 214)).cell? ⟨wr.heap.size, 1, none⟩ = some (.int .i64 (at_ xs k).serial) := cell_new wr _ _ 1
      have f2 : (wr.alloc (.cells #[.int .i64 (at_ xs k).router, .int .i64 (at_ xs k).serial, .int .i64 (at_ xs k).age, .int .i64 (at_ xs k).sum] 214)).cell? ⟨wr.heap.size, 2, none⟩ = some (.int .i64 (at_ xs k).age) := cell_new wr _ _ 2
      have f3 : (wr.alloc (.cells #[.int .i64 (at_ xs k).router, .int .i64 (at_ xs k).serial, .int .i64 (at_ xs k).age, .int .i64 (at_ xs k).sum] 214)).cell? ⟨wr.heap.size, 3, none⟩ = some (.int .i64 (at_ xs k).sum) := cell_new wr _ _ 3
      have hs := ackTo_size xs k
      obtain ⟨B1, hB1⟩ : ∃ B, B = ackTo xs k ++ num (at_ xs k).router 1 := ⟨_, rfl⟩
      have ha1 : ∀ W : World, (Op.stringOp .add (ackTo xs k) (num (at_ xs k).router 1)).run Tryz.prog W = .ok (.string B1) W := fun W => by rw [run_string_add_sum W _ _ (by simp only [ByteArray.size_append, num_size, hs]; omega), hB1]
      obtain ⟨B2, hB2⟩ : ∃ B, B = B1 ++ num (at_ xs k).age 1 := ⟨_, rfl⟩
      have ha2 : ∀ W : World, (Op.stringOp .add B1 (num (at_ xs k).age 1)).run Tryz.prog W = .ok (.string B2) W := fun W => by rw [run_string_add_sum W _ _ (by simp only [hB1, ByteArray.size_append, num_size, hs]; omega), hB2]
      obtain ⟨B3, hB3⟩ : ∃ B, B = B2 ++ num (at_ xs k).serial 4 := ⟨_, rfl⟩
      have ha3 : ∀ W : World, (Op.stringOp .add B2 (num (at_ xs k).serial 4)).run Tryz.prog W = .ok (.string B3) W := fun W => by rw [run_string_add_sum W _ _ (by simp only [hB2, hB1, ByteArray.size_append, num_size, hs]; omega), hB3]
      have ha4 : ∀ W : World, (Op.stringOp .add (B3) (num (at_ xs k).sum 2)).run Tryz.prog W = .ok (.string (ackTo xs (k + 1))) W := fun W => by
        rw [run_string_add_sum W _ _ (by simp only [hB3, hB2, hB1, ByteArray.size_append, num_size, hs]; omega), hB3, hB2, hB1]
        simp only [ackTo, headBytes, ByteArray.append_assoc]
      clear hB3 hB2 hB1
      obtain ⟨T, hT⟩ : ∃ T, ackTo xs (k + 1) = T := ⟨_, rfl⟩
      rw [hT] at ha4
      have HT := Lib.hid hT
      clear hs hT
      go_wp2_with fail
      clear c0 c1 c2 c3
      generalize wr.alloc (.cells #[.int .i64 (at_ xs k).router, .int .i64 (at_ xs k).serial, .int .i64 (at_ xs k).age, .int .i64 (at_ xs k).sum] 214) = W1 at *
      generalize (at_ xs k).router = x0 at *
      generalize (at_ xs k).serial = x1 at *
      generalize (at_ xs k).age = x2 at *
      generalize (at_ xs k).sum = x3 at *
      go_region_held3 (fun w' => w'.cell? ⟨wr.heap.size, 0, none⟩ = some (.int .i64 x0) ∧ w'.cell? ⟨wr.heap.size, 1, none⟩ = some (.int .i64 x1) ∧ w'.cell? ⟨wr.heap.size, 2, none⟩ = some (.int .i64 x2) ∧ w'.cell? ⟨wr.heap.size, 3, none⟩ = some (.int .i64 x3)) (first | exact ⟨f0, f1, f2, f3⟩) (first | (go_simp; go_at_call 23; (with_reducible refine (num1_calls _ _).mono ?_); rintro e w1 ⟨rfl, hb1⟩; first | (replace f0 := cell_later hb1 f0; replace f1 := cell_later hb1 f1; replace f2 := cell_later hb1 f2; replace f3 := cell_later hb1 f3; replace HB := HB.trans (hb1.mono HB.size)) | (replace f0 := cell_drew hb1 f0; replace f1 := cell_drew hb1 f1; replace f2 := cell_drew hb1 f2; replace f3 := cell_drew hb1 f3; replace HB := HB.drew.trans (hb1.mono HB.drew.size)); clear hb1) | (go_simp; go_at_call 23; (with_reducible refine (num4_calls _ _).mono ?_); rintro e w1 ⟨rfl, hb1⟩; first | (replace f0 := cell_later hb1 f0; replace f1 := cell_later hb1 f1; replace f2 := cell_later hb1 f2; replace f3 := cell_later hb1 f3; replace HB := HB.trans (hb1.mono HB.size)) | (replace f0 := cell_drew hb1 f0; replace f1 := cell_drew hb1 f1; replace f2 := cell_drew hb1 f2; replace f3 := cell_drew hb1 f3; replace HB := HB.drew.trans (hb1.mono HB.drew.size)); clear hb1) | (go_simp; go_at_call 23; (with_reducible refine (num2_calls _ _).mono ?_); rintro e w1 ⟨rfl, hb1⟩; first | (replace f0 := cell_later hb1 f0; replace f1 := cell_later hb1 f1; replace f2 := cell_later hb1 f2; replace f3 := cell_later hb1 f3; replace HB := HB.trans (hb1.mono HB.size)) | (replace f0 := cell_drew hb1 f0; replace f1 := cell_drew hb1 f1; replace f2 := cell_drew hb1 f2; replace f3 := cell_drew hb1 f3; replace HB := HB.drew.trans (hb1.mono HB.drew.size)); clear hb1))
      go_wp2_with fail
      go_roundw
      case rel => exact ⟨k + 1, hlt, by rw [HT.out], by go_num, HB⟩
      case measure => simp [intOf]; omega
    · obtain rfl : k = xs.length := by omega
      go_wp2_with fail
      go_ret2
      exact ⟨rfl, hb⟩

end Go.Proofs.YtpgkgpecbjjifaaGreat
