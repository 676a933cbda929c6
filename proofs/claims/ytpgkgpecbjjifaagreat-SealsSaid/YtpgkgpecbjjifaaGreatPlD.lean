/- Chapter 15: awake, Seals. -/
import Derived.Test.YtpgkgpecbjjifaaGreatPlC
import Derived.Test.YtpgkgpecbjjifaaGreatPkW
import Derived.Test.YtpgkgpecbjjifaaGreatPkX
import Derived.Deep.RegionHeld3
namespace Go.Proofs.YtpgkgpecbjjifaaGreat
open Go.RowKit Sha
set_option linter.unusedSimpArgs false


set_option maxRecDepth 100000 in
set_option maxHeartbeats 400000 in
theorem errNum_calls (x : Int) (w : World) : Calls Tryz.prog 19 #[.int .i64 x] w fun e w' => e = .returned (.int .i64 x) ∧ w = w' := by
  go_enter Tryz.func19, Tryz.ntmps19
  go_wp2_with fail
  go_ret
  exact ⟨rfl, rfl⟩

def key15 : Key := ⟨7, ⟨#[115, 101, 99, 114, 101, 116]⟩, 0, 99, 0, 99⟩
def pkt15 : Packet := ⟨1, 2, [1], [], []⟩
def pkt0 : Packet := ⟨0, 0, [], [], []⟩
theorem ok15 : sealOk pkt15 key15 3 4 = true := by kernel_rfl
theorem bad15 : sealOk pkt15 key15 0 4 = false := by kernel_rfl
theorem none15 : sealOk pkt0 key15 3 4 = false := by kernel_rfl
theorem size15 : (sealBytes pkt15 key15 3 4).size = 58 := by
  rw [sealBytes, sealHead, pktBytes, ByteArray.size_append, ByteArray.size_append, ByteArray.size_append, mac_size, numbers_size, pktHead_size]
  show 12 + (hello [1]).size + 12 + 32 = 58
  rw [hello_size]
  rfl
theorem pkt0_at (w : World) : PktAt w none none none 0 0 0 pkt0 := ⟨RowAt.empty, fun j x hx => by simp [pkt0] at hx, RowAt.empty, by decide, by decide, by decide, (fun a ha => by cases ha), fun _ => rfl, fun _ => rfl, fun _ => rfl⟩
theorem pkt15_at (w : World) (b : Nat) (h : w.cell? ⟨b, 0, none⟩ = some (.int .i64 1)) : PktAt w (some ⟨b, 0, none⟩) none none 1 0 0 pkt15 := by
  refine ⟨fun j x hx => ?_, fun j x hx => by simp [pkt15] at hx, RowAt.empty, by decide, by decide, by decide, (fun a ha => by cases ha), (fun h => by cases h), fun _ => rfl, fun _ => rfl⟩
  refine ⟨_, rfl, fun i v hv => ?_⟩
  match j, hx with
  | 0, hx =>
    obtain rfl : (1 : Int) = x := by simpa [pkt15] using hx
    match i, hv with
    | 0, hv =>
      obtain rfl : Value.int .i64 1 = v := by simpa [encInt] using hv
      exact h
    | i + 1, hv => simp [encInt] at hv
  | j + 1, hx => simp [pkt15] at hx

set_option maxRecDepth 100000 in
set_option maxHeartbeats 400000 in
theorem key15_calls (w : World) : Calls Tryz.prog 84 #[] w fun e w' => e = .returned (.agg #[.int .i64 7, .string ⟨#[115, 101, 99, 114, 101, 116]⟩, .int .i64 0, .int .i64 99, .int .i64 0, .int .i64 99]) ∧ Below w.heap.size w w' := by
  go_enter Tryz.func84, Tryz.ntmps84
  go_wp2_with fail
  refine bodyPost_ret (v := (.agg #[.int .i64 7, .string ⟨#[115, 101, 99, 114, 101, 116]⟩, .int .i64 0, .int .i64 99, .int .i64 0, .int .i64 99])) (results_cell rfl _ _ ⟨w.heap.size, 0, none⟩ _ rfl (by go_simp)) rfl ⟨rfl, below_one _ _⟩

set_option maxRecDepth 100000 in
set_option maxHeartbeats 2000000 in
theorem awake15_calls (w : World) : Calls Tryz.prog 29 #[] w fun e w' => e = .returned (.bool true) ∧ Below w.heap.size w w' := by
  obtain ⟨W1, hW1⟩ : ∃ W1, W1 = (w.alloc (.cells #[.int .i64 1] 3)).alloc (.cells #[.int .i64 1, .int .i64 2, .slice (some ⟨w.heap.size, 0, none⟩) 1 1, .slice none 0 0, .slice none 0 0] 49) := ⟨_, rfl⟩
  have HB : Below w.heap.size w W1 := by rw [hW1]; exact below_two _ _ _
  have c9 : W1.cell? ⟨w.heap.size, 0, none⟩ = some (.int .i64 1) := by rw [hW1]; exact cell_old (cell_fresh rfl rfl)
  have c0 : W1.cell? ⟨w.heap.size + 1, 0, none⟩ = some (.int .i64 1) := by rw [hW1]; exact cell_fresh (by simp) rfl
  have c1 : W1.cell? ⟨w.heap.size + 1, 1, none⟩ = some (.int .i64 2) := by rw [hW1]; exact cell_fresh (by simp) rfl
  have c2 : W1.cell? ⟨w.heap.size + 1, 2, none⟩ = some (.slice (some ⟨w.heap.size, 0, none⟩) 1 1) := by rw [hW1]; exact cell_fresh (by simp) rfl
  have c3 : W1.cell? ⟨w.heap.size + 1, 3, none⟩ = some (.slice none 0 0) := by rw [hW1]; exact cell_fresh (by simp) rfl
  have c4 : W1.cell? ⟨w.heap.size + 1, 4, none⟩ = some (.slice none 0 0) := by rw [hW1]; exact cell_fresh (by simp) rfl
  have HW1 := Lib.hid hW1
  have H1 := fun W (h : W.cell? ⟨w.heap.size, 0, none⟩ = some (.int .i64 1)) => Lib.hid (seal_true pkt15 (some ⟨w.heap.size, 0, none⟩) none none 1 0 0 key15 3 4 W ok15 (pkt15_at W _ h))
  have H2 := fun W (h : W.cell? ⟨w.heap.size, 0, none⟩ = some (.int .i64 1)) => Lib.hid (seal_false pkt15 (some ⟨w.heap.size, 0, none⟩) none none 1 0 0 key15 0 4 W bad15 (by decide) (pkt15_at W _ h))
  have H3 := fun W => Lib.hid (seal_false pkt0 none none none 0 0 0 key15 3 4 W none15 (by decide) (pkt0_at W))
  have hz : ((sealBytes pkt15 key15 3 4).size : Int) = 58 := by rw [size15]; rfl
  generalize sealBytes pkt15 key15 3 4 = SB at *
  clear hW1
  simp only [pkt15, pkt0, key15, List.length_cons, List.length_nil, Nat.zero_add] at H1 H2 H3
  go_enter Tryz.func29, Tryz.ntmps29
  go_wp2_with fail
  rw [← HW1.out]
  clear HW1
  go_region_held3 (fun w' => w'.cell? ⟨w.heap.size + 1, 0, none⟩ = some (.int .i64 1) ∧ w'.cell? ⟨w.heap.size + 1, 1, none⟩ = some (.int .i64 2) ∧ w'.cell? ⟨w.heap.size + 1, 2, none⟩ = some (.slice (some ⟨w.heap.size, 0, none⟩) 1 1) ∧ w'.cell? ⟨w.heap.size + 1, 3, none⟩ = some (.slice none 0 0) ∧ w'.cell? ⟨w.heap.size + 1, 4, none⟩ = some (.slice none 0 0)) (first | exact ⟨c0, c1, c2, c3, c4⟩) (first | (go_simp; go_at_call 84; (with_reducible refine (key15_calls _).mono ?_); rintro e w1 ⟨rfl, hb1⟩; first | (replace c0 := cell_later hb1 c0; replace c1 := cell_later hb1 c1; replace c2 := cell_later hb1 c2; replace c3 := cell_later hb1 c3; replace c4 := cell_later hb1 c4; replace c9 := cell_later hb1 c9; replace HB := HB.trans (hb1.mono HB.size)) | (replace c0 := cell_drew hb1 c0; replace c1 := cell_drew hb1 c1; replace c2 := cell_drew hb1 c2; replace c3 := cell_drew hb1 c3; replace c4 := cell_drew hb1 c4; replace c9 := cell_drew hb1 c9; replace HB := HB.drew.trans (hb1.mono HB.drew.size)); clear hb1) | (go_simp; go_at_call 17; (with_reducible refine ((H1 _ c9).out).mono ?_); rintro e w1 ⟨rfl, hb1⟩; first | (replace c0 := cell_later hb1 c0; replace c1 := cell_later hb1 c1; replace c2 := cell_later hb1 c2; replace c3 := cell_later hb1 c3; replace c4 := cell_later hb1 c4; replace c9 := cell_later hb1 c9; replace HB := HB.trans (hb1.mono HB.size)) | (replace c0 := cell_drew hb1 c0; replace c1 := cell_drew hb1 c1; replace c2 := cell_drew hb1 c2; replace c3 := cell_drew hb1 c3; replace c4 := cell_drew hb1 c4; replace c9 := cell_drew hb1 c9; replace HB := HB.drew.trans (hb1.mono HB.drew.size)); clear hb1))
  go_wp2_with fail
  go_region_held3 (fun w' => w'.cell? ⟨w.heap.size + 1, 0, none⟩ = some (.int .i64 1) ∧ w'.cell? ⟨w.heap.size + 1, 1, none⟩ = some (.int .i64 2) ∧ w'.cell? ⟨w.heap.size + 1, 2, none⟩ = some (.slice (some ⟨w.heap.size, 0, none⟩) 1 1) ∧ w'.cell? ⟨w.heap.size + 1, 3, none⟩ = some (.slice none 0 0) ∧ w'.cell? ⟨w.heap.size + 1, 4, none⟩ = some (.slice none 0 0)) (first | exact ⟨c0, c1, c2, c3, c4⟩) (first | (go_simp; go_at_call 84; (with_reducible refine (key15_calls _).mono ?_); rintro e w1 ⟨rfl, hb1⟩; first | (replace c0 := cell_later hb1 c0; replace c1 := cell_later hb1 c1; replace c2 := cell_later hb1 c2; replace c3 := cell_later hb1 c3; replace c4 := cell_later hb1 c4; replace c9 := cell_later hb1 c9; replace HB := HB.trans (hb1.mono HB.size)) | (replace c0 := cell_drew hb1 c0; replace c1 := cell_drew hb1 c1; replace c2 := cell_drew hb1 c2; replace c3 := cell_drew hb1 c3; replace c4 := cell_drew hb1 c4; replace c9 := cell_drew hb1 c9; replace HB := HB.drew.trans (hb1.mono HB.drew.size)); clear hb1) | (go_simp; go_at_call 17; (with_reducible refine ((H2 _ c9).out).mono ?_); rintro e w1 ⟨rfl, hb1⟩; first | (replace c0 := cell_later hb1 c0; replace c1 := cell_later hb1 c1; replace c2 := cell_later hb1 c2; replace c3 := cell_later hb1 c3; replace c4 := cell_later hb1 c4; replace c9 := cell_later hb1 c9; replace HB := HB.trans (hb1.mono HB.size)) | (replace c0 := cell_drew hb1 c0; replace c1 := cell_drew hb1 c1; replace c2 := cell_drew hb1 c2; replace c3 := cell_drew hb1 c3; replace c4 := cell_drew hb1 c4; replace c9 := cell_drew hb1 c9; replace HB := HB.drew.trans (hb1.mono HB.drew.size)); clear hb1))
  go_wp2_with fail
  ((with_reducible refine (key15_calls _).mono ?_); rintro e w1 ⟨rfl, hb1⟩)
  replace HB := HB.trans (hb1.mono HB.size)
  clear hb1
  go_wp2_with fail
  ((with_reducible refine ((H3 _).out).mono ?_); rintro e w1 ⟨rfl, hb1⟩)
  replace HB := HB.trans (hb1.mono HB.size)
  clear hb1
  go_wp2_with fail
  ((with_reducible refine (errNum_calls _ _).mono ?_); rintro e w1 ⟨rfl, rfl⟩)
  go_wp2_with fail
  ((with_reducible refine (errNum_calls _ _).mono ?_); rintro e w1 ⟨rfl, rfl⟩)
  go_wp2_with fail
  ((with_reducible refine (errNum_calls _ _).mono ?_); rintro e w1 ⟨rfl, rfl⟩)
  go_wp2_with fail
  go_ret
  exact ⟨rfl, HB⟩

end Go.Proofs.YtpgkgpecbjjifaaGreat
