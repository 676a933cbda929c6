/- Predicates by two bounds; the document's bytes of an Lsa. -/
import Derived.Test.YtpgkgpecbjjifaaGreatPkE
namespace Go.Proofs.YtpgkgpecbjjifaaGreat
open Go.RowKit Sha

set_option maxRecDepth 100000 in
theorem trailerBoot_is (x : Int) (w : World) (v : Bool) (h : upToB x 1 4294967295 = v) : Calls Tryz.prog 52 #[.int .i64 x] w fun e w' => e = .returned (.bool v) ∧ w = w' := by
  subst h
  by_cases h1 : 1 ≤ x
  · by_cases h2 : x ≤ 4294967295
    · have HV := Lib.hid (show upToB x 1 4294967295 = true by simp [upToB, h1, h2])
      go_enter Tryz.func52, Tryz.ntmps52
      go_wp2
      go_ret
      exact ⟨by rw [HV.out]; rfl, rfl⟩
    · have HV := Lib.hid (show upToB x 1 4294967295 = false by simp [upToB, h2])
      go_enter Tryz.func52, Tryz.ntmps52
      go_wp2
      go_ret
      exact ⟨by rw [HV.out]; rfl, rfl⟩
  · have HV := Lib.hid (show upToB x 1 4294967295 = false by simp [upToB, h1])
    go_enter Tryz.func52, Tryz.ntmps52
    go_wp2
    go_ret
    exact ⟨by rw [HV.out]; rfl, rfl⟩

set_option maxRecDepth 100000 in
theorem trailerCount_is (x : Int) (w : World) (v : Bool) (h : upToB x 1 4294967295 = v) : Calls Tryz.prog 53 #[.int .i64 x] w fun e w' => e = .returned (.bool v) ∧ w = w' := by
  subst h
  by_cases h1 : 1 ≤ x
  · by_cases h2 : x ≤ 4294967295
    · have HV := Lib.hid (show upToB x 1 4294967295 = true by simp [upToB, h1, h2])
      go_enter Tryz.func53, Tryz.ntmps53
      go_wp2
      go_ret
      exact ⟨by rw [HV.out]; rfl, rfl⟩
    · have HV := Lib.hid (show upToB x 1 4294967295 = false by simp [upToB, h2])
      go_enter Tryz.func53, Tryz.ntmps53
      go_wp2
      go_ret
      exact ⟨by rw [HV.out]; rfl, rfl⟩
  · have HV := Lib.hid (show upToB x 1 4294967295 = false by simp [upToB, h1])
    go_enter Tryz.func53, Tryz.ntmps53
    go_wp2
    go_ret
    exact ⟨by rw [HV.out]; rfl, rfl⟩

set_option maxRecDepth 100000 in
theorem chainNow_is (x : Int) (w : World) (v : Bool) (h : upToB x 0 1048576 = v) : Calls Tryz.prog 58 #[.int .i64 x] w fun e w' => e = .returned (.bool v) ∧ w = w' := by
  subst h
  by_cases h1 : 0 ≤ x
  · by_cases h2 : x ≤ 1048576
    · have HV := Lib.hid (show upToB x 0 1048576 = true by simp [upToB, h1, h2])
      go_enter Tryz.func58, Tryz.ntmps58
      go_wp2
      go_ret
      exact ⟨by rw [HV.out]; rfl, rfl⟩
    · have HV := Lib.hid (show upToB x 0 1048576 = false by simp [upToB, h2])
      go_enter Tryz.func58, Tryz.ntmps58
      go_wp2
      go_ret
      exact ⟨by rw [HV.out]; rfl, rfl⟩
  · have HV := Lib.hid (show upToB x 0 1048576 = false by simp [upToB, h1])
    go_enter Tryz.func58, Tryz.ntmps58
    go_wp2
    go_ret
    exact ⟨by rw [HV.out]; rfl, rfl⟩

set_option maxRecDepth 100000 in
theorem chainId_is (x : Int) (w : World) (v : Bool) (h : upToB x 0 255 = v) : Calls Tryz.prog 133 #[.int .i64 x] w fun e w' => e = .returned (.bool v) ∧ w = w' := by
  subst h
  by_cases h1 : 0 ≤ x
  · by_cases h2 : x ≤ 255
    · have HV := Lib.hid (show upToB x 0 255 = true by simp [upToB, h1, h2])
      go_enter Tryz.func133, Tryz.ntmps133
      go_wp2
      go_ret
      exact ⟨by rw [HV.out]; rfl, rfl⟩
    · have HV := Lib.hid (show upToB x 0 255 = false by simp [upToB, h2])
      go_enter Tryz.func133, Tryz.ntmps133
      go_wp2
      go_ret
      exact ⟨by rw [HV.out]; rfl, rfl⟩
  · have HV := Lib.hid (show upToB x 0 255 = false by simp [upToB, h1])
    go_enter Tryz.func133, Tryz.ntmps133
    go_wp2
    go_ret
    exact ⟨by rw [HV.out]; rfl, rfl⟩

set_option maxRecDepth 100000 in
theorem ref9UpTo_is (x l m : Int) (w : World) (v : Bool) (h : upToB x l m = v) : Calls Tryz.prog 155 #[.int .i64 x, .int .i64 l, .int .i64 m] w fun e w' => e = .returned (.bool v) ∧ w = w' := by
  subst h
  by_cases h1 : l ≤ x
  · by_cases h2 : x ≤ m
    · have HV := Lib.hid (show upToB x l m = true by simp [upToB, h1, h2])
      go_enter Tryz.func155, Tryz.ntmps155
      go_wp2
      go_ret
      exact ⟨by rw [HV.out]; rfl, rfl⟩
    · have HV := Lib.hid (show upToB x l m = false by simp [upToB, h2])
      go_enter Tryz.func155, Tryz.ntmps155
      go_wp2
      go_ret
      exact ⟨by rw [HV.out]; rfl, rfl⟩
  · have HV := Lib.hid (show upToB x l m = false by simp [upToB, h1])
    go_enter Tryz.func155, Tryz.ntmps155
    go_wp2
    go_ret
    exact ⟨by rw [HV.out]; rfl, rfl⟩

set_option maxRecDepth 100000 in
theorem ref9Router_is (x : Int) (w : World) (v : Bool) (h : upToB x 1 4 = v) : Calls Tryz.prog 153 #[.int .i64 x] w fun e w' => e = .returned (.bool v) ∧ w = w' := by
  have H := Lib.hid h
  clear h
  go_enter Tryz.func153, Tryz.ntmps153
  go_wp2_with fail
  ((with_reducible refine (ref9UpTo_is x 1 4 _ v H.out).mono ?_); rintro e w1 ⟨rfl, rfl⟩)
  go_wp2_with fail
  go_ret
  exact ⟨rfl, rfl⟩

set_option maxRecDepth 100000 in
theorem refNow_is (x : Int) (w : World) (v : Bool) (h : upToB x 0 1048576 = v) : Calls Tryz.prog 92 #[.int .i64 x] w fun e w' => e = .returned (.bool v) ∧ w = w' := by
  have H := Lib.hid h
  clear h
  go_enter Tryz.func92, Tryz.ntmps92
  go_wp2_with fail
  ((with_reducible refine (refUpTo_is x 0 1048576 _ v H.out).mono ?_); rintro e w1 ⟨rfl, rfl⟩)
  go_wp2_with fail
  go_ret
  exact ⟨rfl, rfl⟩


theorem num1_calls (x : Int) (w : World) :
    Calls Tryz.prog 23 #[.int .i64 x, .int .i64 1] w fun e w' => e = .returned (.string (num x 1)) ∧ Below w.heap.size w w' := num_calls x 1 w (by decide)
theorem num2_calls (x : Int) (w : World) :
    Calls Tryz.prog 23 #[.int .i64 x, .int .i64 2] w fun e w' => e = .returned (.string (num x 2)) ∧ Below w.heap.size w w' := num_calls x 2 w (by decide)
theorem num3_calls (x : Int) (w : World) :
    Calls Tryz.prog 23 #[.int .i64 x, .int .i64 3] w fun e w' => e = .returned (.string (num x 3)) ∧ Below w.heap.size w w' := num_calls x 3 w (by decide)

/-- The document's order of the same bytes: the links so far. -/
theorem bodyTo_assoc (a : Lsa) (k : Nat) : bodyTo a k ++ num (at_ a.links k).to 1 ++ num (at_ a.links k).cost 2 = bodyTo a (k + 1) := by
  rw [bodyTo, ByteArray.append_assoc]

set_option maxRecDepth 100000 in
set_option maxHeartbeats 400000 in
theorem refBytes_calls (a : Lsa) (A : Option Addr) (c : Nat) (w : World) (hA : RowAt encLink 2 w A a.links) (hl : a.links.length ≤ 4) :
    Calls Tryz.prog 264 #[.agg #[.int .i64 a.router, .int .i64 a.serial, .int .i64 a.age, .slice A a.links.length c]] w fun e w' => e = .returned (.string (body a)) ∧ Below w.heap.size w w' := by
  have l0 : (0 : Int) ≤ (a.links.length : Int) := by omega
  have l1 : (a.links.length : Int) ≤ 4 := by omega
  obtain ⟨W1, hW1⟩ : ∃ W1, W1 = w.alloc (.cells #[.int .i64 a.router, .int .i64 a.serial, .int .i64 a.age, .slice A a.links.length c] 91) := ⟨_, rfl⟩
  have HB : Below w.heap.size w W1 := by rw [hW1]; exact (Below.refl _ _).alloc (Nat.le_refl _) _
  have c0 : W1.cell? ⟨w.heap.size, 0, none⟩ = some (.int .i64 a.router) := by rw [hW1]; exact cell_new w _ _ 0
  have c1 : W1.cell? ⟨w.heap.size, 1, none⟩ = some (.int .i64 a.serial) := by rw [hW1]; exact cell_new w _ _ 1
  have c3 : W1.cell? ⟨w.heap.size, 3, none⟩ = some (.slice A a.links.length c) := by rw [hW1]; exact cell_new w _ _ 3
  obtain ⟨B1, hB1⟩ : ∃ B1, B1 = num a.router 1 ++ num a.serial 4 := ⟨_, rfl⟩
  have ha1 : ∀ W : World, (Op.stringOp .add (num a.router 1) (num a.serial 4)).run Tryz.prog W = .ok (.string B1) W := fun W => by
    rw [run_string_add_sum W _ _ (by rw [num_size, num_size]; omega), hB1]
  have ha2 : ∀ W : World, (Op.stringOp .add B1 (num a.links.length 1)).run Tryz.prog W = .ok (.string (bodyTo a 0)) W := fun W => by
    rw [run_string_add_sum W _ _ (by rw [hB1, ByteArray.size_append, num_size, num_size, num_size]; omega), hB1]
    rfl
  clear hB1
  go_enter Tryz.func264, Tryz.ntmps264
  go_wp2_with fail
  rw [← hW1]
  clear hW1
  go_region_held3 (fun w' => w'.cell? ⟨w.heap.size, 0, none⟩ = some (.int .i64 a.router) ∧ w'.cell? ⟨w.heap.size, 1, none⟩ = some (.int .i64 a.serial) ∧ w'.cell? ⟨w.heap.size, 3, none⟩ = some (.slice A a.links.length c)) (first | exact ⟨c0, c1, c3⟩) (first | (go_simp; go_at_call 23; (with_reducible refine (num1_calls _ _).mono ?_); rintro e w1 ⟨rfl, hb1⟩; first | (replace c0 := cell_later hb1 c0; replace c1 := cell_later hb1 c1; replace c3 := cell_later hb1 c3; replace HB := HB.trans (hb1.mono HB.size)) | (replace c0 := cell_drew hb1 c0; replace c1 := cell_drew hb1 c1; replace c3 := cell_drew hb1 c3; replace HB := HB.drew.trans (hb1.mono HB.drew.size)); clear hb1) | (go_simp; go_at_call 23; (with_reducible refine (num4_calls _ _).mono ?_); rintro e w1 ⟨rfl, hb1⟩; first | (replace c0 := cell_later hb1 c0; replace c1 := cell_later hb1 c1; replace c3 := cell_later hb1 c3; replace HB := HB.trans (hb1.mono HB.size)) | (replace c0 := cell_drew hb1 c0; replace c1 := cell_drew hb1 c1; replace c3 := cell_drew hb1 c3; replace HB := HB.drew.trans (hb1.mono HB.drew.size)); clear hb1))
  go_wp2_with fail
  clear ha1 ha2 c0 c1
  go_loopw [3, 4] (fun s i wr => ∃ k : Nat, k ≤ a.links.length ∧ s = .string (bodyTo a k) ∧ i = .int .i64 k ∧ wr.cell? ⟨w.heap.size, 3, none⟩ = some (.slice A a.links.length c) ∧ Below w.heap.size w wr) (fun _ i _ => a.links.length - (intOf i).toNat)
  case atStart => exact ⟨0, Nat.zero_le _, rfl, rfl, c3, HB⟩
  case round =>
    clear c3 HB
    obtain ⟨k, hk, rfl, rfl, c3, HB⟩ := hrel
    by_cases hlt : k < a.links.length
    · have hlt1 : (k : Int) < (a.links.length : Int) := by omega
      obtain ⟨ad, rfl, f0, f1⟩ := (hA.below HB).link k hlt
      obtain ⟨B2, hB2⟩ : ∃ B2, B2 = bodyTo a k ++ num (at_ a.links k).to 1 := ⟨_, rfl⟩
      have hs := bodyTo_size a k
      have ha1 : ∀ W : World, (Op.stringOp .add (bodyTo a k) (num (at_ a.links k).to 1)).run Tryz.prog W = .ok (.string B2) W := fun W => by
        rw [run_string_add_sum W _ _ (by rw [num_size, hs]; omega), hB2]
      have ha2 : ∀ W : World, (Op.stringOp .add B2 (num (at_ a.links k).cost 2)).run Tryz.prog W = .ok (.string (bodyTo a (k + 1))) W := fun W => by
        rw [run_string_add_sum W _ _ (by rw [hB2, ByteArray.size_append, num_size, num_size, hs]; omega), hB2, bodyTo_assoc]
      obtain ⟨T, hT⟩ : ∃ T, bodyTo a (k + 1) = T := ⟨_, rfl⟩
      rw [hT] at ha2
      have HT := Lib.hid hT
      clear hB2 hs hT
      generalize (at_ a.links k).to = x at *
      generalize (at_ a.links k).cost = y at *
      go_wp2_with fail
      go_region_held3 (fun w' => w'.cell? ⟨w.heap.size, 3, none⟩ = some (.slice (some ad) a.links.length c) ∧ w'.cell? (ad.add (k * 2)) = some (.int .i64 x) ∧ w'.cell? ⟨(ad.add (k * 2)).block, (ad.add (k * 2)).off + 1, none⟩ = some (.int .i64 y)) (first | exact ⟨c3, f0, f1⟩) (first | (go_simp; go_at_call 23; (with_reducible refine (num1_calls _ _).mono ?_); rintro e w1 ⟨rfl, hb1⟩; first | (replace c3 := cell_later hb1 c3; replace f0 := cell_later hb1 f0; replace f1 := cell_later hb1 f1; replace HB := HB.trans (hb1.mono HB.size)) | (replace c3 := cell_drew hb1 c3; replace f0 := cell_drew hb1 f0; replace f1 := cell_drew hb1 f1; replace HB := HB.drew.trans (hb1.mono HB.drew.size)); clear hb1) | (go_simp; go_at_call 23; (with_reducible refine (num2_calls _ _).mono ?_); rintro e w1 ⟨rfl, hb1⟩; first | (replace c3 := cell_later hb1 c3; replace f0 := cell_later hb1 f0; replace f1 := cell_later hb1 f1; replace HB := HB.trans (hb1.mono HB.size)) | (replace c3 := cell_drew hb1 c3; replace f0 := cell_drew hb1 f0; replace f1 := cell_drew hb1 f1; replace HB := HB.drew.trans (hb1.mono HB.drew.size)); clear hb1))
      go_wp2_with fail
      go_roundw
      case rel => exact ⟨k + 1, hlt, by rw [HT.out], by go_num, c3, HB⟩
      case measure => simp [intOf]; omega
    · obtain rfl : k = a.links.length := by omega
      go_wp2_with fail
      go_ret
      exact ⟨rfl, HB⟩
end Go.Proofs.YtpgkgpecbjjifaaGreat
