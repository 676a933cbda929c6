/- Comparisons of Lsas, of packets. -/
import Derived.Test.YtpgkgpecbjjifaaGreatPkR
import Derived.Test.YtpgkgpecbjjifaaGreatPkS
namespace Go.Proofs.YtpgkgpecbjjifaaGreat
open Go.RowKit Sha
set_option linter.unusedSimpArgs false


theorem lsa_eq (a b : Lsa) : a = b ↔ a.router = b.router ∧ a.serial = b.serial ∧ a.age = b.age ∧ a.links = b.links := by
  obtain ⟨a1, a2, a3, a4⟩ := a
  obtain ⟨b1, b2, b3, b4⟩ := b
  simp

set_option maxRecDepth 100000 in
set_option maxHeartbeats 2000000 in
theorem sameLsa_calls (a b : Lsa) (A B : Option Addr) (c d : Nat) (w : World) (hA : RowAt encLink 2 w A a.links) (hB : RowAt encLink 2 w B b.links) (hl : a.links.length ≤ 140737488355328) :
    Calls Tryz.prog 145 #[.agg #[.int .i64 a.router, .int .i64 a.serial, .int .i64 a.age, .slice A a.links.length c], .agg #[.int .i64 b.router, .int .i64 b.serial, .int .i64 b.age, .slice B b.links.length d]] w (Tells (a = b) w) := by
  obtain ⟨v1, e1⟩ : ∃ v, (a.router == b.router) = v := ⟨_, rfl⟩
  obtain ⟨v2, e2⟩ : ∃ v, (a.serial == b.serial) = v := ⟨_, rfl⟩
  obtain ⟨v3, e3⟩ : ∃ v, (a.age == b.age) = v := ⟨_, rfl⟩
  have hiff : a = b ↔ v1 = true ∧ v2 = true ∧ v3 = true ∧ a.links = b.links := by
    rw [lsa_eq, ← e1, ← e2, ← e3]
    simp
  have HI := Lib.hid hiff
  clear hiff
  obtain ⟨W1, hW1⟩ : ∃ W1, W1 = (w.alloc (.cells #[.int .i64 a.router, .int .i64 a.serial, .int .i64 a.age, .slice A a.links.length c] 91)).alloc (.cells #[.int .i64 b.router, .int .i64 b.serial, .int .i64 b.age, .slice B b.links.length d] 91) := ⟨_, rfl⟩
  have HB : Below w.heap.size w W1 := by rw [hW1]; exact ((Below.refl _ _).alloc (Nat.le_refl _) _).alloc (by simp) _
  have c0 : W1.cell? ⟨w.heap.size, 0, none⟩ = some (.int .i64 a.router) := by rw [hW1]; exact cell_later ((Below.refl _ _).alloc (Nat.le_refl _) _) (cell_new w _ _ 0)
  have c1 : W1.cell? ⟨w.heap.size, 1, none⟩ = some (.int .i64 a.serial) := by rw [hW1]; exact cell_later ((Below.refl _ _).alloc (Nat.le_refl _) _) (cell_new w _ _ 1)
  have c2 : W1.cell? ⟨w.heap.size, 2, none⟩ = some (.int .i64 a.age) := by rw [hW1]; exact cell_later ((Below.refl _ _).alloc (Nat.le_refl _) _) (cell_new w _ _ 2)
  have c3 : W1.cell? ⟨w.heap.size, 3, none⟩ = some (.slice A a.links.length c) := by rw [hW1]; exact cell_later ((Below.refl _ _).alloc (Nat.le_refl _) _) (cell_new w _ _ 3)
  have d0 : W1.cell? ⟨w.heap.size + 1, 0, none⟩ = some (.int .i64 b.router) := by rw [hW1, show w.heap.size + 1 = (w.alloc (.cells #[.int .i64 a.router, .int .i64 a.serial, .int .i64 a.age, .slice A a.links.length c] 91)).heap.size by simp]; exact cell_new _ _ _ 0
  have d1 : W1.cell? ⟨w.heap.size + 1, 1, none⟩ = some (.int .i64 b.serial) := by rw [hW1, show w.heap.size + 1 = (w.alloc (.cells #[.int .i64 a.router, .int .i64 a.serial, .int .i64 a.age, .slice A a.links.length c] 91)).heap.size by simp]; exact cell_new _ _ _ 1
  have d2 : W1.cell? ⟨w.heap.size + 1, 2, none⟩ = some (.int .i64 b.age) := by rw [hW1, show w.heap.size + 1 = (w.alloc (.cells #[.int .i64 a.router, .int .i64 a.serial, .int .i64 a.age, .slice A a.links.length c] 91)).heap.size by simp]; exact cell_new _ _ _ 2
  have d3 : W1.cell? ⟨w.heap.size + 1, 3, none⟩ = some (.slice B b.links.length d) := by rw [hW1, show w.heap.size + 1 = (w.alloc (.cells #[.int .i64 a.router, .int .i64 a.serial, .int .i64 a.age, .slice A a.links.length c] 91)).heap.size by simp]; exact cell_new _ _ _ 3
  have hr1 := hA.below HB
  have hr2 := hB.below HB
  have HM := fun W => Lib.hid (sameLinks_calls A B c d a.links b.links W)
  have HL := Lib.hid hl
  clear hA hB hl
  generalize a.router = x1 at *
  generalize b.router = y1 at *
  generalize a.serial = x2 at *
  generalize b.serial = y2 at *
  generalize a.age = x3 at *
  generalize b.age = y3 at *
  generalize a.links = x4 at *
  generalize b.links = y4 at *
  have HW1 := Lib.hid hW1
  clear hW1
  rcases and4 v1 v2 v3 with rfl | ⟨rfl, rfl⟩ | ⟨rfl, rfl, rfl⟩ | ⟨rfl, rfl, rfl⟩
  · go_enter Tryz.func145, Tryz.ntmps145
    go_wp2_with fail
    go_ret
    exact ⟨false, rfl, ⟨fun h => (by cases h), fun h => absurd (HI.out.mp h) (by simp)⟩, by rw [← HW1.out]; exact HB⟩
  · go_enter Tryz.func145, Tryz.ntmps145
    go_wp2_with fail
    go_ret
    exact ⟨false, rfl, ⟨fun h => (by cases h), fun h => absurd (HI.out.mp h) (by simp)⟩, by rw [← HW1.out]; exact HB⟩
  · go_enter Tryz.func145, Tryz.ntmps145
    go_wp2_with fail
    go_ret
    exact ⟨false, rfl, ⟨fun h => (by cases h), fun h => absurd (HI.out.mp h) (by simp)⟩, by rw [← HW1.out]; exact HB⟩
  · go_enter Tryz.func145, Tryz.ntmps145
    go_wp2_with fail
    rw [← HW1.out]
    ((with_reducible refine ((HM _).out hr1 hr2 HL.out).mono ?_); rintro e w1 ⟨v, rfl, hv, hb1⟩)
    have HV := Lib.hid hv
    clear hv
    replace HB := HB.trans (hb1.mono HB.size)
    go_wp2_with fail
    go_ret
    exact ⟨v, rfl, HV.out.trans (by rw [HI.out]; simp), HB⟩

set_option maxRecDepth 100000 in
set_option maxHeartbeats 2000000 in
theorem sameLsas_calls (A B : Option Addr) (c d : Nat) (xs ys : List Lsa) (w : World) (hA : LsasAt w A xs) (hB : LsasAt w B ys) (hl : xs.length ≤ 140737488355328) :
    Calls Tryz.prog 67 #[.slice A xs.length c, .slice B ys.length d] w (Tells (xs = ys) w) := by
  by_cases hn : ys.length = xs.length
  · rw [hn]
    have h0 : (0 : Int) ≤ (xs.length : Int) := by omega
    have h1 : (xs.length : Int) ≤ 140737488355328 := by omega
    have HA := Lib.hid hA
    have HB := Lib.hid hB
    have HN := Lib.hid hn
    clear hA hB hn
    go_enter Tryz.func67, Tryz.ntmps67
    go_wp2_with fail
    go_loopw [5] (fun i wr => ∃ k : Nat, k ≤ xs.length ∧ i = .int .i64 k ∧ (∀ j, j < k → at_ xs j = at_ ys j) ∧ Below w.heap.size w wr) (fun i _ => xs.length - (intOf i).toNat)
    case atStart => exact ⟨0, Nat.zero_le _, rfl, fun j hj => absurd hj (Nat.not_lt_zero _), Below.refl _ _⟩
    case round =>
      obtain ⟨k, hk, rfl, hj, HW⟩ := hrel
      have HJ := Lib.hid hj
      clear hj
      by_cases hlt : k < xs.length
      · have hlt1 : (k : Int) < (xs.length : Int) := by omega
        obtain ⟨ad, X, cx, rfl, c0, c1, c2, c3, hr1, hl1, -⟩ := (HA.out.below HW) k _ (at_get xs k hlt)
        obtain ⟨bd, Y, cy, rfl, d0, d1, d2, d3, hr2, _, -⟩ := (HB.out.below HW) k _ (at_get ys k (by have := HN.out; omega))
        have HM := fun W => Lib.hid (sameLsa_calls (at_ xs k) (at_ ys k) X Y cx cy W)
        have HL := Lib.hid hl1
        have HQ := Lib.hid (show at_ xs k = at_ ys k → ∀ j, j < k + 1 → at_ xs j = at_ ys j from fun h => all_succ (f := fun j => at_ xs j = at_ ys j) HJ.out h)
        have HE := Lib.hid (show ¬ at_ xs k = at_ ys k → ¬ xs = ys from fun h e => h (by rw [e]))
        clear hl1
        generalize at_ xs k = x at *
        generalize at_ ys k = y at *
        generalize hx0 : x.router = x0 at *
        generalize hx1 : x.serial = x1 at *
        generalize hx2 : x.age = x2 at *
        generalize hx3 : x.links = x3 at *
        generalize hy0 : y.router = y0 at *
        generalize hy1 : y.serial = y1 at *
        generalize hy2 : y.age = y2 at *
        generalize hy3 : y.links = y3 at *
        clear hx0 hx1 hx2 hx3 hy0 hy1 hy2 hy3
        go_wp2_with fail
        first | (go_region_held3 (fun w' => w'.cell? (ad.add (k * 4)) = some (.int .i64 x0) ∧ w'.cell? ⟨(ad.add (k * 4)).block, (ad.add (k * 4)).off + 1, none⟩ = some (.int .i64 x1) ∧ w'.cell? ⟨(ad.add (k * 4)).block, (ad.add (k * 4)).off + 2, none⟩ = some (.int .i64 x2) ∧ w'.cell? ⟨(ad.add (k * 4)).block, (ad.add (k * 4)).off + 3, none⟩ = some (.slice X x3.length cx) ∧ w'.cell? (bd.add (k * 4)) = some (.int .i64 y0) ∧ w'.cell? ⟨(bd.add (k * 4)).block, (bd.add (k * 4)).off + 1, none⟩ = some (.int .i64 y1) ∧ w'.cell? ⟨(bd.add (k * 4)).block, (bd.add (k * 4)).off + 2, none⟩ = some (.int .i64 y2) ∧ w'.cell? ⟨(bd.add (k * 4)).block, (bd.add (k * 4)).off + 3, none⟩ = some (.slice Y y3.length cy)) (first | exact ⟨c0, c1, c2, c3, d0, d1, d2, d3⟩) (first | (go_simp; go_at_call 145; (with_reducible refine ((HM _).out hr1 hr2 HL.out).mono ?_); rintro e w1 ⟨v, rfl, hv, hb1⟩; have HV := Lib.hid hv; clear hv; first | (replace HW := HW.trans (hb1.mono HW.size); replace c0 := cell_later hb1 c0; replace c1 := cell_later hb1 c1; replace c2 := cell_later hb1 c2; replace c3 := cell_later hb1 c3; replace d0 := cell_later hb1 d0; replace d1 := cell_later hb1 d1; replace d2 := cell_later hb1 d2; replace d3 := cell_later hb1 d3) | (replace HW := HW.drew.trans (hb1.mono HW.drew.size); replace c0 := cell_drew hb1 c0; replace c1 := cell_drew hb1 c1; replace c2 := cell_drew hb1 c2; replace c3 := cell_drew hb1 c3; replace d0 := cell_drew hb1 d0; replace d1 := cell_drew hb1 d1; replace d2 := cell_drew hb1 d2; replace d3 := cell_drew hb1 d3)) | (go_simp; go_at_call 145; (with_reducible refine ((HM _).out hr1.drew hr2.drew HL.out).mono ?_); rintro e w1 ⟨v, rfl, hv, hb1⟩; have HV := Lib.hid hv; clear hv; first | (replace HW := HW.trans (hb1.mono HW.size); replace c0 := cell_later hb1 c0; replace c1 := cell_later hb1 c1; replace c2 := cell_later hb1 c2; replace c3 := cell_later hb1 c3; replace d0 := cell_later hb1 d0; replace d1 := cell_later hb1 d1; replace d2 := cell_later hb1 d2; replace d3 := cell_later hb1 d3) | (replace HW := HW.drew.trans (hb1.mono HW.drew.size); replace c0 := cell_drew hb1 c0; replace c1 := cell_drew hb1 c1; replace c2 := cell_drew hb1 c2; replace c3 := cell_drew hb1 c3; replace d0 := cell_drew hb1 d0; replace d1 := cell_drew hb1 d1; replace d2 := cell_drew hb1 d2; replace d3 := cell_drew hb1 d3)))) | (fail)
        cases v
        · go_wp2_with fail
          go_ret
          exact ⟨false, rfl, ⟨fun h => (by cases h), fun h => absurd h (HE.out fun e => (by cases HV.out.mpr e))⟩, HW⟩
        · go_wp2_with fail
          go_roundw
          case rel => exact ⟨k + 1, hlt, by go_num, HQ.out (HV.out.mp rfl), HW⟩
          case measure => simp [intOf]; omega
      · obtain rfl : k = xs.length := by omega
        go_wp2_with fail
        go_ret
        exact ⟨true, rfl, ⟨fun _ => ext_at xs ys HN.out HJ.out, fun _ => rfl⟩, HW⟩
  · have hn1 : ¬ (xs.length : Int) = (ys.length : Int) := by omega
    have HN := Lib.hid hn
    clear hn
    go_enter Tryz.func67, Tryz.ntmps67
    go_wp2_with fail
    go_ret
    exact ⟨false, rfl, ⟨fun h => (by cases h), fun h => absurd (by rw [h]) HN.out⟩, Below.refl _ _⟩

set_option maxRecDepth 100000 in
set_option maxHeartbeats 2000000 in
theorem samePacket_true (p : Packet) (A1 A2 A3 B1 B2 B3 : Option Addr) (k1 k2 k3 m1 m2 m3 : Nat) (w : World) (hP : PktAt w A1 A2 A3 k1 k2 k3 p) (hQ : PktAt w B1 B2 B3 m1 m2 m3 p) :
    Calls Tryz.prog 21 #[.agg #[.int .i64 p.kind, .int .i64 p.router, .slice A1 p.heard.length k1, .slice A2 p.lsas.length k2, .slice A3 p.heads.length k3], .agg #[.int .i64 p.kind, .int .i64 p.router, .slice B1 p.heard.length m1, .slice B2 p.lsas.length m2, .slice B3 p.heads.length m3]] w fun e w' => e = .returned (.bool true) ∧ Below w.heap.size w w' := by
  obtain ⟨W1, hW1⟩ : ∃ W1, W1 = (w.alloc (.cells #[.int .i64 p.kind, .int .i64 p.router, .slice A1 p.heard.length k1, .slice A2 p.lsas.length k2, .slice A3 p.heads.length k3] 49)).alloc (.cells #[.int .i64 p.kind, .int .i64 p.router, .slice B1 p.heard.length m1, .slice B2 p.lsas.length m2, .slice B3 p.heads.length m3] 49) := ⟨_, rfl⟩
  have HB : Below w.heap.size w W1 := by rw [hW1]; exact ((Below.refl _ _).alloc (Nat.le_refl _) _).alloc (by simp) _
  have c0 : W1.cell? ⟨w.heap.size, 0, none⟩ = some (.int .i64 p.kind) := by rw [hW1]; exact cell_later ((Below.refl _ _).alloc (Nat.le_refl _) _) (cell_new w _ _ 0)
  have c1 : W1.cell? ⟨w.heap.size, 1, none⟩ = some (.int .i64 p.router) := by rw [hW1]; exact cell_later ((Below.refl _ _).alloc (Nat.le_refl _) _) (cell_new w _ _ 1)
  have c2 : W1.cell? ⟨w.heap.size, 2, none⟩ = some (.slice A1 p.heard.length k1) := by rw [hW1]; exact cell_later ((Below.refl _ _).alloc (Nat.le_refl _) _) (cell_new w _ _ 2)
  have c3 : W1.cell? ⟨w.heap.size, 3, none⟩ = some (.slice A2 p.lsas.length k2) := by rw [hW1]; exact cell_later ((Below.refl _ _).alloc (Nat.le_refl _) _) (cell_new w _ _ 3)
  have c4 : W1.cell? ⟨w.heap.size, 4, none⟩ = some (.slice A3 p.heads.length k3) := by rw [hW1]; exact cell_later ((Below.refl _ _).alloc (Nat.le_refl _) _) (cell_new w _ _ 4)
  have d0 : W1.cell? ⟨w.heap.size + 1, 0, none⟩ = some (.int .i64 p.kind) := by rw [hW1, show w.heap.size + 1 = (w.alloc (.cells #[.int .i64 p.kind, .int .i64 p.router, .slice A1 p.heard.length k1, .slice A2 p.lsas.length k2, .slice A3 p.heads.length k3] 49)).heap.size by simp]; exact cell_new _ _ _ 0
  have d1 : W1.cell? ⟨w.heap.size + 1, 1, none⟩ = some (.int .i64 p.router) := by rw [hW1, show w.heap.size + 1 = (w.alloc (.cells #[.int .i64 p.kind, .int .i64 p.router, .slice A1 p.heard.length k1, .slice A2 p.lsas.length k2, .slice A3 p.heads.length k3] 49)).heap.size by simp]; exact cell_new _ _ _ 1
  have d2 : W1.cell? ⟨w.heap.size + 1, 2, none⟩ = some (.slice B1 p.heard.length m1) := by rw [hW1, show w.heap.size + 1 = (w.alloc (.cells #[.int .i64 p.kind, .int .i64 p.router, .slice A1 p.heard.length k1, .slice A2 p.lsas.length k2, .slice A3 p.heads.length k3] 49)).heap.size by simp]; exact cell_new _ _ _ 2
  have d3 : W1.cell? ⟨w.heap.size + 1, 3, none⟩ = some (.slice B2 p.lsas.length m2) := by rw [hW1, show w.heap.size + 1 = (w.alloc (.cells #[.int .i64 p.kind, .int .i64 p.router, .slice A1 p.heard.length k1, .slice A2 p.lsas.length k2, .slice A3 p.heads.length k3] 49)).heap.size by simp]; exact cell_new _ _ _ 3
  have d4 : W1.cell? ⟨w.heap.size + 1, 4, none⟩ = some (.slice B3 p.heads.length m3) := by rw [hW1, show w.heap.size + 1 = (w.alloc (.cells #[.int .i64 p.kind, .int .i64 p.router, .slice A1 p.heard.length k1, .slice A2 p.lsas.length k2, .slice A3 p.heads.length k3] 49)).heap.size by simp]; exact cell_new _ _ _ 4
  have HP := Lib.hid (hP.below HB)
  have HQ := Lib.hid (hQ.below HB)
  have L1 := Lib.hid (show p.heard.length ≤ 140737488355328 by have := hP.n1; omega)
  have L2 := Lib.hid (show p.lsas.length ≤ 140737488355328 by have := hP.n2; omega)
  have L3 := Lib.hid (show p.heads.length ≤ 140737488355328 by have := hP.n3; omega)
  have HW1 := Lib.hid hW1
  clear hP hQ hW1
  go_enter Tryz.func21, Tryz.ntmps21
  go_wp2_with fail
  rw [← HW1.out]
  clear HW1
  ((with_reducible refine (sameInts_calls A1 B1 k1 m1 p.heard p.heard _ HP.out.heard HQ.out.heard L1.out).mono ?_); rintro e w1 ⟨v, rfl, hv, hb1⟩)
  obtain rfl : v = true := hv.mpr rfl
  clear hv
  replace c0 := cell_later hb1 c0
  replace c1 := cell_later hb1 c1
  replace c2 := cell_later hb1 c2
  replace c3 := cell_later hb1 c3
  replace c4 := cell_later hb1 c4
  replace d0 := cell_later hb1 d0
  replace d1 := cell_later hb1 d1
  replace d2 := cell_later hb1 d2
  replace d3 := cell_later hb1 d3
  replace d4 := cell_later hb1 d4
  replace HB := HB.trans (hb1.mono HB.size)
  replace HP := Lib.hid (HP.out.below hb1)
  replace HQ := Lib.hid (HQ.out.below hb1)
  clear hb1
  go_wp2_with fail
  ((with_reducible refine (sameLsas_calls A2 B2 k2 m2 p.lsas p.lsas _ HP.out.lsas HQ.out.lsas L2.out).mono ?_); rintro e w1 ⟨v, rfl, hv, hb1⟩)
  obtain rfl : v = true := hv.mpr rfl
  clear hv
  replace c0 := cell_later hb1 c0
  replace c1 := cell_later hb1 c1
  replace c2 := cell_later hb1 c2
  replace c3 := cell_later hb1 c3
  replace c4 := cell_later hb1 c4
  replace d0 := cell_later hb1 d0
  replace d1 := cell_later hb1 d1
  replace d2 := cell_later hb1 d2
  replace d3 := cell_later hb1 d3
  replace d4 := cell_later hb1 d4
  replace HB := HB.trans (hb1.mono HB.size)
  replace HP := Lib.hid (HP.out.below hb1)
  replace HQ := Lib.hid (HQ.out.below hb1)
  clear hb1
  go_wp2_with fail
  ((with_reducible refine (sameHeads_calls A3 B3 k3 m3 p.heads p.heads _ HP.out.heads HQ.out.heads L3.out).mono ?_); rintro e w1 ⟨v, rfl, hv, hb1⟩)
  obtain rfl : v = true := hv.mpr rfl
  clear hv
  replace c0 := cell_later hb1 c0
  replace c1 := cell_later hb1 c1
  replace c2 := cell_later hb1 c2
  replace c3 := cell_later hb1 c3
  replace c4 := cell_later hb1 c4
  replace d0 := cell_later hb1 d0
  replace d1 := cell_later hb1 d1
  replace d2 := cell_later hb1 d2
  replace d3 := cell_later hb1 d3
  replace d4 := cell_later hb1 d4
  replace HB := HB.trans (hb1.mono HB.size)
  replace HP := Lib.hid (HP.out.below hb1)
  replace HQ := Lib.hid (HQ.out.below hb1)
  clear hb1
  go_wp2_with fail
  go_ret
  exact ⟨rfl, HB⟩

end Go.Proofs.YtpgkgpecbjjifaaGreat
