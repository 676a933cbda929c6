/- Seals: the walk. -/
import Derived.Test.YtpgkgpecbjjifaaGreatPlD
namespace Go.Proofs.YtpgkgpecbjjifaaGreat
open Go.RowKit Sha
set_option linter.unusedSimpArgs false


set_option maxRecDepth 100000 in
set_option maxHeartbeats 2000000 in
theorem seals_calls (p : Packet) (A1 A2 A3 : Option Addr) (k1 k2 k3 : Nat) (k : Key) (b c : Int) (w : World) (hs : k.secret.size ≤ 140737488351232) (hP : PktAt w A1 A2 A3 k1 k2 k3 p) :
    Calls Tryz.prog 6 #[.agg #[.int .i64 p.kind, .int .i64 p.router, .slice A1 p.heard.length k1, .slice A2 p.lsas.length k2, .slice A3 p.heads.length k3], .agg #[.int .i64 k.id, .string k.secret, .int .i64 k.sf, .int .i64 k.st, .int .i64 k.af, .int .i64 k.ak], .int .i64 b, .int .i64 c] w fun e w' => e = .returned (.bool true) ∧ Below w.heap.size w w' := by
  obtain ⟨W1, hW1⟩ : ∃ W1, W1 = (w.alloc (.cells #[.int .i64 p.kind, .int .i64 p.router, .slice A1 p.heard.length k1, .slice A2 p.lsas.length k2, .slice A3 p.heads.length k3] 49)).alloc (.cells #[.int .i64 k.id, .string k.secret, .int .i64 k.sf, .int .i64 k.st, .int .i64 k.af, .int .i64 k.ak] 34) := ⟨_, rfl⟩
  have HB : Below w.heap.size w W1 := by rw [hW1]; exact ((Below.refl _ _).alloc (Nat.le_refl _) _).alloc (by simp) _
  have c0 : W1.cell? ⟨w.heap.size, 0, none⟩ = some (.int .i64 p.kind) := by rw [hW1]; exact cell_later ((Below.refl _ _).alloc (Nat.le_refl _) _) (cell_new w _ _ 0)
  have c1 : W1.cell? ⟨w.heap.size, 1, none⟩ = some (.int .i64 p.router) := by rw [hW1]; exact cell_later ((Below.refl _ _).alloc (Nat.le_refl _) _) (cell_new w _ _ 1)
  have c2 : W1.cell? ⟨w.heap.size, 2, none⟩ = some (.slice A1 p.heard.length k1) := by rw [hW1]; exact cell_later ((Below.refl _ _).alloc (Nat.le_refl _) _) (cell_new w _ _ 2)
  have c3 : W1.cell? ⟨w.heap.size, 3, none⟩ = some (.slice A2 p.lsas.length k2) := by rw [hW1]; exact cell_later ((Below.refl _ _).alloc (Nat.le_refl _) _) (cell_new w _ _ 3)
  have c4 : W1.cell? ⟨w.heap.size, 4, none⟩ = some (.slice A3 p.heads.length k3) := by rw [hW1]; exact cell_later ((Below.refl _ _).alloc (Nat.le_refl _) _) (cell_new w _ _ 4)
  have d0 : W1.cell? ⟨w.heap.size + 1, 0, none⟩ = some (.int .i64 k.id) := by rw [hW1, show w.heap.size + 1 = (w.alloc (.cells #[.int .i64 p.kind, .int .i64 p.router, .slice A1 p.heard.length k1, .slice A2 p.lsas.length k2, .slice A3 p.heads.length k3] 49)).heap.size by simp]; exact cell_new _ _ _ 0
  have d1 : W1.cell? ⟨w.heap.size + 1, 1, none⟩ = some (.string k.secret) := by rw [hW1, show w.heap.size + 1 = (w.alloc (.cells #[.int .i64 p.kind, .int .i64 p.router, .slice A1 p.heard.length k1, .slice A2 p.lsas.length k2, .slice A3 p.heads.length k3] 49)).heap.size by simp]; exact cell_new _ _ _ 1
  have d2 : W1.cell? ⟨w.heap.size + 1, 2, none⟩ = some (.int .i64 k.sf) := by rw [hW1, show w.heap.size + 1 = (w.alloc (.cells #[.int .i64 p.kind, .int .i64 p.router, .slice A1 p.heard.length k1, .slice A2 p.lsas.length k2, .slice A3 p.heads.length k3] 49)).heap.size by simp]; exact cell_new _ _ _ 2
  have d3 : W1.cell? ⟨w.heap.size + 1, 3, none⟩ = some (.int .i64 k.st) := by rw [hW1, show w.heap.size + 1 = (w.alloc (.cells #[.int .i64 p.kind, .int .i64 p.router, .slice A1 p.heard.length k1, .slice A2 p.lsas.length k2, .slice A3 p.heads.length k3] 49)).heap.size by simp]; exact cell_new _ _ _ 3
  have d4 : W1.cell? ⟨w.heap.size + 1, 4, none⟩ = some (.int .i64 k.af) := by rw [hW1, show w.heap.size + 1 = (w.alloc (.cells #[.int .i64 p.kind, .int .i64 p.router, .slice A1 p.heard.length k1, .slice A2 p.lsas.length k2, .slice A3 p.heads.length k3] 49)).heap.size by simp]; exact cell_new _ _ _ 4
  have d5 : W1.cell? ⟨w.heap.size + 1, 5, none⟩ = some (.int .i64 k.ak) := by rw [hW1, show w.heap.size + 1 = (w.alloc (.cells #[.int .i64 p.kind, .int .i64 p.router, .slice A1 p.heard.length k1, .slice A2 p.lsas.length k2, .slice A3 p.heads.length k3] 49)).heap.size by simp]; exact cell_new _ _ _ 5
  have HP := Lib.hid (hP.below HB)
  have HW1 := Lib.hid hW1
  clear hP hW1
  have HZ := Lib.hid (show k.secret.size ≤ 140737488355328 by omega)
  clear hs
  go_enter Tryz.func6, Tryz.ntmps6
  go_wp2_with fail
  rw [← HW1.out]
  clear HW1
  ((with_reducible refine (copyPacket_calls p A1 A2 A3 k1 k2 k3 _ HP.out).mono ?_); rintro e w1 ⟨B1, B2, B3, m1, m2, m3, rfl, hQ, hb1⟩)
  replace c0 := cell_later hb1 c0
  replace c1 := cell_later hb1 c1
  replace c2 := cell_later hb1 c2
  replace c3 := cell_later hb1 c3
  replace c4 := cell_later hb1 c4
  replace d0 := cell_later hb1 d0
  replace d1 := cell_later hb1 d1
  replace d2 := cell_later hb1 d2
  replace d3 := cell_later hb1 d3
  replace d4 := cell_later hb1 d4
  replace d5 := cell_later hb1 d5
  replace HB := HB.trans (hb1.mono HB.size)
  replace HP := Lib.hid (HP.out.below hb1)
  have hb2 := below_one w1 (.cells #[.int .i64 p.kind, .int .i64 p.router, .slice B1 p.heard.length m1, .slice B2 p.lsas.length m2, .slice B3 p.heads.length m3] 49)
  have c0' := fun o => cell_old (o := o) c0
  have c1' := fun o => cell_old (o := o) c1
  have c2' := fun o => cell_old (o := o) c2
  have c3' := fun o => cell_old (o := o) c3
  have c4' := fun o => cell_old (o := o) c4
  have d0' := fun o => cell_old (o := o) d0
  have d1' := fun o => cell_old (o := o) d1
  have d2' := fun o => cell_old (o := o) d2
  have d3' := fun o => cell_old (o := o) d3
  have d4' := fun o => cell_old (o := o) d4
  have d5' := fun o => cell_old (o := o) d5
  have e0 : (w1.alloc (.cells #[.int .i64 p.kind, .int .i64 p.router, .slice B1 p.heard.length m1, .slice B2 p.lsas.length m2, .slice B3 p.heads.length m3] 49)).cell? ⟨w1.heap.size, 0, none⟩ = some (.int .i64 p.kind) := cell_fresh rfl rfl
  have e1 : (w1.alloc (.cells #[.int .i64 p.kind, .int .i64 p.router, .slice B1 p.heard.length m1, .slice B2 p.lsas.length m2, .slice B3 p.heads.length m3] 49)).cell? ⟨w1.heap.size, 1, none⟩ = some (.int .i64 p.router) := cell_fresh rfl rfl
  have e2 : (w1.alloc (.cells #[.int .i64 p.kind, .int .i64 p.router, .slice B1 p.heard.length m1, .slice B2 p.lsas.length m2, .slice B3 p.heads.length m3] 49)).cell? ⟨w1.heap.size, 2, none⟩ = some (.slice B1 p.heard.length m1) := cell_fresh rfl rfl
  have e3 : (w1.alloc (.cells #[.int .i64 p.kind, .int .i64 p.router, .slice B1 p.heard.length m1, .slice B2 p.lsas.length m2, .slice B3 p.heads.length m3] 49)).cell? ⟨w1.heap.size, 3, none⟩ = some (.slice B2 p.lsas.length m2) := cell_fresh rfl rfl
  have e4 : (w1.alloc (.cells #[.int .i64 p.kind, .int .i64 p.router, .slice B1 p.heard.length m1, .slice B2 p.lsas.length m2, .slice B3 p.heads.length m3] 49)).cell? ⟨w1.heap.size, 4, none⟩ = some (.slice B3 p.heads.length m3) := cell_fresh rfl rfl
  have HQ := Lib.hid (hQ.below hb2)
  clear hQ hb1
  go_wp2_with fail
  replace c0 := cell_later hb2 c0
  replace c1 := cell_later hb2 c1
  replace c2 := cell_later hb2 c2
  replace c3 := cell_later hb2 c3
  replace c4 := cell_later hb2 c4
  replace d0 := cell_later hb2 d0
  replace d1 := cell_later hb2 d1
  replace d2 := cell_later hb2 d2
  replace d3 := cell_later hb2 d3
  replace d4 := cell_later hb2 d4
  replace d5 := cell_later hb2 d5
  replace HB := HB.trans (hb2.mono HB.size)
  replace HP := Lib.hid (HP.out.below hb2)
  clear hb2 c0' c1' c2' c3' c4' d0' d1' d2' d3' d4' d5'
  generalize (w1.alloc (.cells #[.int .i64 p.kind, .int .i64 p.router, .slice B1 p.heard.length m1, .slice B2 p.lsas.length m2, .slice B3 p.heads.length m3] 49)) = w2 at *
  cases h : sealOk p k b c
  · have H1 := fun W => Lib.hid (seal_false p B1 B2 B3 m1 m2 m3 k b c W h HZ.out)
    have H2 := fun W => Lib.hid (refSeal_false p A1 A2 A3 k1 k2 k3 k b c W h HZ.out)
    have H3 := fun W => Lib.hid (samePacket_true p B1 B2 B3 A1 A2 A3 m1 m2 m3 k1 k2 k3 W)
    clear h
    ((with_reducible refine ((H1 _).out HQ.out).mono ?_); rintro e w3 ⟨rfl, hb1⟩)
    replace c0 := cell_later hb1 c0
    replace c1 := cell_later hb1 c1
    replace c2 := cell_later hb1 c2
    replace c3 := cell_later hb1 c3
    replace c4 := cell_later hb1 c4
    replace d0 := cell_later hb1 d0
    replace d1 := cell_later hb1 d1
    replace d2 := cell_later hb1 d2
    replace d3 := cell_later hb1 d3
    replace d4 := cell_later hb1 d4
    replace d5 := cell_later hb1 d5
    replace e0 := cell_later hb1 e0
    replace e1 := cell_later hb1 e1
    replace e2 := cell_later hb1 e2
    replace e3 := cell_later hb1 e3
    replace e4 := cell_later hb1 e4
    replace HB := HB.trans (hb1.mono HB.size)
    replace HP := Lib.hid (HP.out.below hb1)
    replace HQ := Lib.hid (HQ.out.below hb1)
    clear hb1
    go_wp2_with fail
    ((with_reducible refine ((H2 _).out HP.out).mono ?_); rintro e w3 ⟨rfl, hb1⟩)
    replace c0 := cell_later hb1 c0
    replace c1 := cell_later hb1 c1
    replace c2 := cell_later hb1 c2
    replace c3 := cell_later hb1 c3
    replace c4 := cell_later hb1 c4
    replace d0 := cell_later hb1 d0
    replace d1 := cell_later hb1 d1
    replace d2 := cell_later hb1 d2
    replace d3 := cell_later hb1 d3
    replace d4 := cell_later hb1 d4
    replace d5 := cell_later hb1 d5
    replace e0 := cell_later hb1 e0
    replace e1 := cell_later hb1 e1
    replace e2 := cell_later hb1 e2
    replace e3 := cell_later hb1 e3
    replace e4 := cell_later hb1 e4
    replace HB := HB.trans (hb1.mono HB.size)
    replace HP := Lib.hid (HP.out.below hb1)
    replace HQ := Lib.hid (HQ.out.below hb1)
    clear hb1
    go_wp2_with fail
    ((with_reducible refine (errNum_calls _ _).mono ?_); rintro e w3 ⟨rfl, rfl⟩)
    go_wp2_with fail
    ((with_reducible refine ((H3 _).out HQ.out HP.out).mono ?_); rintro e w3 ⟨rfl, hb1⟩)
    replace HB := HB.trans (hb1.mono HB.size)
    replace HP := Lib.hid (HP.out.below hb1)
    replace HQ := Lib.hid (HQ.out.below hb1)
    clear hb1
    go_wp2_with fail
    ((with_reducible refine (awake15_calls _).mono ?_); rintro e w3 ⟨rfl, hb1⟩)
    replace HB := HB.trans (hb1.mono HB.size)
    clear hb1
    go_wp2_with fail
    go_ret
    exact ⟨rfl, HB⟩
  · have H1 := fun W => Lib.hid (seal_true p B1 B2 B3 m1 m2 m3 k b c W h)
    have H2 := fun W => Lib.hid (refSeal_true p A1 A2 A3 k1 k2 k3 k b c W h)
    have H3 := fun W => Lib.hid (samePacket_true p B1 B2 B3 A1 A2 A3 m1 m2 m3 k1 k2 k3 W)
    clear h
    generalize sealBytes p k b c = SB at *
    ((with_reducible refine ((H1 _).out HQ.out).mono ?_); rintro e w3 ⟨rfl, hb1⟩)
    replace c0 := cell_later hb1 c0
    replace c1 := cell_later hb1 c1
    replace c2 := cell_later hb1 c2
    replace c3 := cell_later hb1 c3
    replace c4 := cell_later hb1 c4
    replace d0 := cell_later hb1 d0
    replace d1 := cell_later hb1 d1
    replace d2 := cell_later hb1 d2
    replace d3 := cell_later hb1 d3
    replace d4 := cell_later hb1 d4
    replace d5 := cell_later hb1 d5
    replace e0 := cell_later hb1 e0
    replace e1 := cell_later hb1 e1
    replace e2 := cell_later hb1 e2
    replace e3 := cell_later hb1 e3
    replace e4 := cell_later hb1 e4
    replace HB := HB.trans (hb1.mono HB.size)
    replace HP := Lib.hid (HP.out.below hb1)
    replace HQ := Lib.hid (HQ.out.below hb1)
    clear hb1
    go_wp2_with fail
    ((with_reducible refine ((H2 _).out HP.out).mono ?_); rintro e w3 ⟨rfl, hb1⟩)
    replace c0 := cell_later hb1 c0
    replace c1 := cell_later hb1 c1
    replace c2 := cell_later hb1 c2
    replace c3 := cell_later hb1 c3
    replace c4 := cell_later hb1 c4
    replace d0 := cell_later hb1 d0
    replace d1 := cell_later hb1 d1
    replace d2 := cell_later hb1 d2
    replace d3 := cell_later hb1 d3
    replace d4 := cell_later hb1 d4
    replace d5 := cell_later hb1 d5
    replace e0 := cell_later hb1 e0
    replace e1 := cell_later hb1 e1
    replace e2 := cell_later hb1 e2
    replace e3 := cell_later hb1 e3
    replace e4 := cell_later hb1 e4
    replace HB := HB.trans (hb1.mono HB.size)
    replace HP := Lib.hid (HP.out.below hb1)
    replace HQ := Lib.hid (HQ.out.below hb1)
    clear hb1
    go_wp2_with fail
    ((with_reducible refine (errNum_calls _ _).mono ?_); rintro e w3 ⟨rfl, rfl⟩)
    go_wp2_with fail
    ((with_reducible refine ((H3 _).out HQ.out HP.out).mono ?_); rintro e w3 ⟨rfl, hb1⟩)
    replace HB := HB.trans (hb1.mono HB.size)
    replace HP := Lib.hid (HP.out.below hb1)
    replace HQ := Lib.hid (HQ.out.below hb1)
    clear hb1
    go_wp2_with fail
    ((with_reducible refine (awake15_calls _).mono ?_); rintro e w3 ⟨rfl, hb1⟩)
    replace HB := HB.trans (hb1.mono HB.size)
    clear hb1
    go_wp2_with fail
    go_ret
    exact ⟨rfl, HB⟩

end Go.Proofs.YtpgkgpecbjjifaaGreat
