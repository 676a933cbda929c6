/- Copies of packets. -/
import Derived.Test.YtpgkgpecbjjifaaGreatPkR
import Derived.Test.YtpgkgpecbjjifaaGreatPkU
import Derived.Deep.RegionHeld3
namespace Go.Proofs.YtpgkgpecbjjifaaGreat
open Go.RowKit Sha
set_option linter.unusedSimpArgs false


theorem info_int : (Tryz.prog.info? 3).map (fun i => (i.zero, i.size, i.bytes)) = some (some (.int .i64 0), 1, 8) := by kernel_rfl
theorem info_head : (Tryz.prog.info? 214).map (fun i => (i.zero, i.size, i.bytes)) = some (some (.agg #[.int .i64 0, .int .i64 0, .int .i64 0, .int .i64 0]), 4, 32) := by kernel_rfl
def PktCopied (p : Packet) (w : World) (e : Ending) (w' : World) : Prop := ∃ A1 A2 A3 k1 k2 k3, e = .returned (.agg #[.int .i64 p.kind, .int .i64 p.router, .slice A1 p.heard.length k1, .slice A2 p.lsas.length k2, .slice A3 p.heads.length k3]) ∧ PktAt w' A1 A2 A3 k1 k2 k3 p ∧ Below w.heap.size w w'
/-- What CopyPacket has, in the middle of its work: its argument's box, the result's place, the packet. -/
structure PSt (p : Packet) (A1 A2 A3 : Option Addr) (k1 k2 k3 : Nat) (b : Nat) (W : World) : Prop where
  c0 : W.cell? ⟨b, 0, none⟩ = some (.int .i64 p.kind)
  c1 : W.cell? ⟨b, 1, none⟩ = some (.int .i64 p.router)
  c2 : W.cell? ⟨b, 2, none⟩ = some (.slice A1 p.heard.length k1)
  c3 : W.cell? ⟨b, 3, none⟩ = some (.slice A2 p.lsas.length k2)
  c4 : W.cell? ⟨b, 4, none⟩ = some (.slice A3 p.heads.length k3)
  r0 : W.cell? ⟨b + 1, 0, none⟩ = some (.int .i64 0)
  r1 : W.cell? ⟨b + 1, 1, none⟩ = some (.int .i64 0)
  r2 : W.cell? ⟨b + 1, 2, none⟩ = some (.slice none 0 0)
  r3 : W.cell? ⟨b + 1, 3, none⟩ = some (.slice none 0 0)
  r4 : W.cell? ⟨b + 1, 4, none⟩ = some (.slice none 0 0)
  g0 : W.frozen? ⟨b + 1, 0, none⟩ = false
  g1 : W.frozen? ⟨b + 1, 1, none⟩ = false
  g2 : W.frozen? ⟨b + 1, 2, none⟩ = false
  g3 : W.frozen? ⟨b + 1, 3, none⟩ = false
  g4 : W.frozen? ⟨b + 1, 4, none⟩ = false
  sz : b + 2 ≤ W.heap.size
  pkt : PktAt W A1 A2 A3 k1 k2 k3 p
theorem PSt.below {p : Packet} {A1 A2 A3 : Option Addr} {k1 k2 k3 : Nat} {b : Nat} {W W' : World} (h : PSt p A1 A2 A3 k1 k2 k3 b W) (hb : Below W.heap.size W W') : PSt p A1 A2 A3 k1 k2 k3 b W' :=
  ⟨cell_later hb h.c0, cell_later hb h.c1, cell_later hb h.c2, cell_later hb h.c3, cell_later hb h.c4, cell_later hb h.r0, cell_later hb h.r1, cell_later hb h.r2, cell_later hb h.r3, cell_later hb h.r4, frozen_later hb (Nat.lt_of_succ_le h.sz) h.g0, frozen_later hb (Nat.lt_of_succ_le h.sz) h.g1, frozen_later hb (Nat.lt_of_succ_le h.sz) h.g2, frozen_later hb (Nat.lt_of_succ_le h.sz) h.g3, frozen_later hb (Nat.lt_of_succ_le h.sz) h.g4, Nat.le_trans h.sz hb.size, h.pkt.below hb⟩
theorem below_one (w : World) (o : Obj) : Below w.heap.size w (w.alloc o) := (Below.refl _ _).alloc (Nat.le_refl _) _
theorem below_two (w : World) (o o' : Obj) : Below w.heap.size w ((w.alloc o).alloc o') := (below_one w o).alloc (by simp) _

set_option maxRecDepth 100000 in
set_option maxHeartbeats 4000000 in
theorem copyPacket_calls (p : Packet) (A1 A2 A3 : Option Addr) (k1 k2 k3 : Nat) (w : World) (hP : PktAt w A1 A2 A3 k1 k2 k3 p) :
    Calls Tryz.prog 27 #[.agg #[.int .i64 p.kind, .int .i64 p.router, .slice A1 p.heard.length k1, .slice A2 p.lsas.length k2, .slice A3 p.heads.length k3]] w (PktCopied p w) := by
  obtain ⟨i0, hi, hz0, hz1, hz2⟩ := info_parts info_int
  have HI := Lib.hid hi
  have Z0 := Lib.hid hz0
  have Z1 := Lib.hid hz1
  have Z2 := Lib.hid hz2
  clear hi hz0 hz1 hz2
  obtain ⟨i1, hi, hz0, hz1, hz2⟩ := info_parts info_head
  have HI1 := Lib.hid hi
  have Y0 := Lib.hid hz0
  have Y1 := Lib.hid hz1
  have Y2 := Lib.hid hz2
  clear hi hz0 hz1 hz2
  obtain ⟨W1, hW1⟩ : ∃ W1, W1 = (w.alloc (.cells #[.int .i64 p.kind, .int .i64 p.router, .slice A1 p.heard.length k1, .slice A2 p.lsas.length k2, .slice A3 p.heads.length k3] 49)).alloc (.cells #[.int .i64 0, .int .i64 0, .slice none 0 0, .slice none 0 0, .slice none 0 0] 49) := ⟨_, rfl⟩
  have HB : Below w.heap.size w W1 := by rw [hW1]; exact below_two _ _ _
  have HN := Lib.hid (And.intro hP.n1 (And.intro hP.n2 (And.intro hP.n3 hP.n4)))
  have HZ := Lib.hid (And.intro hP.z1 (And.intro hP.z2 hP.z3))
  have HS : PSt p A1 A2 A3 k1 k2 k3 w.heap.size W1 := by
    refine ⟨?_, ?_, ?_, ?_, ?_, ?_, ?_, ?_, ?_, ?_, ?_, ?_, ?_, ?_, ?_, by rw [hW1]; simp, hP.below HB⟩
    all_goals rw [hW1]
    all_goals first | exact cell_old (cell_fresh rfl rfl) | exact cell_fresh (by simp) rfl | exact frozen_fresh (by simp)
  have HS0 := Lib.hid HS
  clear hP HS
  go_enter Tryz.func27, Tryz.ntmps27
  go_wp2_with fail
  rw [← hW1]
  clear hW1
  go_region_held3 (fun w' => w'.cell? ⟨w.heap.size, 0, none⟩ = some (.int .i64 p.kind) ∧ w'.cell? ⟨w.heap.size, 1, none⟩ = some (.int .i64 p.router) ∧ w'.cell? ⟨w.heap.size, 2, none⟩ = some (.slice A1 p.heard.length k1) ∧ w'.cell? ⟨w.heap.size, 3, none⟩ = some (.slice A2 p.lsas.length k2) ∧ w'.cell? ⟨w.heap.size, 4, none⟩ = some (.slice A3 p.heads.length k3)) (first | with_reducible exact ⟨(HSC.out).c0, (HSC.out).c1, (HSC.out).c2, (HSC.out).c3, (HSC.out).c4⟩ | with_reducible exact ⟨(HSC.out.below (below_one _ _)).c0, (HSC.out.below (below_one _ _)).c1, (HSC.out.below (below_one _ _)).c2, (HSC.out.below (below_one _ _)).c3, (HSC.out.below (below_one _ _)).c4⟩ | with_reducible exact ⟨(HSC.out.below (below_two _ _ _)).c0, (HSC.out.below (below_two _ _ _)).c1, (HSC.out.below (below_two _ _ _)).c2, (HSC.out.below (below_two _ _ _)).c3, (HSC.out.below (below_two _ _ _)).c4⟩ | with_reducible exact ⟨(HSC.out.below ((Below.refl _ _).drew)).c0, (HSC.out.below ((Below.refl _ _).drew)).c1, (HSC.out.below ((Below.refl _ _).drew)).c2, (HSC.out.below ((Below.refl _ _).drew)).c3, (HSC.out.below ((Below.refl _ _).drew)).c4⟩ | with_reducible exact ⟨(HSC.out.below ((below_one _ _).drew)).c0, (HSC.out.below ((below_one _ _).drew)).c1, (HSC.out.below ((below_one _ _).drew)).c2, (HSC.out.below ((below_one _ _).drew)).c3, (HSC.out.below ((below_one _ _).drew)).c4⟩ | with_reducible exact ⟨(HSC.out.below ((below_two _ _ _).drew)).c0, (HSC.out.below ((below_two _ _ _).drew)).c1, (HSC.out.below ((below_two _ _ _).drew)).c2, (HSC.out.below ((below_two _ _ _).drew)).c3, (HSC.out.below ((below_two _ _ _).drew)).c4⟩ | with_reducible exact ⟨(HSB.out).c0, (HSB.out).c1, (HSB.out).c2, (HSB.out).c3, (HSB.out).c4⟩ | with_reducible exact ⟨(HSB.out.below (below_one _ _)).c0, (HSB.out.below (below_one _ _)).c1, (HSB.out.below (below_one _ _)).c2, (HSB.out.below (below_one _ _)).c3, (HSB.out.below (below_one _ _)).c4⟩ | with_reducible exact ⟨(HSB.out.below (below_two _ _ _)).c0, (HSB.out.below (below_two _ _ _)).c1, (HSB.out.below (below_two _ _ _)).c2, (HSB.out.below (below_two _ _ _)).c3, (HSB.out.below (below_two _ _ _)).c4⟩ | with_reducible exact ⟨(HSB.out.below ((Below.refl _ _).drew)).c0, (HSB.out.below ((Below.refl _ _).drew)).c1, (HSB.out.below ((Below.refl _ _).drew)).c2, (HSB.out.below ((Below.refl _ _).drew)).c3, (HSB.out.below ((Below.refl _ _).drew)).c4⟩ | with_reducible exact ⟨(HSB.out.below ((below_one _ _).drew)).c0, (HSB.out.below ((below_one _ _).drew)).c1, (HSB.out.below ((below_one _ _).drew)).c2, (HSB.out.below ((below_one _ _).drew)).c3, (HSB.out.below ((below_one _ _).drew)).c4⟩ | with_reducible exact ⟨(HSB.out.below ((below_two _ _ _).drew)).c0, (HSB.out.below ((below_two _ _ _).drew)).c1, (HSB.out.below ((below_two _ _ _).drew)).c2, (HSB.out.below ((below_two _ _ _).drew)).c3, (HSB.out.below ((below_two _ _ _).drew)).c4⟩ | with_reducible exact ⟨(HSA.out).c0, (HSA.out).c1, (HSA.out).c2, (HSA.out).c3, (HSA.out).c4⟩ | with_reducible exact ⟨(HSA.out.below (below_one _ _)).c0, (HSA.out.below (below_one _ _)).c1, (HSA.out.below (below_one _ _)).c2, (HSA.out.below (below_one _ _)).c3, (HSA.out.below (below_one _ _)).c4⟩ | with_reducible exact ⟨(HSA.out.below (below_two _ _ _)).c0, (HSA.out.below (below_two _ _ _)).c1, (HSA.out.below (below_two _ _ _)).c2, (HSA.out.below (below_two _ _ _)).c3, (HSA.out.below (below_two _ _ _)).c4⟩ | with_reducible exact ⟨(HSA.out.below ((Below.refl _ _).drew)).c0, (HSA.out.below ((Below.refl _ _).drew)).c1, (HSA.out.below ((Below.refl _ _).drew)).c2, (HSA.out.below ((Below.refl _ _).drew)).c3, (HSA.out.below ((Below.refl _ _).drew)).c4⟩ | with_reducible exact ⟨(HSA.out.below ((below_one _ _).drew)).c0, (HSA.out.below ((below_one _ _).drew)).c1, (HSA.out.below ((below_one _ _).drew)).c2, (HSA.out.below ((below_one _ _).drew)).c3, (HSA.out.below ((below_one _ _).drew)).c4⟩ | with_reducible exact ⟨(HSA.out.below ((below_two _ _ _).drew)).c0, (HSA.out.below ((below_two _ _ _).drew)).c1, (HSA.out.below ((below_two _ _ _).drew)).c2, (HSA.out.below ((below_two _ _ _).drew)).c3, (HSA.out.below ((below_two _ _ _).drew)).c4⟩ | with_reducible exact ⟨(HS0.out).c0, (HS0.out).c1, (HS0.out).c2, (HS0.out).c3, (HS0.out).c4⟩ | with_reducible exact ⟨(HS0.out.below (below_one _ _)).c0, (HS0.out.below (below_one _ _)).c1, (HS0.out.below (below_one _ _)).c2, (HS0.out.below (below_one _ _)).c3, (HS0.out.below (below_one _ _)).c4⟩ | with_reducible exact ⟨(HS0.out.below (below_two _ _ _)).c0, (HS0.out.below (below_two _ _ _)).c1, (HS0.out.below (below_two _ _ _)).c2, (HS0.out.below (below_two _ _ _)).c3, (HS0.out.below (below_two _ _ _)).c4⟩ | with_reducible exact ⟨(HS0.out.below ((Below.refl _ _).drew)).c0, (HS0.out.below ((Below.refl _ _).drew)).c1, (HS0.out.below ((Below.refl _ _).drew)).c2, (HS0.out.below ((Below.refl _ _).drew)).c3, (HS0.out.below ((Below.refl _ _).drew)).c4⟩ | with_reducible exact ⟨(HS0.out.below ((below_one _ _).drew)).c0, (HS0.out.below ((below_one _ _).drew)).c1, (HS0.out.below ((below_one _ _).drew)).c2, (HS0.out.below ((below_one _ _).drew)).c3, (HS0.out.below ((below_one _ _).drew)).c4⟩ | with_reducible exact ⟨(HS0.out.below ((below_two _ _ _).drew)).c0, (HS0.out.below ((below_two _ _ _).drew)).c1, (HS0.out.below ((below_two _ _ _).drew)).c2, (HS0.out.below ((below_two _ _ _).drew)).c3, (HS0.out.below ((below_two _ _ _).drew)).c4⟩ | (refine ⟨?_, ?_, ?_, ?_, ?_⟩ <;> rw [World.cell?_setCell_far _ _ _ _ (by simp), World.cell?_setCell_far _ _ _ _ (by simp), World.cell?_setCell_far _ _ _ _ (by simp), World.cell?_setCell_far _ _ _ _ (by simp), World.cell?_setCell_far _ _ _ _ (by simp)] <;> first | exact HSC.out.c0 | exact HSC.out.c1 | exact HSC.out.c2 | exact HSC.out.c3 | exact HSC.out.c4)) (first | (refine step_copy _ rfl _ _ 22 rfl 3 i0 _ 1 8 Tryz.underlying22 HI.out Z0.out Z1.out Z2.out rfl encInt (fun _ => rfl) _ rfl A1 p.heard k1 rfl (by first | exact (HS0.out.below (Below.refl _ _)).pkt.heard | exact (HS0.out.below (below_one _ _)).pkt.heard | exact (HS0.out.below (below_two _ _ _)).pkt.heard | exact (HS0.out.below ((Below.refl _ _).drew)).pkt.heard | exact (HS0.out.below ((below_one _ _).drew)).pkt.heard | exact (HS0.out.below ((below_two _ _ _).drew)).pkt.heard) HZ.out.1 (by have := HN.out.1; unfold maxLen; omega) HN.out.1 ?_; intro B1 m1 wA hC; (first | (have hk : Below W1.heap.size W1 wA := Below.trans (Below.refl _ _) (Below.mono hC.below (by simp <;> omega))) | (have hk : Below W1.heap.size W1 wA := Below.trans (below_one _ _) (Below.mono hC.below (by simp <;> omega))) | (have hk : Below W1.heap.size W1 wA := Below.trans (below_two _ _ _) (Below.mono hC.below (by simp <;> omega))) | (have hk : Below W1.heap.size W1 wA := Below.trans ((Below.refl _ _).drew) (Below.mono hC.below (by simp <;> omega))) | (have hk : Below W1.heap.size W1 wA := Below.trans ((below_one _ _).drew) (Below.mono hC.below (by simp <;> omega))) | (have hk : Below W1.heap.size W1 wA := Below.trans ((below_two _ _ _).drew) (Below.mono hC.below (by simp <;> omega)))); have HSA := Lib.hid (HS0.out.below hk); replace HB := HB.trans (hk.mono HB.size); have HKwA := Lib.hid hk; have RA := Lib.hid hC; clear hC hk) | (go_simp; go_at_call 79; (with_reducible refine (copyLsas_calls A2 k2 p.lsas _ (by first | exact (HSA.out.below (Below.refl _ _)).pkt.lsas | exact (HSA.out.below (below_one _ _)).pkt.lsas | exact (HSA.out.below (below_two _ _ _)).pkt.lsas | exact (HSA.out.below ((Below.refl _ _).drew)).pkt.lsas | exact (HSA.out.below ((below_one _ _).drew)).pkt.lsas | exact (HSA.out.below ((below_two _ _ _).drew)).pkt.lsas) HN.out.2.1 HN.out.2.2.2).mono ?_); rintro e wB ⟨B2, m2, rfl, hr2, hn2, hb2⟩; (first | (have hk : Below wA.heap.size wA wB := Below.trans (Below.refl _ _) (Below.mono hb2 (by simp <;> omega))) | (have hk : Below wA.heap.size wA wB := Below.trans (below_one _ _) (Below.mono hb2 (by simp <;> omega))) | (have hk : Below wA.heap.size wA wB := Below.trans (below_two _ _ _) (Below.mono hb2 (by simp <;> omega))) | (have hk : Below wA.heap.size wA wB := Below.trans ((Below.refl _ _).drew) (Below.mono hb2 (by simp <;> omega))) | (have hk : Below wA.heap.size wA wB := Below.trans ((below_one _ _).drew) (Below.mono hb2 (by simp <;> omega))) | (have hk : Below wA.heap.size wA wB := Below.trans ((below_two _ _ _).drew) (Below.mono hb2 (by simp <;> omega)))); have HSB := Lib.hid (HSA.out.below hk); replace HB := HB.trans (hk.mono HB.size); have HKwB := Lib.hid hk; have RB := Lib.hid hr2; have NB := Lib.hid hn2; have BB := Lib.hid hb2; clear hr2 hn2 hb2 hk; dsimp only) | (refine step_copy _ rfl _ _ 47 rfl 214 i1 _ 4 32 Tryz.underlying47 HI1.out Y0.out Y1.out Y2.out rfl encHead (fun _ => rfl) _ rfl A3 p.heads k3 rfl (by first | exact (HSB.out.below (Below.refl _ _)).pkt.heads | exact (HSB.out.below (below_one _ _)).pkt.heads | exact (HSB.out.below (below_two _ _ _)).pkt.heads | exact (HSB.out.below ((Below.refl _ _).drew)).pkt.heads | exact (HSB.out.below ((below_one _ _).drew)).pkt.heads | exact (HSB.out.below ((below_two _ _ _).drew)).pkt.heads) HZ.out.2.2 (by have := HN.out.2.2.1; unfold maxLen; omega) HN.out.2.2.1 ?_; intro B3 m3 wC hC; (first | (have hk : Below wB.heap.size wB wC := Below.trans (Below.refl _ _) (Below.mono hC.below (by simp <;> omega))) | (have hk : Below wB.heap.size wB wC := Below.trans (below_one _ _) (Below.mono hC.below (by simp <;> omega))) | (have hk : Below wB.heap.size wB wC := Below.trans (below_two _ _ _) (Below.mono hC.below (by simp <;> omega))) | (have hk : Below wB.heap.size wB wC := Below.trans ((Below.refl _ _).drew) (Below.mono hC.below (by simp <;> omega))) | (have hk : Below wB.heap.size wB wC := Below.trans ((below_one _ _).drew) (Below.mono hC.below (by simp <;> omega))) | (have hk : Below wB.heap.size wB wC := Below.trans ((below_two _ _ _).drew) (Below.mono hC.below (by simp <;> omega)))); have HSC := Lib.hid (HSB.out.below hk); replace HB := HB.trans (hk.mono HB.size); have HKwC := Lib.hid hk; have RC := Lib.hid hC; obtain ⟨_, _, _, _, _, r0, r1, r2, r3, r4, g0, g1, g2, g3, g4, _, _⟩ := HSC.out; clear hC hk))
  all_goals
    have hs0 := HS0.out.sz
    have fA := RA.out.far
    have fC := RC.out.far
    have eB := RB.out
    have kA := (HSA.out.sz)
    have kB := (HSB.out.sz)
    go_wp2_with fail
    refine bodyPost_ret (v := .agg #[.int .i64 p.kind, .int .i64 p.router, .slice B1 p.heard.length m1, .slice B2 p.lsas.length m2, .slice B3 p.heads.length m3]) (results_cell rfl _ _ ⟨w.heap.size + 1, 0, none⟩ _ rfl (by go_simp)) rfl ⟨B1, B2, B3, m1, m2, m3, rfl, ⟨?_, ?_, ?_, HN.out.1, HN.out.2.1, HN.out.2.2.1, HN.out.2.2.2, RA.out.none, NB.out, RC.out.none⟩, ?_⟩
    · refine RowAt.set _ (RowAt.set _ (RowAt.set _ (RowAt.set _ (RowAt.set _ ((RA.out.row.below HKwB.out).below HKwC.out) ?_) ?_) ?_) ?_) ?_
      all_goals
        intro ad e h
        have := fA ad e h
        simp at this ⊢
        omega
    · refine eB _ (Above.set (Above.set (Above.set (Above.set (Above.set (Above.of HKwC.out) ?_ _) ?_ _) ?_ _) ?_ _) ?_ _)
      all_goals
        simp
        omega
    · refine RowAt.set _ (RowAt.set _ (RowAt.set _ (RowAt.set _ (RowAt.set _ RC.out.row ?_) ?_) ?_) ?_) ?_
      all_goals
        intro ad e h
        have := fC ad e h
        simp at this ⊢
        omega
    · exact ((((HB.setCell (Nat.le_succ _) _).setCell (Nat.le_succ _) _).setCell (Nat.le_succ _) _).setCell (Nat.le_succ _) _).setCell (Nat.le_succ _) _

end Go.Proofs.YtpgkgpecbjjifaaGreat
