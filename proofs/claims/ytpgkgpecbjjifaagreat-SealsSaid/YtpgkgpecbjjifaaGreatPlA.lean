/- The document's words on packets. -/
import Derived.Test.YtpgkgpecbjjifaaGreatPkY
namespace Go.Proofs.YtpgkgpecbjjifaaGreat
open Go.RowKit Sha
set_option linter.unusedSimpArgs false


theorem ret_b {b c : Bool} (h : b = c) : Ending.returned (.bool b) = .returned (.bool c) := by rw [h]
theorem sum_zero (a b : Nat) : (((a : Int) + (b : Int)) == 0) = decide (a + b = 0) := by
  rw [Bool.eq_iff_iff, beq_iff_eq, decide_eq_true_iff]
  omega

set_option maxRecDepth 100000 in
set_option maxHeartbeats 2000000 in
theorem refPacketMay_calls (p : Packet) (A1 A2 A3 : Option Addr) (k1 k2 k3 : Nat) (w : World) (v : Bool) (hv : packetMay p = v) (hP : PktAt w A1 A2 A3 k1 k2 k3 p) :
    Calls Tryz.prog 80 #[.agg #[.int .i64 p.kind, .int .i64 p.router, .slice A1 p.heard.length k1, .slice A2 p.lsas.length k2, .slice A3 p.heads.length k3]] w fun e w' => e = .returned (.bool v) ∧ Below w.heap.size w w' := by
  have l1 : (0 : Int) ≤ (p.heard.length : Int) := by omega
  have l2 : (0 : Int) ≤ (p.lsas.length : Int) := by omega
  have l3 : (0 : Int) ≤ (p.heads.length : Int) := by omega
  have m1 : (p.heard.length : Int) ≤ 35184372088832 := by have := hP.n1; omega
  have m2 : (p.lsas.length : Int) ≤ 35184372088832 := by have := hP.n2; omega
  have m3 : (p.heads.length : Int) ≤ 35184372088832 := by have := hP.n3; omega
  obtain ⟨W1, hW1⟩ : ∃ W1, W1 = w.alloc (.cells #[.int .i64 p.kind, .int .i64 p.router, .slice A1 p.heard.length k1, .slice A2 p.lsas.length k2, .slice A3 p.heads.length k3] 49) := ⟨_, rfl⟩
  have HB : Below w.heap.size w W1 := by rw [hW1]; exact (Below.refl _ _).alloc (Nat.le_refl _) _
  have c0 : W1.cell? ⟨w.heap.size, 0, none⟩ = some (.int .i64 p.kind) := by rw [hW1]; exact cell_new w _ _ 0
  have c1 : W1.cell? ⟨w.heap.size, 1, none⟩ = some (.int .i64 p.router) := by rw [hW1]; exact cell_new w _ _ 1
  have c2 : W1.cell? ⟨w.heap.size, 2, none⟩ = some (.slice A1 p.heard.length k1) := by rw [hW1]; exact cell_new w _ _ 2
  have c3 : W1.cell? ⟨w.heap.size, 3, none⟩ = some (.slice A2 p.lsas.length k2) := by rw [hW1]; exact cell_new w _ _ 3
  have c4 : W1.cell? ⟨w.heap.size, 4, none⟩ = some (.slice A3 p.heads.length k3) := by rw [hW1]; exact cell_new w _ _ 4
  have HP := Lib.hid (hP.below HB)
  clear hP
  rw [packetMay, listOk] at hv
  cases hr : routerOk p.router
  · rw [hr] at hv
    have HR := Lib.hid (show upToB p.router 1 4 = false from hr)
    have HV := Lib.hid (show false = v from hv)
    clear hr hv
    go_enter Tryz.func80, Tryz.ntmps80
    go_wp2_with fail
    rw [← hW1]
    clear hW1
    ((with_reducible refine (ref9Router_is _ _ _ HR.out).mono ?_); rintro e w1 ⟨rfl, rfl⟩)
    go_wp2_with fail
    go_ret
    exact ⟨ret_b HV.out, HB⟩
  · rw [hr, Bool.true_and] at hv
    have HR := Lib.hid (show upToB p.router 1 4 = true from hr)
    clear hr
    rcases type_ways p.kind with hk | hk | hk | hk
    · rw [if_pos hk] at hv
      rw [hk] at c0
      have HM := fun W => Lib.hid (refHeardMay_calls A1 k1 p.heard W)
      have HN := Lib.hid (show p.heard.length ≤ 140737488355328 by have := HP.out.n1; omega)
      cases hm : heardMay p.heard
      · rw [hm] at hv HM
        have HV := Lib.hid (show false = v from hv)
        clear hv hm hk
        go_enter Tryz.func80, Tryz.ntmps80
        go_wp2_with fail
        rw [← hW1]
        clear hW1
        ((with_reducible refine (ref9Router_is _ _ _ HR.out).mono ?_); rintro e w1 ⟨rfl, rfl⟩)
        go_wp2_with fail
        ((with_reducible refine ((HM _).out HP.out.heard HN.out).mono ?_); rintro e w1 ⟨rfl, hb1⟩)
        replace HB := HB.trans (hb1.mono HB.size)
        clear hb1
        go_wp2_with fail
        go_ret
        exact ⟨ret_b HV.out, HB⟩
      · rw [hm, Bool.true_and, ← sum_zero] at hv
        rw [hm] at HM
        have HV := Lib.hid hv
        clear hv hm hk
        go_enter Tryz.func80, Tryz.ntmps80
        go_wp2_with fail
        rw [← hW1]
        clear hW1
        ((with_reducible refine (ref9Router_is _ _ _ HR.out).mono ?_); rintro e w1 ⟨rfl, rfl⟩)
        go_wp2_with fail
        ((with_reducible refine ((HM _).out HP.out.heard HN.out).mono ?_); rintro e w1 ⟨rfl, hb1⟩)
        replace HB := HB.trans (hb1.mono HB.size)
        replace c3 := cell_later hb1 c3
        replace c4 := cell_later hb1 c4
        clear hb1
        go_wp2_with fail
        go_ret
        exact ⟨ret_b HV.out, HB⟩
    · rw [if_neg (by omega), if_pos hk] at hv
      rw [hk] at c0
      have HM := fun W => Lib.hid (refUpdateMay_calls A2 k2 p.lsas W)
      have HN := Lib.hid (show p.lsas.length ≤ 140737488355328 by have := HP.out.n2; omega)
      cases hm : updateMay p.lsas
      · rw [hm] at hv HM
        have HV := Lib.hid (show false = v from hv)
        clear hv hm hk
        go_enter Tryz.func80, Tryz.ntmps80
        go_wp2_with fail
        rw [← hW1]
        clear hW1
        ((with_reducible refine (ref9Router_is _ _ _ HR.out).mono ?_); rintro e w1 ⟨rfl, rfl⟩)
        go_wp2_with fail
        ((with_reducible refine ((HM _).out HP.out.lsas HN.out).mono ?_); rintro e w1 ⟨rfl, hb1⟩)
        replace HB := HB.trans (hb1.mono HB.size)
        clear hb1
        go_wp2_with fail
        go_ret
        exact ⟨ret_b HV.out, HB⟩
      · rw [hm, Bool.true_and, ← sum_zero] at hv
        rw [hm] at HM
        have HV := Lib.hid hv
        clear hv hm hk
        go_enter Tryz.func80, Tryz.ntmps80
        go_wp2_with fail
        rw [← hW1]
        clear hW1
        ((with_reducible refine (ref9Router_is _ _ _ HR.out).mono ?_); rintro e w1 ⟨rfl, rfl⟩)
        go_wp2_with fail
        ((with_reducible refine ((HM _).out HP.out.lsas HN.out).mono ?_); rintro e w1 ⟨rfl, hb1⟩)
        replace HB := HB.trans (hb1.mono HB.size)
        replace c2 := cell_later hb1 c2
        replace c4 := cell_later hb1 c4
        clear hb1
        go_wp2_with fail
        go_ret
        exact ⟨ret_b HV.out, HB⟩
    · rw [if_neg (by omega), if_neg (by omega), if_pos hk] at hv
      rw [hk] at c0
      have HM := fun W => Lib.hid (refAckMay_calls A3 k3 p.heads W)
      have HN := Lib.hid (show p.heads.length ≤ 140737488355328 by have := HP.out.n3; omega)
      cases hm : ackMay p.heads
      · rw [hm] at hv HM
        have HV := Lib.hid (show false = v from hv)
        clear hv hm hk
        go_enter Tryz.func80, Tryz.ntmps80
        go_wp2_with fail
        rw [← hW1]
        clear hW1
        ((with_reducible refine (ref9Router_is _ _ _ HR.out).mono ?_); rintro e w1 ⟨rfl, rfl⟩)
        go_wp2_with fail
        ((with_reducible refine ((HM _).out HP.out.heads HN.out).mono ?_); rintro e w1 ⟨rfl, hb1⟩)
        replace HB := HB.trans (hb1.mono HB.size)
        clear hb1
        go_wp2_with fail
        go_ret
        exact ⟨ret_b HV.out, HB⟩
      · rw [hm, Bool.true_and, ← sum_zero] at hv
        rw [hm] at HM
        have HV := Lib.hid hv
        clear hv hm hk
        go_enter Tryz.func80, Tryz.ntmps80
        go_wp2_with fail
        rw [← hW1]
        clear hW1
        ((with_reducible refine (ref9Router_is _ _ _ HR.out).mono ?_); rintro e w1 ⟨rfl, rfl⟩)
        go_wp2_with fail
        ((with_reducible refine ((HM _).out HP.out.heads HN.out).mono ?_); rintro e w1 ⟨rfl, hb1⟩)
        replace HB := HB.trans (hb1.mono HB.size)
        replace c2 := cell_later hb1 c2
        replace c3 := cell_later hb1 c3
        clear hb1
        go_wp2_with fail
        go_ret
        exact ⟨ret_b HV.out, HB⟩
    · rw [if_neg hk.1, if_neg hk.2.1, if_neg hk.2.2] at hv
      have hk1 : ¬ p.kind = 1 := hk.1
      have hk4 : ¬ p.kind = 4 := hk.2.1
      have hk5 : ¬ p.kind = 5 := hk.2.2
      have HV := Lib.hid hv
      clear hk hv HP
      generalize p.kind = kd at *
      go_enter Tryz.func80, Tryz.ntmps80
      go_wp2_with fail
      rw [← hW1]
      clear hW1
      ((with_reducible refine (ref9Router_is _ _ _ HR.out).mono ?_); rintro e w1 ⟨rfl, rfl⟩)
      go_wp2_with fail
      go_ret
      exact ⟨ret_b HV.out, HB⟩

theorem listOk_parts (p : Packet) (h : listOk p = true) : (p.kind = 1 ∧ heardMay p.heard = true ∧ listBytes p = hello p.heard) ∨ (p.kind = 4 ∧ updateMay p.lsas = true ∧ p.heard = [] ∧ listBytes p = upd p.lsas) ∨ (p.kind = 5 ∧ ackMay p.heads = true ∧ p.heard = [] ∧ listBytes p = ack p.heads) := by
  rw [listOk] at h
  rw [listBytes]
  rcases type_ways p.kind with hk | hk | hk | hk
  · rw [if_pos hk] at h
    simp at h
    exact .inl ⟨hk, h.1, by rw [if_pos hk]⟩
  · rw [if_neg (by omega), if_pos hk] at h
    simp at h
    exact .inr (.inl ⟨hk, h.1, h.2.1, by rw [if_neg (by omega), if_pos hk]⟩)
  · rw [if_neg (by omega), if_neg (by omega), if_pos hk] at h
    simp at h
    exact .inr (.inr ⟨hk, h.1, h.2.1, by rw [if_neg (by omega), if_neg (by omega)]⟩)
  · rw [if_neg hk.1, if_neg hk.2.1, if_neg hk.2.2] at h
    cases h

set_option maxRecDepth 100000 in
set_option maxHeartbeats 2000000 in
theorem refPutPacket_true (p : Packet) (A1 A2 A3 : Option Addr) (k1 k2 k3 : Nat) (w : World) (h : packetMay p = true) (hP : PktAt w A1 A2 A3 k1 k2 k3 p) :
    Calls Tryz.prog 83 #[.agg #[.int .i64 p.kind, .int .i64 p.router, .slice A1 p.heard.length k1, .slice A2 p.lsas.length k2, .slice A3 p.heads.length k3]] w fun e w' => e = .returned (.tuple #[.string (pktBytes p), .int .i64 0]) ∧ Below w.heap.size w w' := by
  obtain ⟨hr, hl⟩ : routerOk p.router = true ∧ listOk p = true := by
    revert h
    rw [packetMay]
    cases routerOk p.router <;> simp
  have hh := head_of p hl
  rw [hr] at hh
  have hs := listBytes_size p hl
  have s1 : ((listBytes p).size : Int) ≤ 85 := by omega
  have s0 : (0 : Int) ≤ ((listBytes p).size : Int) := by omega
  obtain ⟨W1, hW1⟩ : ∃ W1, W1 = w.alloc (.cells #[.int .i64 p.kind, .int .i64 p.router, .slice A1 p.heard.length k1, .slice A2 p.lsas.length k2, .slice A3 p.heads.length k3] 49) := ⟨_, rfl⟩
  have HB : Below w.heap.size w W1 := by rw [hW1]; exact (Below.refl _ _).alloc (Nat.le_refl _) _
  have c0 : W1.cell? ⟨w.heap.size, 0, none⟩ = some (.int .i64 p.kind) := by rw [hW1]; exact cell_new w _ _ 0
  have c1 : W1.cell? ⟨w.heap.size, 1, none⟩ = some (.int .i64 p.router) := by rw [hW1]; exact cell_new w _ _ 1
  have c2 : W1.cell? ⟨w.heap.size, 2, none⟩ = some (.slice A1 p.heard.length k1) := by rw [hW1]; exact cell_new w _ _ 2
  have c3 : W1.cell? ⟨w.heap.size, 3, none⟩ = some (.slice A2 p.lsas.length k2) := by rw [hW1]; exact cell_new w _ _ 3
  have c4 : W1.cell? ⟨w.heap.size, 4, none⟩ = some (.slice A3 p.heads.length k3) := by rw [hW1]; exact cell_new w _ _ 4
  have HP := Lib.hid (hP.below HB)
  have HM := fun W => Lib.hid (refPacketMay_calls p A1 A2 A3 k1 k2 k3 W true h)
  have HH := fun W => Lib.hid (refPutHead_true p.kind p.router (12 + ((listBytes p).size : Int)) W hh)
  have ha : ∀ W : World, (Op.stringOp .add (pktHead p.kind p.router (12 + ((listBytes p).size : Int))) (listBytes p)).run Tryz.prog W = .ok (.string (pktBytes p)) W := fun W => by
    rw [run_string_add_sum W _ _ (by rw [pktHead_size]; omega)]
    rfl
  have hpt := listOk_parts p hl
  clear hr hl hh hs h hP
  have HW1 := Lib.hid hW1
  clear hW1
  generalize listBytes p = LB at *
  generalize pktBytes p = PB at *
  rcases hpt with ⟨hk, hm, rfl⟩ | ⟨hk, hm, hn, rfl⟩ | ⟨hk, hm, hn, rfl⟩
  · have HK := Lib.hid hk
    have H1 := fun W => Lib.hid (refPutHello_true A1 k1 p.heard W hm)
    clear hm
    rw [HK.out] at c0 HH ha
    clear hk
    go_enter Tryz.func83, Tryz.ntmps83
    go_wp2_with fail
    rw [← HW1.out]
    clear HW1
    ((with_reducible refine ((HM _).out HP.out).mono ?_); rintro e w1 ⟨rfl, hb1⟩)
    replace c0 := cell_later hb1 c0
    replace c1 := cell_later hb1 c1
    replace c2 := cell_later hb1 c2
    replace c3 := cell_later hb1 c3
    replace c4 := cell_later hb1 c4
    replace HB := HB.trans (hb1.mono HB.size)
    replace HP := Lib.hid (HP.out.below hb1)
    clear hb1
    go_wp2_with fail
    ((with_reducible refine ((H1 _).out HP.out.heard).mono ?_); rintro e w1 ⟨rfl, hb1⟩)
    replace c0 := cell_later hb1 c0
    replace c1 := cell_later hb1 c1
    replace c2 := cell_later hb1 c2
    replace c3 := cell_later hb1 c3
    replace c4 := cell_later hb1 c4
    replace HB := HB.trans (hb1.mono HB.size)
    replace HP := Lib.hid (HP.out.below hb1)
    clear hb1
    go_wp2_with fail
    ((with_reducible refine ((HH _).out).mono ?_); rintro e w1 ⟨rfl, hb1⟩)
    replace HB := HB.trans (hb1.mono HB.size)
    clear hb1
    go_wp2_with fail
    go_ret2
    exact ⟨rfl, HB⟩
  · have HK := Lib.hid hk
    have H1 := fun W => Lib.hid (refPutHello_true A1 k1 p.heard W (by rw [hn]; rfl))
    have H2 := fun W => Lib.hid (refPutUpdate_true A2 k2 p.lsas W hm)
    clear hn
    clear hm
    rw [HK.out] at c0 HH ha
    clear hk
    go_enter Tryz.func83, Tryz.ntmps83
    go_wp2_with fail
    rw [← HW1.out]
    clear HW1
    ((with_reducible refine ((HM _).out HP.out).mono ?_); rintro e w1 ⟨rfl, hb1⟩)
    replace c0 := cell_later hb1 c0
    replace c1 := cell_later hb1 c1
    replace c2 := cell_later hb1 c2
    replace c3 := cell_later hb1 c3
    replace c4 := cell_later hb1 c4
    replace HB := HB.trans (hb1.mono HB.size)
    replace HP := Lib.hid (HP.out.below hb1)
    clear hb1
    go_wp2_with fail
    ((with_reducible refine ((H1 _).out HP.out.heard).mono ?_); rintro e w1 ⟨rfl, hb1⟩)
    replace c0 := cell_later hb1 c0
    replace c1 := cell_later hb1 c1
    replace c2 := cell_later hb1 c2
    replace c3 := cell_later hb1 c3
    replace c4 := cell_later hb1 c4
    replace HB := HB.trans (hb1.mono HB.size)
    replace HP := Lib.hid (HP.out.below hb1)
    clear hb1
    go_wp2_with fail
    ((with_reducible refine ((H2 _).out HP.out.lsas).mono ?_); rintro e w1 ⟨rfl, hb1⟩)
    replace c0 := cell_later hb1 c0
    replace c1 := cell_later hb1 c1
    replace c2 := cell_later hb1 c2
    replace c3 := cell_later hb1 c3
    replace c4 := cell_later hb1 c4
    replace HB := HB.trans (hb1.mono HB.size)
    replace HP := Lib.hid (HP.out.below hb1)
    clear hb1
    go_wp2_with fail
    ((with_reducible refine ((HH _).out).mono ?_); rintro e w1 ⟨rfl, hb1⟩)
    replace HB := HB.trans (hb1.mono HB.size)
    clear hb1
    go_wp2_with fail
    go_ret2
    exact ⟨rfl, HB⟩
  · have HK := Lib.hid hk
    have H1 := fun W => Lib.hid (refPutHello_true A1 k1 p.heard W (by rw [hn]; rfl))
    have H2 := fun W => Lib.hid (refPutAck_true A3 k3 p.heads W hm)
    clear hn
    clear hm
    rw [HK.out] at c0 HH ha
    clear hk
    go_enter Tryz.func83, Tryz.ntmps83
    go_wp2_with fail
    rw [← HW1.out]
    clear HW1
    ((with_reducible refine ((HM _).out HP.out).mono ?_); rintro e w1 ⟨rfl, hb1⟩)
    replace c0 := cell_later hb1 c0
    replace c1 := cell_later hb1 c1
    replace c2 := cell_later hb1 c2
    replace c3 := cell_later hb1 c3
    replace c4 := cell_later hb1 c4
    replace HB := HB.trans (hb1.mono HB.size)
    replace HP := Lib.hid (HP.out.below hb1)
    clear hb1
    go_wp2_with fail
    ((with_reducible refine ((H1 _).out HP.out.heard).mono ?_); rintro e w1 ⟨rfl, hb1⟩)
    replace c0 := cell_later hb1 c0
    replace c1 := cell_later hb1 c1
    replace c2 := cell_later hb1 c2
    replace c3 := cell_later hb1 c3
    replace c4 := cell_later hb1 c4
    replace HB := HB.trans (hb1.mono HB.size)
    replace HP := Lib.hid (HP.out.below hb1)
    clear hb1
    go_wp2_with fail
    ((with_reducible refine ((H2 _).out HP.out.heads).mono ?_); rintro e w1 ⟨rfl, hb1⟩)
    replace c0 := cell_later hb1 c0
    replace c1 := cell_later hb1 c1
    replace c2 := cell_later hb1 c2
    replace c3 := cell_later hb1 c3
    replace c4 := cell_later hb1 c4
    replace HB := HB.trans (hb1.mono HB.size)
    replace HP := Lib.hid (HP.out.below hb1)
    clear hb1
    go_wp2_with fail
    ((with_reducible refine ((HH _).out).mono ?_); rintro e w1 ⟨rfl, hb1⟩)
    replace HB := HB.trans (hb1.mono HB.size)
    clear hb1
    go_wp2_with fail
    go_ret2
    exact ⟨rfl, HB⟩
end Go.Proofs.YtpgkgpecbjjifaaGreat
