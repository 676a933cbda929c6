/- Packets: their bytes. -/
import Derived.Test.YtpgkgpecbjjifaaGreatPkR
namespace Go.Proofs.YtpgkgpecbjjifaaGreat
open Go.RowKit Sha
set_option linter.unusedSimpArgs false


theorem ret_sb {a : ByteArray} {b c : Bool} (h : b = c) : Ending.returned (.tuple #[.string a, .bool b]) = .returned (.tuple #[.string a, .bool c]) := by rw [h]
/-- A list that may not be. -/
def Refuses (w : World) (e : Ending) (w' : World) : Prop := ∃ s : ByteArray, e = .returned (.tuple #[.string s, .bool false]) ∧ s.size ≤ 85 ∧ Below w.heap.size w w'

set_option maxRecDepth 100000 in
set_option maxHeartbeats 2000000 in
theorem list_false (p : Packet) (A1 A2 A3 : Option Addr) (k1 k2 k3 b : Nat) (w : World) (h : listOk p = false) (hP : PktAt w A1 A2 A3 k1 k2 k3 p) (c0 : w.cell? ⟨b, 0, none⟩ = some (.int .i64 p.kind)) (c2 : w.cell? ⟨b, 2, none⟩ = some (.slice A1 p.heard.length k1)) (c3 : w.cell? ⟨b, 3, none⟩ = some (.slice A2 p.lsas.length k2)) (c4 : w.cell? ⟨b, 4, none⟩ = some (.slice A3 p.heads.length k3)) :
    Calls Tryz.prog 131 #[.pointer (some ⟨b, 0, none⟩)] w (Refuses w) := by
  have HB : Below w.heap.size w w := Below.refl _ _
  have l1 : (0 : Int) ≤ (p.heard.length : Int) := by omega
  have l2 : (0 : Int) ≤ (p.lsas.length : Int) := by omega
  have l3 : (0 : Int) ≤ (p.heads.length : Int) := by omega
  have m1 : (p.heard.length : Int) ≤ 35184372088832 := by have := hP.n1; omega
  have m2 : (p.lsas.length : Int) ≤ 35184372088832 := by have := hP.n2; omega
  have m3 : (p.heads.length : Int) ≤ 35184372088832 := by have := hP.n3; omega
  rw [listOk] at h
  rcases type_ways p.kind with hk | hk | hk | hk
  · rw [if_pos hk] at h
    rw [hk] at c0
    cases hm : heardMay p.heard
    · have HP := fun W => Lib.hid (helloPut_false A1 k1 p.heard W hm)
      have HR := Lib.hid hP.heard
      have HN := Lib.hid (show p.heard.length ≤ 140737488355328 by have := hP.n1; omega)
      clear h hm hk hP
      go_enter Tryz.func131, Tryz.ntmps131
      go_wp2_with fail
      go_quiet (fail)
      have hbq := below_drewN (Below.refl w.heap.size w) nq
      replace c0 := cell_later hbq c0
      replace c2 := cell_later hbq c2
      replace c3 := cell_later hbq c3
      replace c4 := cell_later hbq c4
      replace HR := Lib.hid (HR.out.below hbq)
      replace HB := HB.trans (hbq.mono HB.size)
      clear hbq
      generalize w.drewN nq = wq at *
      go_wp2_with fail
      ((with_reducible refine ((HP _).out HR.out HN.out).mono ?_); rintro e w1 ⟨rfl, hb1⟩)
      replace c2 := cell_later hb1 c2
      replace HB := HB.trans (hb1.mono HB.size)
      clear hb1
      go_wp2_with fail
      go_ret2
      exact ⟨⟨#[]⟩, rfl, by decide, HB⟩
    · have hq : ¬ (p.lsas.length + p.heads.length = 0) := by
        rw [hm] at h
        simpa using h
      have hq1 : ((p.heard.length : Int) + (p.lsas.length : Int) + (p.heads.length : Int) - (p.heard.length : Int) == 0) = false := by
        rw [beq_eq_false_iff_ne]
        omega
      have HQ := Lib.hid hq1
      clear hq1
      have HP := fun W => Lib.hid (helloPut_true A1 k1 p.heard W hm)
      have HR := Lib.hid hP.heard
      have HZ := Lib.hid (show (hello p.heard).size ≤ 85 by have := hello_size5 p.heard hm; omega)
      clear h hm hk hP hq
      go_enter Tryz.func131, Tryz.ntmps131
      go_wp2_with fail
      go_quiet (fail)
      have hbq := below_drewN (Below.refl w.heap.size w) nq
      replace c0 := cell_later hbq c0
      replace c2 := cell_later hbq c2
      replace c3 := cell_later hbq c3
      replace c4 := cell_later hbq c4
      replace HR := Lib.hid (HR.out.below hbq)
      replace HB := HB.trans (hbq.mono HB.size)
      clear hbq
      generalize w.drewN nq = wq at *
      go_wp2_with fail
      ((with_reducible refine ((HP _).out HR.out).mono ?_); rintro e w1 ⟨rfl, hb1⟩)
      replace c2 := cell_later hb1 c2
      replace HB := HB.trans (hb1.mono HB.size)
      clear hb1
      go_wp2_with fail
      go_ret2
      exact ⟨_, ret_sb HQ.out, HZ.out, HB⟩
  · rw [if_neg (by omega), if_pos hk] at h
    rw [hk] at c0
    cases hm : updateMay p.lsas
    · have HP := fun W => Lib.hid (updatePut_false A2 k2 p.lsas W hm)
      have HR := Lib.hid hP.lsas
      have HN := Lib.hid (show p.lsas.length ≤ 140737488355328 by have := hP.n2; omega)
      clear h hm hk hP
      go_enter Tryz.func131, Tryz.ntmps131
      go_wp2_with fail
      go_quiet (fail)
      have hbq := below_drewN (Below.refl w.heap.size w) nq
      replace c0 := cell_later hbq c0
      replace c2 := cell_later hbq c2
      replace c3 := cell_later hbq c3
      replace c4 := cell_later hbq c4
      replace HR := Lib.hid (HR.out.below hbq)
      replace HB := HB.trans (hbq.mono HB.size)
      clear hbq
      generalize w.drewN nq = wq at *
      go_wp2_with fail
      ((with_reducible refine ((HP _).out HR.out HN.out).mono ?_); rintro e w1 ⟨rfl, hb1⟩)
      replace c3 := cell_later hb1 c3
      replace HB := HB.trans (hb1.mono HB.size)
      clear hb1
      go_wp2_with fail
      go_ret2
      exact ⟨⟨#[]⟩, rfl, by decide, HB⟩
    · have hq : ¬ (p.heard.length + p.heads.length = 0) := by
        rw [hm] at h
        simpa using h
      have hq1 : ((p.heard.length : Int) + (p.lsas.length : Int) + (p.heads.length : Int) - (p.lsas.length : Int) == 0) = false := by
        rw [beq_eq_false_iff_ne]
        omega
      have HQ := Lib.hid hq1
      clear hq1
      have HP := fun W => Lib.hid (updatePut_true A2 k2 p.lsas W hm)
      have HR := Lib.hid hP.lsas
      have HZ := Lib.hid (show (upd p.lsas).size ≤ 85 by have := upd_size p.lsas hm; omega)
      clear h hm hk hP hq
      go_enter Tryz.func131, Tryz.ntmps131
      go_wp2_with fail
      go_quiet (fail)
      have hbq := below_drewN (Below.refl w.heap.size w) nq
      replace c0 := cell_later hbq c0
      replace c2 := cell_later hbq c2
      replace c3 := cell_later hbq c3
      replace c4 := cell_later hbq c4
      replace HR := Lib.hid (HR.out.below hbq)
      replace HB := HB.trans (hbq.mono HB.size)
      clear hbq
      generalize w.drewN nq = wq at *
      go_wp2_with fail
      ((with_reducible refine ((HP _).out HR.out).mono ?_); rintro e w1 ⟨rfl, hb1⟩)
      replace c3 := cell_later hb1 c3
      replace HB := HB.trans (hb1.mono HB.size)
      clear hb1
      go_wp2_with fail
      go_ret2
      exact ⟨_, ret_sb HQ.out, HZ.out, HB⟩
  · rw [if_neg (by omega), if_neg (by omega), if_pos hk] at h
    rw [hk] at c0
    cases hm : ackMay p.heads
    · have HP := fun W => Lib.hid (ackPut_false A3 k3 p.heads W hm)
      have HR := Lib.hid hP.heads
      have HN := Lib.hid (show p.heads.length ≤ 140737488355328 by have := hP.n3; omega)
      clear h hm hk hP
      go_enter Tryz.func131, Tryz.ntmps131
      go_wp2_with fail
      go_quiet (fail)
      have hbq := below_drewN (Below.refl w.heap.size w) nq
      replace c0 := cell_later hbq c0
      replace c2 := cell_later hbq c2
      replace c3 := cell_later hbq c3
      replace c4 := cell_later hbq c4
      replace HR := Lib.hid (HR.out.below hbq)
      replace HB := HB.trans (hbq.mono HB.size)
      clear hbq
      generalize w.drewN nq = wq at *
      go_wp2_with fail
      ((with_reducible refine ((HP _).out HR.out HN.out).mono ?_); rintro e w1 ⟨rfl, hb1⟩)
      replace c4 := cell_later hb1 c4
      replace HB := HB.trans (hb1.mono HB.size)
      clear hb1
      go_wp2_with fail
      go_ret2
      exact ⟨⟨#[]⟩, rfl, by decide, HB⟩
    · have hq : ¬ (p.heard.length + p.lsas.length = 0) := by
        rw [hm] at h
        simpa using h
      have hq1 : ((p.heard.length : Int) + (p.lsas.length : Int) == 0) = false := by
        rw [beq_eq_false_iff_ne]
        omega
      have HQ := Lib.hid hq1
      clear hq1
      have HP := fun W => Lib.hid (ackPut_true A3 k3 p.heads W hm)
      have HR := Lib.hid hP.heads
      have HZ := Lib.hid (show (ack p.heads).size ≤ 85 by have := ack_size p.heads hm; omega)
      clear h hm hk hP hq
      go_enter Tryz.func131, Tryz.ntmps131
      go_wp2_with fail
      go_quiet (fail)
      have hbq := below_drewN (Below.refl w.heap.size w) nq
      replace c0 := cell_later hbq c0
      replace c2 := cell_later hbq c2
      replace c3 := cell_later hbq c3
      replace c4 := cell_later hbq c4
      replace HR := Lib.hid (HR.out.below hbq)
      replace HB := HB.trans (hbq.mono HB.size)
      clear hbq
      generalize w.drewN nq = wq at *
      go_wp2_with fail
      ((with_reducible refine ((HP _).out HR.out).mono ?_); rintro e w1 ⟨rfl, hb1⟩)
      replace c4 := cell_later hb1 c4
      replace HB := HB.trans (hb1.mono HB.size)
      clear hb1
      go_wp2_with fail
      go_ret2
      exact ⟨_, ret_sb HQ.out, HZ.out, HB⟩
  · have hk1 : ¬ p.kind = 1 := hk.1
    have hk4 : ¬ p.kind = 4 := hk.2.1
    have hk5 : ¬ p.kind = 5 := hk.2.2
    clear h hk hP
    generalize p.kind = kd at *
    go_enter Tryz.func131, Tryz.ntmps131
    go_wp2_with fail
    go_quiet (fail)
    have hbq := below_drewN (Below.refl w.heap.size w) nq
    replace c0 := cell_later hbq c0
    replace c2 := cell_later hbq c2
    replace c3 := cell_later hbq c3
    replace c4 := cell_later hbq c4
    replace HB := HB.trans (hbq.mono HB.size)
    clear hbq
    generalize w.drewN nq = wq at *
    go_wp2_with fail
    go_ret2
    exact ⟨⟨#[]⟩, rfl, by decide, HB⟩

theorem listOk_kind (p : Packet) (h : listOk p = true) : typeOk p.kind = true := by
  rw [listOk] at h
  rcases type_ways p.kind with hk | hk | hk | hk
  · rw [hk]; rfl
  · rw [hk]; rfl
  · rw [hk]; rfl
  · rw [if_neg hk.1, if_neg hk.2.1, if_neg hk.2.2] at h
    cases h
theorem head_of (p : Packet) (h : listOk p = true) : headOkB p.kind p.router (12 + (listBytes p).size) = routerOk p.router := by
  have h1 := listOk_kind p h
  have h2 := listBytes_size p h
  have h3 : upToB (12 + ((listBytes p).size : Int)) 12 512 = true := by simp [upToB]; omega
  rw [headOkB, h1, h3]
  simp

set_option maxRecDepth 100000 in
set_option maxHeartbeats 1000000 in
theorem packetPut_true (p : Packet) (A1 A2 A3 : Option Addr) (k1 k2 k3 : Nat) (w : World) (h : packetMay p = true) (hP : PktAt w A1 A2 A3 k1 k2 k3 p) :
    Calls Tryz.prog 50 #[.agg #[.int .i64 p.kind, .int .i64 p.router, .slice A1 p.heard.length k1, .slice A2 p.lsas.length k2, .slice A3 p.heads.length k3]] w fun e w' => e = .returned (.tuple #[.string (pktBytes p), .int .i64 0]) ∧ Below w.heap.size w w' := by
  obtain ⟨hr, hl⟩ : routerOk p.router = true ∧ listOk p = true := by
    revert h
    rw [packetMay]
    cases routerOk p.router <;> simp
  have hh := head_of p hl
  rw [hr] at hh
  have hs := listBytes_size p hl
  have s1 : ((listBytes p).size : Int) ≤ 85 := by omega
  have s0 : (0 : Int) ≤ ((listBytes p).size : Int) := by omega
  obtain ⟨W1, hW1⟩ : ∃ W1, W1 = w.alloc (.cells #[.int .i64 p.kind, .int .i64 p.router, .slice A1 p.heard.length k1, .slice A2 p.lsas.length k2, .slice A3 p.heads.length k3] 49) := ⟨_, rfl⟩
  have HB : Below w.heap.size w W1 := by rw [hW1]; exact (Below.refl _ _).alloc (Nat.le_refl _) _
  have c0 : W1.cell? ⟨w.heap.size, 0, none⟩ = some (.int .i64 p.kind) := by rw [hW1]; exact cell_new w _ _ 0
  have c1 : W1.cell? ⟨w.heap.size, 1, none⟩ = some (.int .i64 p.router) := by rw [hW1]; exact cell_new w _ _ 1
  have c2 : W1.cell? ⟨w.heap.size, 2, none⟩ = some (.slice A1 p.heard.length k1) := by rw [hW1]; exact cell_new w _ _ 2
  have c3 : W1.cell? ⟨w.heap.size, 3, none⟩ = some (.slice A2 p.lsas.length k2) := by rw [hW1]; exact cell_new w _ _ 3
  have c4 : W1.cell? ⟨w.heap.size, 4, none⟩ = some (.slice A3 p.heads.length k3) := by rw [hW1]; exact cell_new w _ _ 4
  have HP := Lib.hid (hP.below HB)
  clear hP
  have HL := Lib.hid (list_true p A1 A2 A3 k1 k2 k3 w.heap.size W1 hl HP.out c0 c2 c3 c4)
  have HH := fun W => Lib.hid (headPut_true p.kind p.router (12 + ((listBytes p).size : Int)) W hh)
  have ha : ∀ W : World, (Op.stringOp .add (pktHead p.kind p.router (12 + ((listBytes p).size : Int))) (listBytes p)).run Tryz.prog W = .ok (.string (pktBytes p)) W := fun W => by
    rw [run_string_add_sum W _ _ (by rw [pktHead_size]; omega)]
    rfl
  clear hr hl hh hs h
  go_enter Tryz.func50, Tryz.ntmps50
  go_wp2_with fail
  rw [← hW1]
  clear hW1
  ((with_reducible refine HL.out.mono ?_); rintro e w1 ⟨rfl, hb1⟩)
  replace c0 := cell_later hb1 c0
  replace c1 := cell_later hb1 c1
  replace HB := HB.trans (hb1.mono HB.size)
  clear hb1 HL
  go_wp2_with fail
  ((with_reducible refine (HH _).out.mono ?_); rintro e w1 ⟨rfl, hb1⟩)
  replace HB := HB.trans (hb1.mono HB.size)
  clear hb1
  go_wp2_with fail
  go_ret2
  exact ⟨rfl, HB⟩

set_option maxRecDepth 100000 in
set_option maxHeartbeats 1000000 in
theorem packetPut_false (p : Packet) (A1 A2 A3 : Option Addr) (k1 k2 k3 : Nat) (w : World) (h : packetMay p = false) (hP : PktAt w A1 A2 A3 k1 k2 k3 p) :
    Calls Tryz.prog 50 #[.agg #[.int .i64 p.kind, .int .i64 p.router, .slice A1 p.heard.length k1, .slice A2 p.lsas.length k2, .slice A3 p.heads.length k3]] w fun e w' => e = .returned (.tuple #[.string ⟨#[]⟩, .int .i64 1200]) ∧ Below w.heap.size w w' := by
  obtain ⟨W1, hW1⟩ : ∃ W1, W1 = w.alloc (.cells #[.int .i64 p.kind, .int .i64 p.router, .slice A1 p.heard.length k1, .slice A2 p.lsas.length k2, .slice A3 p.heads.length k3] 49) := ⟨_, rfl⟩
  have HB : Below w.heap.size w W1 := by rw [hW1]; exact (Below.refl _ _).alloc (Nat.le_refl _) _
  have c0 : W1.cell? ⟨w.heap.size, 0, none⟩ = some (.int .i64 p.kind) := by rw [hW1]; exact cell_new w _ _ 0
  have c1 : W1.cell? ⟨w.heap.size, 1, none⟩ = some (.int .i64 p.router) := by rw [hW1]; exact cell_new w _ _ 1
  have c2 : W1.cell? ⟨w.heap.size, 2, none⟩ = some (.slice A1 p.heard.length k1) := by rw [hW1]; exact cell_new w _ _ 2
  have c3 : W1.cell? ⟨w.heap.size, 3, none⟩ = some (.slice A2 p.lsas.length k2) := by rw [hW1]; exact cell_new w _ _ 3
  have c4 : W1.cell? ⟨w.heap.size, 4, none⟩ = some (.slice A3 p.heads.length k3) := by rw [hW1]; exact cell_new w _ _ 4
  have HP := Lib.hid (hP.below HB)
  clear hP
  cases hl : listOk p
  · have HL := Lib.hid (list_false p A1 A2 A3 k1 k2 k3 w.heap.size W1 hl HP.out c0 c2 c3 c4)
    clear h hl
    go_enter Tryz.func50, Tryz.ntmps50
    go_wp2_with fail
    rw [← hW1]
    clear hW1
    ((with_reducible refine HL.out.mono ?_); rintro e w1 ⟨s, rfl, hs, hb1⟩)
    replace c0 := cell_later hb1 c0
    replace c1 := cell_later hb1 c1
    replace HB := HB.trans (hb1.mono HB.size)
    clear hb1 HL
    have s1 : (s.size : Int) ≤ 85 := by omega
    have s0 : (0 : Int) ≤ (s.size : Int) := by omega
    clear hs
    cases hh : headOkB p.kind p.router (12 + (s.size : Int))
    · have HH := fun W => Lib.hid (headPut_false p.kind p.router (12 + (s.size : Int)) W hh)
      clear hh
      go_wp2_with fail
      ((with_reducible refine (HH _).out.mono ?_); rintro e w1 ⟨rfl, rfl⟩)
      go_wp2_with fail
      go_ret2
      exact ⟨rfl, HB⟩
    · have HH := fun W => Lib.hid (headPut_true p.kind p.router (12 + (s.size : Int)) W hh)
      clear hh
      go_wp2_with fail
      ((with_reducible refine (HH _).out.mono ?_); rintro e w1 ⟨rfl, hb1⟩)
      replace HB := HB.trans (hb1.mono HB.size)
      clear hb1
      go_wp2_with fail
      go_ret2
      exact ⟨rfl, HB⟩
  · have hr : routerOk p.router = false := by
      rw [packetMay, hl, Bool.and_true] at h
      exact h
    have hh := head_of p hl
    rw [hr] at hh
    have hs := listBytes_size p hl
    have s1 : ((listBytes p).size : Int) ≤ 85 := by omega
    have s0 : (0 : Int) ≤ ((listBytes p).size : Int) := by omega
    have HL := Lib.hid (list_true p A1 A2 A3 k1 k2 k3 w.heap.size W1 hl HP.out c0 c2 c3 c4)
    have HH := fun W => Lib.hid (headPut_false p.kind p.router (12 + ((listBytes p).size : Int)) W hh)
    clear hr hl hh hs h
    go_enter Tryz.func50, Tryz.ntmps50
    go_wp2_with fail
    rw [← hW1]
    clear hW1
    ((with_reducible refine HL.out.mono ?_); rintro e w1 ⟨rfl, hb1⟩)
    replace c0 := cell_later hb1 c0
    replace c1 := cell_later hb1 c1
    replace HB := HB.trans (hb1.mono HB.size)
    clear hb1 HL
    go_wp2_with fail
    ((with_reducible refine (HH _).out.mono ?_); rintro e w1 ⟨rfl, rfl⟩)
    go_wp2_with fail
    go_ret2
    exact ⟨rfl, HB⟩

end Go.Proofs.YtpgkgpecbjjifaaGreat
