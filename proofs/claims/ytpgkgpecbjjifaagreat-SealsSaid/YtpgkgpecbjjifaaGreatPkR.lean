/- Packets: their lists' bytes, their bytes. -/
import Derived.Test.YtpgkgpecbjjifaaGreatPkQ
namespace Go.Proofs.YtpgkgpecbjjifaaGreat
open Go.RowKit Sha


/-- A packet's three lists in memory. -/
structure PktAt (w : World) (A1 A2 A3 : Option Addr) (k1 k2 k3 : Nat) (p : Packet) : Prop where
  heard : RowAt encInt 1 w A1 p.heard
  lsas : LsasAt w A2 p.lsas
  heads : RowAt encHead 4 w A3 p.heads
  n1 : p.heard.length * 8 ≤ 140737488355328
  n2 : p.lsas.length * 48 ≤ 140737488355328
  n3 : p.heads.length * 32 ≤ 140737488355328
  n4 : ∀ a ∈ p.lsas, a.links.length * 16 ≤ 140737488355328
  z1 : A1 = none → k1 = 0
  z2 : A2 = none → k2 = 0
  z3 : A3 = none → k3 = 0
theorem PktAt.below {w w' : World} {A1 A2 A3 : Option Addr} {k1 k2 k3 : Nat} {p : Packet} (h : PktAt w A1 A2 A3 k1 k2 k3 p) (hb : Below w.heap.size w w') : PktAt w' A1 A2 A3 k1 k2 k3 p :=
  ⟨h.heard.below hb, h.lsas.below hb, h.heads.below hb, h.n1, h.n2, h.n3, h.n4, h.z1, h.z2, h.z3⟩

/-- Of a packet's lists just its type's may have something. -/
def listOk (p : Packet) : Bool :=
  if p.kind = 1 then heardMay p.heard && decide (p.lsas.length + p.heads.length = 0)
  else if p.kind = 4 then updateMay p.lsas && decide (p.heard.length + p.heads.length = 0)
  else if p.kind = 5 then ackMay p.heads && decide (p.heard.length + p.lsas.length = 0)
  else false
def listBytes (p : Packet) : ByteArray := if p.kind = 1 then hello p.heard else if p.kind = 4 then upd p.lsas else ack p.heads
def packetMay (p : Packet) : Bool := routerOk p.router && listOk p
def pktBytes (p : Packet) : ByteArray := pktHead p.kind p.router (12 + (listBytes p).size) ++ listBytes p
theorem upd_size (xs : List Lsa) (h : updateMay xs = true) : (upd xs).size ≤ 85 := by
  have := updTo_size xs h xs.length (Nat.le_refl _)
  have := update_four xs h
  rw [upd]
  omega
theorem ack_size (xs : List Head) (h : ackMay xs = true) : (ack xs).size ≤ 33 := by
  have := ackTo_size xs xs.length
  have := ack_four xs h
  rw [ack]
  omega
theorem hello_size5 (xs : List Int) (h : heardMay xs = true) : (hello xs).size ≤ 5 := by
  have := hello_size xs
  have := heard_four xs h
  omega
theorem listBytes_size (p : Packet) (h : listOk p = true) : (listBytes p).size ≤ 85 := by
  revert h
  rw [listOk, listBytes]
  split
  · intro h
    have := hello_size5 p.heard (by revert h; cases heardMay p.heard <;> simp)
    omega
  · split
    · intro h
      exact upd_size p.lsas (by revert h; cases updateMay p.lsas <;> simp)
    · split
      · intro h
        have := ack_size p.heads (by revert h; cases ackMay p.heads <;> simp)
        omega
      · intro h; cases h

set_option maxRecDepth 100000 in
set_option maxHeartbeats 1000000 in
theorem list_true (p : Packet) (A1 A2 A3 : Option Addr) (k1 k2 k3 b : Nat) (w : World) (h : listOk p = true) (hP : PktAt w A1 A2 A3 k1 k2 k3 p) (c0 : w.cell? ⟨b, 0, none⟩ = some (.int .i64 p.kind)) (c2 : w.cell? ⟨b, 2, none⟩ = some (.slice A1 p.heard.length k1)) (c3 : w.cell? ⟨b, 3, none⟩ = some (.slice A2 p.lsas.length k2)) (c4 : w.cell? ⟨b, 4, none⟩ = some (.slice A3 p.heads.length k3)) :
    Calls Tryz.prog 131 #[.pointer (some ⟨b, 0, none⟩)] w fun e w' => e = .returned (.tuple #[.string (listBytes p), .bool true]) ∧ Below w.heap.size w w' := by
  have HL := Lib.hid (show listBytes p = (if p.kind = 1 then hello p.heard else if p.kind = 4 then upd p.lsas else ack p.heads) from rfl)
  have HB : Below w.heap.size w w := Below.refl _ _
  rw [listOk] at h
  rcases type_ways p.kind with hk | hk | hk | hk
  · rw [if_pos hk] at h
    rw [if_pos hk] at HL
    obtain ⟨h1, h2⟩ : heardMay p.heard = true ∧ p.lsas.length + p.heads.length = 0 := by
      revert h
      cases heardMay p.heard <;> simp
    have q1 : p.lsas.length = 0 := by omega
    have q2 : p.heads.length = 0 := by omega
    rw [q1] at c3
    rw [q2] at c4
    rw [hk] at c0
    have l0 : (0 : Int) ≤ (p.heard.length : Int) := by omega
    have m0 : (p.heard.length : Int) ≤ 35184372088832 := by have := hP.n1; omega
    have HP := fun W => Lib.hid (helloPut_true A1 k1 p.heard W h1)
    have HR := Lib.hid hP.heard
    clear h h1 h2 hk q1 q2 hP
    go_enter Tryz.func131, Tryz.ntmps131
    go_wp2_with fail
    go_quiet (fail)
    have hbq := below_drewN (Below.refl w.heap.size w) nq
    replace c0 := cell_later hbq c0
    replace c2 := cell_later hbq c2
    replace c3 := cell_later hbq c3
    replace c4 := cell_later hbq c4
    replace HR := Lib.hid (HR.out.below hbq)
    replace HB := HB.trans (hbq.mono HB.size)
    clear hbq
    generalize w.drewN nq = wq at *
    go_wp2_with fail
    ((with_reducible refine ((HP _).out HR.out).mono ?_); rintro e w1 ⟨rfl, hb1⟩)
    replace c2 := cell_later hb1 c2
    replace HB := HB.trans (hb1.mono HB.size)
    clear hb1
    go_wp2_with fail
    go_ret2
    exact ⟨by rw [HL.out]; rfl, HB⟩
  · rw [if_neg (by omega), if_pos hk] at h
    rw [if_neg (by omega), if_pos hk] at HL
    obtain ⟨h1, h2⟩ : updateMay p.lsas = true ∧ p.heard.length + p.heads.length = 0 := by
      revert h
      cases updateMay p.lsas <;> simp
    have q1 : p.heard.length = 0 := by omega
    have q2 : p.heads.length = 0 := by omega
    rw [q1] at c2
    rw [q2] at c4
    rw [hk] at c0
    have l0 : (0 : Int) ≤ (p.lsas.length : Int) := by omega
    have m0 : (p.lsas.length : Int) ≤ 35184372088832 := by have := hP.n2; omega
    have HP := fun W => Lib.hid (updatePut_true A2 k2 p.lsas W h1)
    have HR := Lib.hid hP.lsas
    clear h h1 h2 hk q1 q2 hP
    go_enter Tryz.func131, Tryz.ntmps131
    go_wp2_with fail
    go_quiet (fail)
    have hbq := below_drewN (Below.refl w.heap.size w) nq
    replace c0 := cell_later hbq c0
    replace c2 := cell_later hbq c2
    replace c3 := cell_later hbq c3
    replace c4 := cell_later hbq c4
    replace HR := Lib.hid (HR.out.below hbq)
    replace HB := HB.trans (hbq.mono HB.size)
    clear hbq
    generalize w.drewN nq = wq at *
    go_wp2_with fail
    ((with_reducible refine ((HP _).out HR.out).mono ?_); rintro e w1 ⟨rfl, hb1⟩)
    replace c3 := cell_later hb1 c3
    replace HB := HB.trans (hb1.mono HB.size)
    clear hb1
    go_wp2_with fail
    go_ret2
    exact ⟨by rw [HL.out]; rfl, HB⟩
  · rw [if_neg (by omega), if_neg (by omega), if_pos hk] at h
    rw [if_neg (by omega), if_neg (by omega)] at HL
    obtain ⟨h1, h2⟩ : ackMay p.heads = true ∧ p.heard.length + p.lsas.length = 0 := by
      revert h
      cases ackMay p.heads <;> simp
    have q1 : p.heard.length = 0 := by omega
    have q2 : p.lsas.length = 0 := by omega
    rw [q1] at c2
    rw [q2] at c3
    rw [hk] at c0
    have l0 : (0 : Int) ≤ (p.heads.length : Int) := by omega
    have m0 : (p.heads.length : Int) ≤ 35184372088832 := by have := hP.n3; omega
    have HP := fun W => Lib.hid (ackPut_true A3 k3 p.heads W h1)
    have HR := Lib.hid hP.heads
    clear h h1 h2 hk q1 q2 hP
    go_enter Tryz.func131, Tryz.ntmps131
    go_wp2_with fail
    go_quiet (fail)
    have hbq := below_drewN (Below.refl w.heap.size w) nq
    replace c0 := cell_later hbq c0
    replace c2 := cell_later hbq c2
    replace c3 := cell_later hbq c3
    replace c4 := cell_later hbq c4
    replace HR := Lib.hid (HR.out.below hbq)
    replace HB := HB.trans (hbq.mono HB.size)
    clear hbq
    generalize w.drewN nq = wq at *
    go_wp2_with fail
    ((with_reducible refine ((HP _).out HR.out).mono ?_); rintro e w1 ⟨rfl, hb1⟩)
    replace c4 := cell_later hb1 c4
    replace HB := HB.trans (hb1.mono HB.size)
    clear hb1
    go_wp2_with fail
    go_ret2
    exact ⟨by rw [HL.out]; rfl, HB⟩
  · rw [if_neg hk.1, if_neg hk.2.1, if_neg hk.2.2] at h
    cases h

end Go.Proofs.YtpgkgpecbjjifaaGreat
