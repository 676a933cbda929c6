/- Signing packets. -/
import Derived.Test.YtpgkgpecbjjifaaGreatPlA
namespace Go.Proofs.YtpgkgpecbjjifaaGreat
open Go.RowKit Sha
set_option linter.unusedSimpArgs false


set_option maxRecDepth 100000 in
set_option maxHeartbeats 1000000 in
theorem signed_calls (k s : ByteArray) (x : Int) (w : World) (hk : secretOk k = true) (hs : s.size ≤ 140737488350000) :
    Calls Tryz.prog 55 #[.string k, .string s, .int .i64 x] w fun e w' => e = .returned (.string (mac k (s ++ num x 4))) ∧ Below w.heap.size w w' := by
  obtain ⟨T, hT⟩ : ∃ T, T = s ++ num x 4 := ⟨_, rfl⟩
  have hz : T.size ≤ 140737488354000 := by rw [hT, ByteArray.size_append, num_size]; omega
  have ha : ∀ W : World, (Op.stringOp .add s (num x 4)).run Tryz.prog W = .ok (.string T) W := fun W => by
    rw [run_string_add_sum W _ _ (by rw [num_size]; omega), hT]
  have HT := Lib.hid hT
  have HM := fun W => Lib.hid (macTag_ok k T W hk hz)
  have HB : Below w.heap.size w w := Below.refl _ _
  clear hT hz hk hs
  go_enter Tryz.func55, Tryz.ntmps55
  go_wp2_with fail
  ((with_reducible refine (four_bytes_calls _ _).mono ?_); rintro e w1 ⟨rfl, hb1⟩)
  replace HB := HB.trans (hb1.mono HB.size)
  clear hb1
  go_wp2_with fail
  ((with_reducible refine ((HM _).out).mono ?_); rintro e w1 ⟨rfl, hb1⟩)
  replace HB := HB.trans (hb1.mono HB.size)
  clear hb1
  go_wp2_with fail
  go_ret
  exact ⟨by rw [HT.out]; rfl, HB⟩

/-- May a packet be sealed so? -/
def sealOk (p : Packet) (k : Key) (b c : Int) : Bool := packetMay p && keyOk k && upToB b 1 4294967295 && upToB c 1 4294967295
def sealHead (p : Packet) (k : Key) (b c : Int) : ByteArray := pktBytes p ++ numbers k.id b c
/-- A sealed packet's bytes. -/
def sealBytes (p : Packet) (k : Key) (b c : Int) : ByteArray := sealHead p k b c ++ mac k.secret (sealHead p k b c ++ num p.router 4)
theorem pktBytes_size (p : Packet) (h : packetMay p = true) : (pktBytes p).size ≤ 97 := by
  have hl : listOk p = true := by
    revert h
    rw [packetMay]
    cases listOk p <;> simp
  have := listBytes_size p hl
  rw [pktBytes, ByteArray.size_append, pktHead_size]
  omega
theorem sealHead_size (p : Packet) (k : Key) (b c : Int) (h : packetMay p = true) : (sealHead p k b c).size ≤ 109 := by
  have := pktBytes_size p h
  rw [sealHead, ByteArray.size_append, numbers_size]
  omega
theorem keyOk_secret (k : Key) (h : keyOk k = true) : secretOk k.secret = true := by
  revert h
  rw [keyOk]
  cases secretOk k.secret <;> simp
theorem sealOk_parts (p : Packet) (k : Key) (b c : Int) (h : sealOk p k b c = true) : packetMay p = true ∧ keyOk k = true ∧ upToB b 1 4294967295 = true ∧ upToB c 1 4294967295 = true := by
  revert h
  rw [sealOk]
  cases packetMay p <;> cases keyOk k <;> cases upToB b 1 4294967295 <;> cases upToB c 1 4294967295 <;> simp

set_option maxRecDepth 100000 in
set_option maxHeartbeats 2000000 in
theorem seal_true (p : Packet) (A1 A2 A3 : Option Addr) (k1 k2 k3 : Nat) (k : Key) (b c : Int) (w : World) (h : sealOk p k b c = true) (hP : PktAt w A1 A2 A3 k1 k2 k3 p) :
    Calls Tryz.prog 17 #[.agg #[.int .i64 p.kind, .int .i64 p.router, .slice A1 p.heard.length k1, .slice A2 p.lsas.length k2, .slice A3 p.heads.length k3], .agg #[.int .i64 k.id, .string k.secret, .int .i64 k.sf, .int .i64 k.st, .int .i64 k.af, .int .i64 k.ak], .int .i64 b, .int .i64 c] w fun e w' => e = .returned (.tuple #[.string (sealBytes p k b c), .int .i64 0]) ∧ Below w.heap.size w w' := by
  obtain ⟨h1, h2, h3, h4⟩ := sealOk_parts p k b c h
  have hk := keyOk_secret k h2
  have hks := secretOk_sizes _ hk
  have z1 := pktBytes_size p h1
  have z2 := sealHead_size p k b c h1
  have ha1 : ∀ W : World, (Op.stringOp .add (pktBytes p) (numbers k.id b c)).run Tryz.prog W = .ok (.string (sealHead p k b c)) W := fun W => by
    rw [run_string_add_sum W _ _ (by rw [numbers_size]; omega)]
    rfl
  have ha2 : ∀ W : World, (Op.stringOp .add (sealHead p k b c) (mac k.secret (sealHead p k b c ++ num p.router 4))).run Tryz.prog W = .ok (.string (sealBytes p k b c)) W := fun W => by
    rw [run_string_add_sum W _ _ (by rw [mac_size]; omega)]
    rfl
  have HM := fun W => Lib.hid (packetPut_true p A1 A2 A3 k1 k2 k3 W h1)
  have HK := fun W => Lib.hid (chainKey_calls k W true h2 (by omega))
  have H3 := Lib.hid h3
  have H4 := Lib.hid h4
  have HS := fun W => Lib.hid (signed_calls k.secret (sealHead p k b c) p.router W hk (by omega))
  clear h h1 h2 h3 h4 hk hks z1 z2
  obtain ⟨W1, hW1⟩ : ∃ W1, W1 = (w.alloc (.cells #[.int .i64 p.kind, .int .i64 p.router, .slice A1 p.heard.length k1, .slice A2 p.lsas.length k2, .slice A3 p.heads.length k3] 49)).alloc (.cells #[.int .i64 k.id, .string k.secret, .int .i64 k.sf, .int .i64 k.st, .int .i64 k.af, .int .i64 k.ak] 34) := ⟨_, rfl⟩
  have HB : Below w.heap.size w W1 := by rw [hW1]; exact ((Below.refl _ _).alloc (Nat.le_refl _) _).alloc (by simp) _
  have c0 : W1.cell? ⟨w.heap.size, 0, none⟩ = some (.int .i64 p.kind) := by rw [hW1]; exact cell_later ((Below.refl _ _).alloc (Nat.le_refl _) _) (cell_new w _ _ 0)
  have c1 : W1.cell? ⟨w.heap.size, 1, none⟩ = some (.int .i64 p.router) := by rw [hW1]; exact cell_later ((Below.refl _ _).alloc (Nat.le_refl _) _) (cell_new w _ _ 1)
  have c2 : W1.cell? ⟨w.heap.size, 2, none⟩ = some (.slice A1 p.heard.length k1) := by rw [hW1]; exact cell_later ((Below.refl _ _).alloc (Nat.le_refl _) _) (cell_new w _ _ 2)
  have c3 : W1.cell? ⟨w.heap.size, 3, none⟩ = some (.slice A2 p.lsas.length k2) := by rw [hW1]; exact cell_later ((Below.refl _ _).alloc (Nat.le_refl _) _) (cell_new w _ _ 3)
  have c4 : W1.cell? ⟨w.heap.size, 4, none⟩ = some (.slice A3 p.heads.length k3) := by rw [hW1]; exact cell_later ((Below.refl _ _).alloc (Nat.le_refl _) _) (cell_new w _ _ 4)
  have d0 : W1.cell? ⟨w.heap.size + 1, 0, none⟩ = some (.int .i64 k.id) := by rw [hW1, show w.heap.size + 1 = (w.alloc (.cells #[.int .i64 p.kind, .int .i64 p.router, .slice A1 p.heard.length k1, .slice A2 p.lsas.length k2, .slice A3 p.heads.length k3] 49)).heap.size by simp]; exact cell_new _ _ _ 0
  have d1 : W1.cell? ⟨w.heap.size + 1, 1, none⟩ = some (.string k.secret) := by rw [hW1, show w.heap.size + 1 = (w.alloc (.cells #[.int .i64 p.kind, .int .i64 p.router, .slice A1 p.heard.length k1, .slice A2 p.lsas.length k2, .slice A3 p.heads.length k3] 49)).heap.size by simp]; exact cell_new _ _ _ 1
  have d2 : W1.cell? ⟨w.heap.size + 1, 2, none⟩ = some (.int .i64 k.sf) := by rw [hW1, show w.heap.size + 1 = (w.alloc (.cells #[.int .i64 p.kind, .int .i64 p.router, .slice A1 p.heard.length k1, .slice A2 p.lsas.length k2, .slice A3 p.heads.length k3] 49)).heap.size by simp]; exact cell_new _ _ _ 2
  have d3 : W1.cell? ⟨w.heap.size + 1, 3, none⟩ = some (.int .i64 k.st) := by rw [hW1, show w.heap.size + 1 = (w.alloc (.cells #[.int .i64 p.kind, .int .i64 p.router, .slice A1 p.heard.length k1, .slice A2 p.lsas.length k2, .slice A3 p.heads.length k3] 49)).heap.size by simp]; exact cell_new _ _ _ 3
  have d4 : W1.cell? ⟨w.heap.size + 1, 4, none⟩ = some (.int .i64 k.af) := by rw [hW1, show w.heap.size + 1 = (w.alloc (.cells #[.int .i64 p.kind, .int .i64 p.router, .slice A1 p.heard.length k1, .slice A2 p.lsas.length k2, .slice A3 p.heads.length k3] 49)).heap.size by simp]; exact cell_new _ _ _ 4
  have d5 : W1.cell? ⟨w.heap.size + 1, 5, none⟩ = some (.int .i64 k.ak) := by rw [hW1, show w.heap.size + 1 = (w.alloc (.cells #[.int .i64 p.kind, .int .i64 p.router, .slice A1 p.heard.length k1, .slice A2 p.lsas.length k2, .slice A3 p.heads.length k3] 49)).heap.size by simp]; exact cell_new _ _ _ 5
  have HP := Lib.hid (hP.below HB)
  have HW1 := Lib.hid hW1
  clear hP hW1
  generalize sealBytes p k b c = SB at *
  generalize mac k.secret (sealHead p k b c ++ num p.router 4) = MC at *
  generalize sealHead p k b c = SH at *
  generalize pktBytes p = PB at *
  go_enter Tryz.func17, Tryz.ntmps17
  go_wp2_with fail
  rw [← HW1.out]
  clear HW1
  ((with_reducible refine ((HM _).out HP.out).mono ?_); rintro e w1 ⟨rfl, hb1⟩)
  replace c0 := cell_later hb1 c0
  replace c1 := cell_later hb1 c1
  replace c2 := cell_later hb1 c2
  replace c3 := cell_later hb1 c3
  replace c4 := cell_later hb1 c4
  replace d0 := cell_later hb1 d0
  replace d1 := cell_later hb1 d1
  replace d2 := cell_later hb1 d2
  replace d3 := cell_later hb1 d3
  replace d4 := cell_later hb1 d4
  replace d5 := cell_later hb1 d5
  replace HB := HB.trans (hb1.mono HB.size)
  replace HP := Lib.hid (HP.out.below hb1)
  clear hb1
  go_wp2_with fail
  ((with_reducible refine ((HK _).out).mono ?_); rintro e w1 ⟨rfl, hb1⟩)
  replace c0 := cell_later hb1 c0
  replace c1 := cell_later hb1 c1
  replace c2 := cell_later hb1 c2
  replace c3 := cell_later hb1 c3
  replace c4 := cell_later hb1 c4
  replace d0 := cell_later hb1 d0
  replace d1 := cell_later hb1 d1
  replace d2 := cell_later hb1 d2
  replace d3 := cell_later hb1 d3
  replace d4 := cell_later hb1 d4
  replace d5 := cell_later hb1 d5
  replace HB := HB.trans (hb1.mono HB.size)
  replace HP := Lib.hid (HP.out.below hb1)
  clear hb1
  go_wp2_with fail
  ((with_reducible refine (trailerBoot_is _ _ _ H3.out).mono ?_); rintro e w1 ⟨rfl, rfl⟩)
  go_wp2_with fail
  ((with_reducible refine (trailerCount_is _ _ _ H4.out).mono ?_); rintro e w1 ⟨rfl, rfl⟩)
  go_wp2_with fail
  ((with_reducible refine (numbers_calls _ _ _ _).mono ?_); rintro e w1 ⟨rfl, hb1⟩)
  replace c0 := cell_later hb1 c0
  replace c1 := cell_later hb1 c1
  replace c2 := cell_later hb1 c2
  replace c3 := cell_later hb1 c3
  replace c4 := cell_later hb1 c4
  replace d0 := cell_later hb1 d0
  replace d1 := cell_later hb1 d1
  replace d2 := cell_later hb1 d2
  replace d3 := cell_later hb1 d3
  replace d4 := cell_later hb1 d4
  replace d5 := cell_later hb1 d5
  replace HB := HB.trans (hb1.mono HB.size)
  replace HP := Lib.hid (HP.out.below hb1)
  clear hb1
  go_wp2_with fail
  ((with_reducible refine ((HS _).out).mono ?_); rintro e w1 ⟨rfl, hb1⟩)
  replace HB := HB.trans (hb1.mono HB.size)
  clear hb1
  go_wp2_with fail
  go_ret2
  exact ⟨rfl, HB⟩

set_option maxRecDepth 100000 in
set_option maxHeartbeats 2000000 in
theorem seal_false (p : Packet) (A1 A2 A3 : Option Addr) (k1 k2 k3 : Nat) (k : Key) (b c : Int) (w : World) (h : sealOk p k b c = false) (hs : k.secret.size ≤ 140737488355328) (hP : PktAt w A1 A2 A3 k1 k2 k3 p) :
    Calls Tryz.prog 17 #[.agg #[.int .i64 p.kind, .int .i64 p.router, .slice A1 p.heard.length k1, .slice A2 p.lsas.length k2, .slice A3 p.heads.length k3], .agg #[.int .i64 k.id, .string k.secret, .int .i64 k.sf, .int .i64 k.st, .int .i64 k.af, .int .i64 k.ak], .int .i64 b, .int .i64 c] w fun e w' => e = .returned (.tuple #[.string ⟨#[]⟩, .int .i64 1500]) ∧ Below w.heap.size w w' := by
  obtain ⟨v1, e1⟩ : ∃ v, packetMay p = v := ⟨_, rfl⟩
  obtain ⟨v2, e2⟩ : ∃ v, keyOk k = v := ⟨_, rfl⟩
  obtain ⟨v3, e3⟩ : ∃ v, upToB b 1 4294967295 = v := ⟨_, rfl⟩
  obtain ⟨v4, e4⟩ : ∃ v, upToB c 1 4294967295 = v := ⟨_, rfl⟩
  rw [sealOk, e1, e2, e3, e4] at h
  have HH := Lib.hid h
  have HK := fun W => Lib.hid (chainKey_calls k W v2 e2 hs)
  have H3 := Lib.hid e3
  have H4 := Lib.hid e4
  clear h e2 e3 e4
  obtain ⟨W1, hW1⟩ : ∃ W1, W1 = (w.alloc (.cells #[.int .i64 p.kind, .int .i64 p.router, .slice A1 p.heard.length k1, .slice A2 p.lsas.length k2, .slice A3 p.heads.length k3] 49)).alloc (.cells #[.int .i64 k.id, .string k.secret, .int .i64 k.sf, .int .i64 k.st, .int .i64 k.af, .int .i64 k.ak] 34) := ⟨_, rfl⟩
  have HB : Below w.heap.size w W1 := by rw [hW1]; exact ((Below.refl _ _).alloc (Nat.le_refl _) _).alloc (by simp) _
  have c0 : W1.cell? ⟨w.heap.size, 0, none⟩ = some (.int .i64 p.kind) := by rw [hW1]; exact cell_later ((Below.refl _ _).alloc (Nat.le_refl _) _) (cell_new w _ _ 0)
  have c1 : W1.cell? ⟨w.heap.size, 1, none⟩ = some (.int .i64 p.router) := by rw [hW1]; exact cell_later ((Below.refl _ _).alloc (Nat.le_refl _) _) (cell_new w _ _ 1)
  have c2 : W1.cell? ⟨w.heap.size, 2, none⟩ = some (.slice A1 p.heard.length k1) := by rw [hW1]; exact cell_later ((Below.refl _ _).alloc (Nat.le_refl _) _) (cell_new w _ _ 2)
  have c3 : W1.cell? ⟨w.heap.size, 3, none⟩ = some (.slice A2 p.lsas.length k2) := by rw [hW1]; exact cell_later ((Below.refl _ _).alloc (Nat.le_refl _) _) (cell_new w _ _ 3)
  have c4 : W1.cell? ⟨w.heap.size, 4, none⟩ = some (.slice A3 p.heads.length k3) := by rw [hW1]; exact cell_later ((Below.refl _ _).alloc (Nat.le_refl _) _) (cell_new w _ _ 4)
  have d0 : W1.cell? ⟨w.heap.size + 1, 0, none⟩ = some (.int .i64 k.id) := by rw [hW1, show w.heap.size + 1 = (w.alloc (.cells #[.int .i64 p.kind, .int .i64 p.router, .slice A1 p.heard.length k1, .slice A2 p.lsas.length k2, .slice A3 p.heads.length k3] 49)).heap.size by simp]; exact cell_new _ _ _ 0
  have d1 : W1.cell? ⟨w.heap.size + 1, 1, none⟩ = some (.string k.secret) := by rw [hW1, show w.heap.size + 1 = (w.alloc (.cells #[.int .i64 p.kind, .int .i64 p.router, .slice A1 p.heard.length k1, .slice A2 p.lsas.length k2, .slice A3 p.heads.length k3] 49)).heap.size by simp]; exact cell_new _ _ _ 1
  have d2 : W1.cell? ⟨w.heap.size + 1, 2, none⟩ = some (.int .i64 k.sf) := by rw [hW1, show w.heap.size + 1 = (w.alloc (.cells #[.int .i64 p.kind, .int .i64 p.router, .slice A1 p.heard.length k1, .slice A2 p.lsas.length k2, .slice A3 p.heads.length k3] 49)).heap.size by simp]; exact cell_new _ _ _ 2
  have d3 : W1.cell? ⟨w.heap.size + 1, 3, none⟩ = some (.int .i64 k.st) := by rw [hW1, show w.heap.size + 1 = (w.alloc (.cells #[.int .i64 p.kind, .int .i64 p.router, .slice A1 p.heard.length k1, .slice A2 p.lsas.length k2, .slice A3 p.heads.length k3] 49)).heap.size by simp]; exact cell_new _ _ _ 3
  have d4 : W1.cell? ⟨w.heap.size + 1, 4, none⟩ = some (.int .i64 k.af) := by rw [hW1, show w.heap.size + 1 = (w.alloc (.cells #[.int .i64 p.kind, .int .i64 p.router, .slice A1 p.heard.length k1, .slice A2 p.lsas.length k2, .slice A3 p.heads.length k3] 49)).heap.size by simp]; exact cell_new _ _ _ 4
  have d5 : W1.cell? ⟨w.heap.size + 1, 5, none⟩ = some (.int .i64 k.ak) := by rw [hW1, show w.heap.size + 1 = (w.alloc (.cells #[.int .i64 p.kind, .int .i64 p.router, .slice A1 p.heard.length k1, .slice A2 p.lsas.length k2, .slice A3 p.heads.length k3] 49)).heap.size by simp]; exact cell_new _ _ _ 5
  have HP := Lib.hid (hP.below HB)
  have HW1 := Lib.hid hW1
  clear hP hW1
  cases v1
  · have HM := fun W => Lib.hid (packetPut_false p A1 A2 A3 k1 k2 k3 W e1)
    clear e1
    go_enter Tryz.func17, Tryz.ntmps17
    go_wp2_with fail
    rw [← HW1.out]
    clear HW1
    ((with_reducible refine ((HM _).out HP.out).mono ?_); rintro e w1 ⟨rfl, hb1⟩)
    replace c0 := cell_later hb1 c0
    replace c1 := cell_later hb1 c1
    replace c2 := cell_later hb1 c2
    replace c3 := cell_later hb1 c3
    replace c4 := cell_later hb1 c4
    replace d0 := cell_later hb1 d0
    replace d1 := cell_later hb1 d1
    replace d2 := cell_later hb1 d2
    replace d3 := cell_later hb1 d3
    replace d4 := cell_later hb1 d4
    replace d5 := cell_later hb1 d5
    replace HB := HB.trans (hb1.mono HB.size)
    replace HP := Lib.hid (HP.out.below hb1)
    clear hb1
    go_wp2_with fail
    go_ret2
    exact ⟨rfl, HB⟩
  have HM := fun W => Lib.hid (packetPut_true p A1 A2 A3 k1 k2 k3 W e1)
  clear e1
  generalize pktBytes p = PB at *
  go_enter Tryz.func17, Tryz.ntmps17
  go_wp2_with fail
  rw [← HW1.out]
  clear HW1
  ((with_reducible refine ((HM _).out HP.out).mono ?_); rintro e w1 ⟨rfl, hb1⟩)
  replace c0 := cell_later hb1 c0
  replace c1 := cell_later hb1 c1
  replace c2 := cell_later hb1 c2
  replace c3 := cell_later hb1 c3
  replace c4 := cell_later hb1 c4
  replace d0 := cell_later hb1 d0
  replace d1 := cell_later hb1 d1
  replace d2 := cell_later hb1 d2
  replace d3 := cell_later hb1 d3
  replace d4 := cell_later hb1 d4
  replace d5 := cell_later hb1 d5
  replace HB := HB.trans (hb1.mono HB.size)
  replace HP := Lib.hid (HP.out.below hb1)
  clear hb1
  go_wp2_with fail
  ((with_reducible refine ((HK _).out).mono ?_); rintro e w1 ⟨rfl, hb1⟩)
  replace c0 := cell_later hb1 c0
  replace c1 := cell_later hb1 c1
  replace c2 := cell_later hb1 c2
  replace c3 := cell_later hb1 c3
  replace c4 := cell_later hb1 c4
  replace d0 := cell_later hb1 d0
  replace d1 := cell_later hb1 d1
  replace d2 := cell_later hb1 d2
  replace d3 := cell_later hb1 d3
  replace d4 := cell_later hb1 d4
  replace d5 := cell_later hb1 d5
  replace HB := HB.trans (hb1.mono HB.size)
  clear hb1
  cases v2
  · go_wp2_with fail
    go_ret2
    exact ⟨rfl, HB⟩
  go_wp2_with fail
  ((with_reducible refine (trailerBoot_is _ _ _ H3.out).mono ?_); rintro e w1 ⟨rfl, rfl⟩)
  cases v3
  · go_wp2_with fail
    go_ret2
    exact ⟨rfl, HB⟩
  go_wp2_with fail
  ((with_reducible refine (trailerCount_is _ _ _ H4.out).mono ?_); rintro e w1 ⟨rfl, rfl⟩)
  cases v4
  · go_wp2_with fail
    go_ret2
    exact ⟨rfl, HB⟩
  · exact absurd HH.out (by decide)

end Go.Proofs.YtpgkgpecbjjifaaGreat
