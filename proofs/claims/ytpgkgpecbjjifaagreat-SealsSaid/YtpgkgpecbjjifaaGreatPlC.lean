/- The document's trailers, its Seal. -/
import Derived.Test.YtpgkgpecbjjifaaGreatPlB
import Derived.Test.YtpgkgpecbjjifaaGreatPkX
import Derived.Deep.RegionHeld3
namespace Go.Proofs.YtpgkgpecbjjifaaGreat
open Go.RowKit Sha
set_option linter.unusedSimpArgs false


/-- A trailer. -/
def numberOk (b c : Int) : Bool := upToB b 1 4294967295 && upToB c 1 4294967295

set_option maxRecDepth 100000 in
set_option maxHeartbeats 400000 in
theorem refNumber_is (b c : Int) (w : World) (v : Bool) (h : numberOk b c = v) : Calls Tryz.prog 82 #[.int .i64 b, .int .i64 c] w fun e w' => e = .returned (.bool v) ∧ w = w' := by
  obtain ⟨v1, e1⟩ : ∃ v, upToB b 1 4294967295 = v := ⟨_, rfl⟩
  obtain ⟨v2, e2⟩ : ∃ v, upToB c 1 4294967295 = v := ⟨_, rfl⟩
  rw [numberOk, e1, e2] at h
  have H := Lib.hid h
  have E1 := Lib.hid e1
  have E2 := Lib.hid e2
  clear h e1 e2
  go_enter Tryz.func82, Tryz.ntmps82
  go_wp2_with fail
  ((with_reducible refine (ref9UpTo_is b 1 4294967295 _ _ E1.out).mono ?_); rintro e w1 ⟨rfl, rfl⟩)
  cases v1
  · go_wp2_with fail
    go_ret
    exact ⟨by rw [← H.out]; rfl, rfl⟩
  go_wp2_with fail
  ((with_reducible refine (ref9UpTo_is c 1 4294967295 _ _ E2.out).mono ?_); rintro e w1 ⟨rfl, rfl⟩)
  go_wp2_with fail
  go_ret
  exact ⟨by rw [← H.out]; rfl, rfl⟩

set_option maxRecDepth 100000 in
set_option maxHeartbeats 400000 in
theorem refTrailerMay_true (k b c : Int) (t : ByteArray) (w : World) (h1 : upToB k 0 255 = true) (h2 : numberOk b c = true) (h3 : t.size = 32) :
    Calls Tryz.prog 130 #[.agg #[.int .i64 k, .int .i64 b, .int .i64 c, .string t]] w fun e w' => e = .returned (.bool true) ∧ Below w.heap.size w w' := by
  have h4 : (t.size : Int) = 32 := by omega
  obtain ⟨W1, hW1⟩ : ∃ W1, W1 = w.alloc (.cells #[.int .i64 k, .int .i64 b, .int .i64 c, .string t] 42) := ⟨_, rfl⟩
  have HB : Below w.heap.size w W1 := by rw [hW1]; exact (Below.refl _ _).alloc (Nat.le_refl _) _
  have c0 : W1.cell? ⟨w.heap.size, 0, none⟩ = some (.int .i64 k) := by rw [hW1]; exact cell_new w _ _ 0
  have c1 : W1.cell? ⟨w.heap.size, 1, none⟩ = some (.int .i64 b) := by rw [hW1]; exact cell_new w _ _ 1
  have c2 : W1.cell? ⟨w.heap.size, 2, none⟩ = some (.int .i64 c) := by rw [hW1]; exact cell_new w _ _ 2
  have c3 : W1.cell? ⟨w.heap.size, 3, none⟩ = some (.string t) := by rw [hW1]; exact cell_new w _ _ 3
  have H1 := Lib.hid h1
  have H2 := Lib.hid h2
  clear h1 h2 h3
  go_enter Tryz.func130, Tryz.ntmps130
  go_wp2_with fail
  rw [← hW1]
  clear hW1
  ((with_reducible refine (ref9UpTo_is _ _ _ _ _ H1.out).mono ?_); rintro e w1 ⟨rfl, rfl⟩)
  go_wp2_with fail
  ((with_reducible refine (refNumber_is _ _ _ _ H2.out).mono ?_); rintro e w1 ⟨rfl, rfl⟩)
  go_wp2_with fail
  go_ret
  exact ⟨rfl, HB⟩

set_option maxRecDepth 100000 in
set_option maxHeartbeats 2000000 in
theorem refPutTrailer_true (k b c : Int) (t : ByteArray) (w : World) (h1 : upToB k 0 255 = true) (h2 : numberOk b c = true) (h3 : t.size = 32) :
    Calls Tryz.prog 49 #[.agg #[.int .i64 k, .int .i64 b, .int .i64 c, .string t]] w fun e w' => e = .returned (.tuple #[.string (numbers k b c ++ t), .int .i64 0]) ∧ Below w.heap.size w w' := by
  have HM := fun W => Lib.hid (refTrailerMay_true k b c t W h1 h2 h3)
  obtain ⟨B1, hB1⟩ : ∃ B, B = num k 1 ++ num 0 3 := ⟨_, rfl⟩
  have ha1 : ∀ W : World, (Op.stringOp .add (num k 1) (num 0 3)).run Tryz.prog W = .ok (.string B1) W := fun W => by rw [run_string_add_sum W _ _ (by simp only [ByteArray.size_append, num_size]; omega), hB1]
  obtain ⟨B2, hB2⟩ : ∃ B, B = B1 ++ num b 4 := ⟨_, rfl⟩
  have ha2 : ∀ W : World, (Op.stringOp .add (B1) (num b 4)).run Tryz.prog W = .ok (.string B2) W := fun W => by rw [run_string_add_sum W _ _ (by simp only [hB1, ByteArray.size_append, num_size]; omega), hB2]
  have ha3 : ∀ W : World, (Op.stringOp .add (B2) (num c 4)).run Tryz.prog W = .ok (.string (numbers k b c)) W := fun W => by
    rw [run_string_add_sum W _ _ (by simp only [hB2, hB1, ByteArray.size_append, num_size]; omega), hB2, hB1]
    rfl
  clear hB2 hB1
  have ha4 : ∀ W : World, (Op.stringOp .add (numbers k b c) t).run Tryz.prog W = .ok (.string (numbers k b c ++ t)) W := fun W => by
    rw [run_string_add_sum W _ _ (by rw [numbers_size]; omega)]
  generalize numbers k b c ++ t = NT at *
  generalize numbers k b c = NB at *
  clear h1 h2 h3
  obtain ⟨W1, hW1⟩ : ∃ W1, W1 = w.alloc (.cells #[.int .i64 k, .int .i64 b, .int .i64 c, .string t] 42) := ⟨_, rfl⟩
  have HB : Below w.heap.size w W1 := by rw [hW1]; exact (Below.refl _ _).alloc (Nat.le_refl _) _
  have c0 : W1.cell? ⟨w.heap.size, 0, none⟩ = some (.int .i64 k) := by rw [hW1]; exact cell_new w _ _ 0
  have c1 : W1.cell? ⟨w.heap.size, 1, none⟩ = some (.int .i64 b) := by rw [hW1]; exact cell_new w _ _ 1
  have c2 : W1.cell? ⟨w.heap.size, 2, none⟩ = some (.int .i64 c) := by rw [hW1]; exact cell_new w _ _ 2
  have c3 : W1.cell? ⟨w.heap.size, 3, none⟩ = some (.string t) := by rw [hW1]; exact cell_new w _ _ 3
  go_enter Tryz.func49, Tryz.ntmps49
  go_wp2_with fail
  rw [← hW1]
  clear hW1
  ((with_reducible refine ((HM _).out).mono ?_); rintro e w1 ⟨rfl, hb1⟩)
  replace c0 := cell_later hb1 c0
  replace c1 := cell_later hb1 c1
  replace c2 := cell_later hb1 c2
  replace c3 := cell_later hb1 c3
  replace HB := HB.trans (hb1.mono HB.size)
  clear hb1
  go_wp2_with fail
  go_region_held3 (fun w' => w'.cell? ⟨w.heap.size, 0, none⟩ = some (.int .i64 k) ∧ w'.cell? ⟨w.heap.size, 1, none⟩ = some (.int .i64 b) ∧ w'.cell? ⟨w.heap.size, 2, none⟩ = some (.int .i64 c) ∧ w'.cell? ⟨w.heap.size, 3, none⟩ = some (.string t)) (first | exact ⟨c0, c1, c2, c3⟩) (first | (go_simp; go_at_call 23; (with_reducible refine (num1_calls _ _).mono ?_); rintro e w1 ⟨rfl, hb1⟩; first | (replace c0 := cell_later hb1 c0; replace c1 := cell_later hb1 c1; replace c2 := cell_later hb1 c2; replace c3 := cell_later hb1 c3; replace HB := HB.trans (hb1.mono HB.size)) | (replace c0 := cell_drew hb1 c0; replace c1 := cell_drew hb1 c1; replace c2 := cell_drew hb1 c2; replace c3 := cell_drew hb1 c3; replace HB := HB.drew.trans (hb1.mono HB.drew.size)); clear hb1) | (go_simp; go_at_call 23; (with_reducible refine (num3_calls _ _).mono ?_); rintro e w1 ⟨rfl, hb1⟩; first | (replace c0 := cell_later hb1 c0; replace c1 := cell_later hb1 c1; replace c2 := cell_later hb1 c2; replace c3 := cell_later hb1 c3; replace HB := HB.trans (hb1.mono HB.size)) | (replace c0 := cell_drew hb1 c0; replace c1 := cell_drew hb1 c1; replace c2 := cell_drew hb1 c2; replace c3 := cell_drew hb1 c3; replace HB := HB.drew.trans (hb1.mono HB.drew.size)); clear hb1) | (go_simp; go_at_call 23; (with_reducible refine (num4_calls _ _).mono ?_); rintro e w1 ⟨rfl, hb1⟩; first | (replace c0 := cell_later hb1 c0; replace c1 := cell_later hb1 c1; replace c2 := cell_later hb1 c2; replace c3 := cell_later hb1 c3; replace HB := HB.trans (hb1.mono HB.size)) | (replace c0 := cell_drew hb1 c0; replace c1 := cell_drew hb1 c1; replace c2 := cell_drew hb1 c2; replace c3 := cell_drew hb1 c3; replace HB := HB.drew.trans (hb1.mono HB.drew.size)); clear hb1))
  go_wp2_with fail
  go_ret2
  exact ⟨rfl, HB⟩

theorem take_front (a t : ByteArray) (h : a.size = 12) : (a ++ t).extract 0 12 = a := by
  rw [ByteArray.extract_append_eq_left h.symm]
theorem sealOk_number (p : Packet) (k : Key) (b c : Int) : sealOk p k b c = (packetMay p && keyOk k && numberOk b c) := by
  rw [sealOk, numberOk, Bool.and_assoc]
theorem conv_z32 (W : World) : (convert 140 9 (.slice (some ⟨W.heap.size, 0, none⟩) 32 32)).run Tryz.prog (W.alloc (.cells (byts (List.replicate 32 0)) 5)) = .ok (.string (strOfNums (List.replicate 32 0))) (W.alloc (.cells (byts (List.replicate 32 0)) 5)) := conv_new W (List.replicate 32 0)
theorem conv_z32d (W : World) : (convert 140 9 (.slice (some ⟨W.heap.size, 0, none⟩) 32 32)).run Tryz.prog (W.alloc (.cells (byts (List.replicate 32 0)) 5)).drew = .ok (.string (strOfNums (List.replicate 32 0))) (W.alloc (.cells (byts (List.replicate 32 0)) 5)).drew := conv_z32 W.drew
theorem make_32 (W : World) : (Instr.makeSlice 140 (.int .i64 32) (.int .i64 32)).run Tryz.prog W = .ok (.slice (some ⟨W.heap.size, 0, none⟩) 32 32) (W.alloc (.cells (byts (List.replicate 32 0)) 5)) :=
  macMake_bytes 32 (by decide) W

set_option maxRecDepth 100000 in
set_option maxHeartbeats 2000000 in
theorem refSeal_true (p : Packet) (A1 A2 A3 : Option Addr) (k1 k2 k3 : Nat) (k : Key) (b c : Int) (w : World) (h : sealOk p k b c = true) (hP : PktAt w A1 A2 A3 k1 k2 k3 p) :
    Calls Tryz.prog 28 #[.agg #[.int .i64 p.kind, .int .i64 p.router, .slice A1 p.heard.length k1, .slice A2 p.lsas.length k2, .slice A3 p.heads.length k3], .agg #[.int .i64 k.id, .string k.secret, .int .i64 k.sf, .int .i64 k.st, .int .i64 k.af, .int .i64 k.ak], .int .i64 b, .int .i64 c] w fun e w' => e = .returned (.tuple #[.string (sealBytes p k b c), .int .i64 0]) ∧ Below w.heap.size w w' := by
  obtain ⟨h1, h2, h3, h4⟩ := sealOk_parts p k b c h
  have hn : numberOk b c = true := by rw [numberOk, h3, h4]; rfl
  have hid : upToB k.id 0 255 = true := by
    revert h2
    rw [keyOk]
    cases upToB k.id 0 255 <;> simp
  have hk := keyOk_secret k h2
  have hks := secretOk_sizes _ hk
  have z1 := pktBytes_size p h1
  have z2 := sealHead_size p k b c h1
  have hz : (strOfNums (List.replicate 32 0)).size = 32 := by rw [strOfNums_size]; rfl
  have ha1 : ∀ W : World, (Op.stringOp .add (pktBytes p) (numbers k.id b c)).run Tryz.prog W = .ok (.string (sealHead p k b c)) W := fun W => by
    rw [run_string_add_sum W _ _ (by rw [numbers_size]; omega)]
    rfl
  have ha2 : ∀ W : World, (Op.stringOp .add (sealHead p k b c) (mac k.secret (sealHead p k b c ++ num p.router 4))).run Tryz.prog W = .ok (.string (sealBytes p k b c)) W := fun W => by
    rw [run_string_add_sum W _ _ (by rw [mac_size]; omega)]
    rfl
  have ha3 : ∀ W : World, (Op.stringOp .add (sealHead p k b c) (num p.router 4)).run Tryz.prog W = .ok (.string (sealHead p k b c ++ num p.router 4)) W := fun W => by
    rw [run_string_add_sum W _ _ (by rw [num_size]; omega)]
  have HM := fun W => Lib.hid (refPacketMay_calls p A1 A2 A3 k1 k2 k3 W true h1)
  have HQ := fun W => Lib.hid (refPutPacket_true p A1 A2 A3 k1 k2 k3 W h1)
  have HK := fun W => Lib.hid (refKey_calls k W true h2 (by omega))
  have HNB := Lib.hid hn
  have hx := take_front (numbers k.id b c) (strOfNums (List.replicate 32 0)) (numbers_size _ _ _)
  have hxs : ((numbers k.id b c ++ strOfNums (List.replicate 32 0)).size : Int) = 44 := by rw [ByteArray.size_append, numbers_size, hz]; rfl
  have HT := fun W => Lib.hid (refPutTrailer_true k.id b c (strOfNums (List.replicate 32 0)) W hid hn hz)
  have HS := fun W => Lib.hid (refTag_ok k.secret (sealHead p k b c ++ num p.router 4) W hk (by rw [ByteArray.size_append, num_size]; omega))
  have hmk := make_32
  have hcv := conv_z32
  have hcvd := conv_z32d
  clear h h1 h2 h3 h4 hk hks z1 z2 hn hid hz
  obtain ⟨W1, hW1⟩ : ∃ W1, W1 = (w.alloc (.cells #[.int .i64 p.kind, .int .i64 p.router, .slice A1 p.heard.length k1, .slice A2 p.lsas.length k2, .slice A3 p.heads.length k3] 49)).alloc (.cells #[.int .i64 k.id, .string k.secret, .int .i64 k.sf, .int .i64 k.st, .int .i64 k.af, .int .i64 k.ak] 34) := ⟨_, rfl⟩
  have HB : Below w.heap.size w W1 := by rw [hW1]; exact ((Below.refl _ _).alloc (Nat.le_refl _) _).alloc (by simp) _
  have c0 : W1.cell? ⟨w.heap.size, 0, none⟩ = some (.int .i64 p.kind) := by rw [hW1]; exact cell_later ((Below.refl _ _).alloc (Nat.le_refl _) _) (cell_new w _ _ 0)
  have c1 : W1.cell? ⟨w.heap.size, 1, none⟩ = some (.int .i64 p.router) := by rw [hW1]; exact cell_later ((Below.refl _ _).alloc (Nat.le_refl _) _) (cell_new w _ _ 1)
  have c2 : W1.cell? ⟨w.heap.size, 2, none⟩ = some (.slice A1 p.heard.length k1) := by rw [hW1]; exact cell_later ((Below.refl _ _).alloc (Nat.le_refl _) _) (cell_new w _ _ 2)
  have c3 : W1.cell? ⟨w.heap.size, 3, none⟩ = some (.slice A2 p.lsas.length k2) := by rw [hW1]; exact cell_later ((Below.refl _ _).alloc (Nat.le_refl _) _) (cell_new w _ _ 3)
  have c4 : W1.cell? ⟨w.heap.size, 4, none⟩ = some (.slice A3 p.heads.length k3) := by rw [hW1]; exact cell_later ((Below.refl _ _).alloc (Nat.le_refl _) _) (cell_new w _ _ 4)
  have d0 : W1.cell? ⟨w.heap.size + 1, 0, none⟩ = some (.int .i64 k.id) := by rw [hW1, show w.heap.size + 1 = (w.alloc (.cells #[.int .i64 p.kind, .int .i64 p.router, .slice A1 p.heard.length k1, .slice A2 p.lsas.length k2, .slice A3 p.heads.length k3] 49)).heap.size by simp]; exact cell_new _ _ _ 0
  have d1 : W1.cell? ⟨w.heap.size + 1, 1, none⟩ = some (.string k.secret) := by rw [hW1, show w.heap.size + 1 = (w.alloc (.cells #[.int .i64 p.kind, .int .i64 p.router, .slice A1 p.heard.length k1, .slice A2 p.lsas.length k2, .slice A3 p.heads.length k3] 49)).heap.size by simp]; exact cell_new _ _ _ 1
  have d2 : W1.cell? ⟨w.heap.size + 1, 2, none⟩ = some (.int .i64 k.sf) := by rw [hW1, show w.heap.size + 1 = (w.alloc (.cells #[.int .i64 p.kind, .int .i64 p.router, .slice A1 p.heard.length k1, .slice A2 p.lsas.length k2, .slice A3 p.heads.length k3] 49)).heap.size by simp]; exact cell_new _ _ _ 2
  have d3 : W1.cell? ⟨w.heap.size + 1, 3, none⟩ = some (.int .i64 k.st) := by rw [hW1, show w.heap.size + 1 = (w.alloc (.cells #[.int .i64 p.kind, .int .i64 p.router, .slice A1 p.heard.length k1, .slice A2 p.lsas.length k2, .slice A3 p.heads.length k3] 49)).heap.size by simp]; exact cell_new _ _ _ 3
  have d4 : W1.cell? ⟨w.heap.size + 1, 4, none⟩ = some (.int .i64 k.af) := by rw [hW1, show w.heap.size + 1 = (w.alloc (.cells #[.int .i64 p.kind, .int .i64 p.router, .slice A1 p.heard.length k1, .slice A2 p.lsas.length k2, .slice A3 p.heads.length k3] 49)).heap.size by simp]; exact cell_new _ _ _ 4
  have d5 : W1.cell? ⟨w.heap.size + 1, 5, none⟩ = some (.int .i64 k.ak) := by rw [hW1, show w.heap.size + 1 = (w.alloc (.cells #[.int .i64 p.kind, .int .i64 p.router, .slice A1 p.heard.length k1, .slice A2 p.lsas.length k2, .slice A3 p.heads.length k3] 49)).heap.size by simp]; exact cell_new _ _ _ 5
  have HP := Lib.hid (hP.below HB)
  have HW1 := Lib.hid hW1
  clear hP hW1
  generalize sealBytes p k b c = SB at *
  generalize mac k.secret (sealHead p k b c ++ num p.router 4) = MC at *
  generalize sealHead p k b c ++ num p.router 4 = SN at *
  generalize sealHead p k b c = SH at *
  generalize pktBytes p = PB at *
  generalize numbers k.id b c ++ strOfNums (List.replicate 32 0) = NZ at *
  generalize numbers k.id b c = NB at *
  generalize strOfNums (List.replicate 32 0) = Z at *
  generalize byts (List.replicate 32 0) = ZC at *
  go_enter Tryz.func28, Tryz.ntmps28
  go_wp2_with fail
  rw [← HW1.out]
  clear HW1
  ((with_reducible refine ((HM _).out HP.out).mono ?_); rintro e w1 ⟨rfl, hb1⟩)
  replace c0 := cell_later hb1 c0
  replace c1 := cell_later hb1 c1
  replace c2 := cell_later hb1 c2
  replace c3 := cell_later hb1 c3
  replace c4 := cell_later hb1 c4
  replace d0 := cell_later hb1 d0
  replace d1 := cell_later hb1 d1
  replace d2 := cell_later hb1 d2
  replace d3 := cell_later hb1 d3
  replace d4 := cell_later hb1 d4
  replace d5 := cell_later hb1 d5
  replace HB := HB.trans (hb1.mono HB.size)
  replace HP := Lib.hid (HP.out.below hb1)
  clear hb1
  go_wp2_with fail
  ((with_reducible refine ((HK _).out).mono ?_); rintro e w1 ⟨rfl, hb1⟩)
  replace c0 := cell_later hb1 c0
  replace c1 := cell_later hb1 c1
  replace c2 := cell_later hb1 c2
  replace c3 := cell_later hb1 c3
  replace c4 := cell_later hb1 c4
  replace d0 := cell_later hb1 d0
  replace d1 := cell_later hb1 d1
  replace d2 := cell_later hb1 d2
  replace d3 := cell_later hb1 d3
  replace d4 := cell_later hb1 d4
  replace d5 := cell_later hb1 d5
  replace HB := HB.trans (hb1.mono HB.size)
  replace HP := Lib.hid (HP.out.below hb1)
  clear hb1
  go_wp2_with fail
  ((with_reducible refine (refNumber_is _ _ _ _ HNB.out).mono ?_); rintro e w1 ⟨rfl, rfl⟩)
  go_wp2_with fail
  ((with_reducible refine ((HQ _).out HP.out).mono ?_); rintro e w1 ⟨rfl, hb1⟩)
  replace c0 := cell_later hb1 c0
  replace c1 := cell_later hb1 c1
  replace c2 := cell_later hb1 c2
  replace c3 := cell_later hb1 c3
  replace c4 := cell_later hb1 c4
  replace d0 := cell_later hb1 d0
  replace d1 := cell_later hb1 d1
  replace d2 := cell_later hb1 d2
  replace d3 := cell_later hb1 d3
  replace d4 := cell_later hb1 d4
  replace d5 := cell_later hb1 d5
  replace HB := HB.trans (hb1.mono HB.size)
  replace HP := Lib.hid (HP.out.below hb1)
  clear hb1
  go_wp2_with fail
  have d0a : ∀ o : Obj, (w1.alloc o).cell? ⟨w.heap.size + 1, 0, none⟩ = some (.int .i64 k.id) := fun o => cell_old d0
  go_region_with (go_at_call 49; (with_reducible refine (HT _).out.mono ?_); rintro e w2 ⟨rfl, hb1⟩)
  all_goals (first | (have hk : Below w1.heap.size w1 w2 := Below.trans (Below.refl _ _) (Below.mono hb1 (by simp <;> omega))) | (have hk : Below w1.heap.size w1 w2 := Below.trans (below_one _ _) (Below.mono hb1 (by simp <;> omega))) | (have hk : Below w1.heap.size w1 w2 := Below.trans ((Below.refl _ _).drew) (Below.mono hb1 (by simp <;> omega))) | (have hk : Below w1.heap.size w1 w2 := Below.trans ((below_one _ _).drew) (Below.mono hb1 (by simp <;> omega))) | (have hk : Below w1.heap.size w1 w2 := Below.trans ((Below.refl _ _).drew.alloc (Nat.le_refl _) _) (Below.mono hb1 (by simp <;> omega))))
  all_goals (replace c0 := cell_later hk c0; replace c1 := cell_later hk c1; replace c2 := cell_later hk c2; replace c3 := cell_later hk c3; replace c4 := cell_later hk c4; replace d0 := cell_later hk d0; replace d1 := cell_later hk d1; replace d2 := cell_later hk d2; replace d3 := cell_later hk d3; replace d4 := cell_later hk d4; replace d5 := cell_later hk d5; replace HB := HB.trans (hk.mono HB.size); clear hb1 hk d0a)
  all_goals go_wp2_with fail
  all_goals go_region_held3 (fun w' => w'.cell? ⟨w.heap.size, 1, none⟩ = some (.int .i64 p.router) ∧ w'.cell? ⟨w.heap.size + 1, 1, none⟩ = some (.string k.secret)) (first | exact ⟨c1, d1⟩) (first | (go_simp; go_at_call 23; (with_reducible refine (num4_calls _ _).mono ?_); rintro e w1 ⟨rfl, hb1⟩; first | (replace c1 := cell_later hb1 c1; replace d1 := cell_later hb1 d1; replace HB := HB.trans (hb1.mono HB.size)) | (replace c1 := cell_drew hb1 c1; replace d1 := cell_drew hb1 d1; replace HB := HB.drew.trans (hb1.mono HB.drew.size)); clear hb1) | (go_simp; go_at_call 22; (with_reducible refine ((HS _).out).mono ?_); rintro e w1 ⟨rfl, hb1⟩; first | (replace c1 := cell_later hb1 c1; replace d1 := cell_later hb1 d1; replace HB := HB.trans (hb1.mono HB.size)) | (replace c1 := cell_drew hb1 c1; replace d1 := cell_drew hb1 d1; replace HB := HB.drew.trans (hb1.mono HB.drew.size)); clear hb1))
  all_goals go_wp2_with fail
  all_goals go_ret2
  all_goals exact ⟨rfl, HB⟩

set_option maxRecDepth 100000 in
set_option maxHeartbeats 2000000 in
theorem refSeal_false (p : Packet) (A1 A2 A3 : Option Addr) (k1 k2 k3 : Nat) (k : Key) (b c : Int) (w : World) (h : sealOk p k b c = false) (hs : k.secret.size ≤ 140737488355328) (hP : PktAt w A1 A2 A3 k1 k2 k3 p) :
    Calls Tryz.prog 28 #[.agg #[.int .i64 p.kind, .int .i64 p.router, .slice A1 p.heard.length k1, .slice A2 p.lsas.length k2, .slice A3 p.heads.length k3], .agg #[.int .i64 k.id, .string k.secret, .int .i64 k.sf, .int .i64 k.st, .int .i64 k.af, .int .i64 k.ak], .int .i64 b, .int .i64 c] w fun e w' => e = .returned (.tuple #[.string ⟨#[]⟩, .int .i64 1500]) ∧ Below w.heap.size w w' := by
  obtain ⟨v1, e1⟩ : ∃ v, packetMay p = v := ⟨_, rfl⟩
  obtain ⟨v2, e2⟩ : ∃ v, keyOk k = v := ⟨_, rfl⟩
  obtain ⟨v3, e3⟩ : ∃ v, numberOk b c = v := ⟨_, rfl⟩
  rw [sealOk_number, e1, e2, e3] at h
  have HH := Lib.hid h
  have HM := fun W => Lib.hid (refPacketMay_calls p A1 A2 A3 k1 k2 k3 W v1 e1)
  have HK := fun W => Lib.hid (refKey_calls k W v2 e2 hs)
  have H3 := Lib.hid e3
  clear h e1 e2 e3
  obtain ⟨W1, hW1⟩ : ∃ W1, W1 = (w.alloc (.cells #[.int .i64 p.kind, .int .i64 p.router, .slice A1 p.heard.length k1, .slice A2 p.lsas.length k2, .slice A3 p.heads.length k3] 49)).alloc (.cells #[.int .i64 k.id, .string k.secret, .int .i64 k.sf, .int .i64 k.st, .int .i64 k.af, .int .i64 k.ak] 34) := ⟨_, rfl⟩
  have HB : Below w.heap.size w W1 := by rw [hW1]; exact ((Below.refl _ _).alloc (Nat.le_refl _) _).alloc (by simp) _
  have c0 : W1.cell? ⟨w.heap.size, 0, none⟩ = some (.int .i64 p.kind) := by rw [hW1]; exact cell_later ((Below.refl _ _).alloc (Nat.le_refl _) _) (cell_new w _ _ 0)
  have c1 : W1.cell? ⟨w.heap.size, 1, none⟩ = some (.int .i64 p.router) := by rw [hW1]; exact cell_later ((Below.refl _ _).alloc (Nat.le_refl _) _) (cell_new w _ _ 1)
  have c2 : W1.cell? ⟨w.heap.size, 2, none⟩ = some (.slice A1 p.heard.length k1) := by rw [hW1]; exact cell_later ((Below.refl _ _).alloc (Nat.le_refl _) _) (cell_new w _ _ 2)
  have c3 : W1.cell? ⟨w.heap.size, 3, none⟩ = some (.slice A2 p.lsas.length k2) := by rw [hW1]; exact cell_later ((Below.refl _ _).alloc (Nat.le_refl _) _) (cell_new w _ _ 3)
  have c4 : W1.cell? ⟨w.heap.size, 4, none⟩ = some (.slice A3 p.heads.length k3) := by rw [hW1]; exact cell_later ((Below.refl _ _).alloc (Nat.le_refl _) _) (cell_new w _ _ 4)
  have d0 : W1.cell? ⟨w.heap.size + 1, 0, none⟩ = some (.int .i64 k.id) := by rw [hW1, show w.heap.size + 1 = (w.alloc (.cells #[.int .i64 p.kind, .int .i64 p.router, .slice A1 p.heard.length k1, .slice A2 p.lsas.length k2, .slice A3 p.heads.length k3] 49)).heap.size by simp]; exact cell_new _ _ _ 0
  have d1 : W1.cell? ⟨w.heap.size + 1, 1, none⟩ = some (.string k.secret) := by rw [hW1, show w.heap.size + 1 = (w.alloc (.cells #[.int .i64 p.kind, .int .i64 p.router, .slice A1 p.heard.length k1, .slice A2 p.lsas.length k2, .slice A3 p.heads.length k3] 49)).heap.size by simp]; exact cell_new _ _ _ 1
  have d2 : W1.cell? ⟨w.heap.size + 1, 2, none⟩ = some (.int .i64 k.sf) := by rw [hW1, show w.heap.size + 1 = (w.alloc (.cells #[.int .i64 p.kind, .int .i64 p.router, .slice A1 p.heard.length k1, .slice A2 p.lsas.length k2, .slice A3 p.heads.length k3] 49)).heap.size by simp]; exact cell_new _ _ _ 2
  have d3 : W1.cell? ⟨w.heap.size + 1, 3, none⟩ = some (.int .i64 k.st) := by rw [hW1, show w.heap.size + 1 = (w.alloc (.cells #[.int .i64 p.kind, .int .i64 p.router, .slice A1 p.heard.length k1, .slice A2 p.lsas.length k2, .slice A3 p.heads.length k3] 49)).heap.size by simp]; exact cell_new _ _ _ 3
  have d4 : W1.cell? ⟨w.heap.size + 1, 4, none⟩ = some (.int .i64 k.af) := by rw [hW1, show w.heap.size + 1 = (w.alloc (.cells #[.int .i64 p.kind, .int .i64 p.router, .slice A1 p.heard.length k1, .slice A2 p.lsas.length k2, .slice A3 p.heads.length k3] 49)).heap.size by simp]; exact cell_new _ _ _ 4
  have d5 : W1.cell? ⟨w.heap.size + 1, 5, none⟩ = some (.int .i64 k.ak) := by rw [hW1, show w.heap.size + 1 = (w.alloc (.cells #[.int .i64 p.kind, .int .i64 p.router, .slice A1 p.heard.length k1, .slice A2 p.lsas.length k2, .slice A3 p.heads.length k3] 49)).heap.size by simp]; exact cell_new _ _ _ 5
  have HP := Lib.hid (hP.below HB)
  have HW1 := Lib.hid hW1
  clear hP hW1
  go_enter Tryz.func28, Tryz.ntmps28
  go_wp2_with fail
  rw [← HW1.out]
  clear HW1
  ((with_reducible refine ((HM _).out HP.out).mono ?_); rintro e w1 ⟨rfl, hb1⟩)
  replace c0 := cell_later hb1 c0
  replace c1 := cell_later hb1 c1
  replace c2 := cell_later hb1 c2
  replace c3 := cell_later hb1 c3
  replace c4 := cell_later hb1 c4
  replace d0 := cell_later hb1 d0
  replace d1 := cell_later hb1 d1
  replace d2 := cell_later hb1 d2
  replace d3 := cell_later hb1 d3
  replace d4 := cell_later hb1 d4
  replace d5 := cell_later hb1 d5
  replace HB := HB.trans (hb1.mono HB.size)
  replace HP := Lib.hid (HP.out.below hb1)
  clear hb1
  cases v1
  · go_wp2_with fail
    go_ret2
    exact ⟨rfl, HB⟩
  go_wp2_with fail
  ((with_reducible refine ((HK _).out).mono ?_); rintro e w1 ⟨rfl, hb1⟩)
  replace c0 := cell_later hb1 c0
  replace c1 := cell_later hb1 c1
  replace c2 := cell_later hb1 c2
  replace c3 := cell_later hb1 c3
  replace c4 := cell_later hb1 c4
  replace d0 := cell_later hb1 d0
  replace d1 := cell_later hb1 d1
  replace d2 := cell_later hb1 d2
  replace d3 := cell_later hb1 d3
  replace d4 := cell_later hb1 d4
  replace d5 := cell_later hb1 d5
  replace HB := HB.trans (hb1.mono HB.size)
  replace HP := Lib.hid (HP.out.below hb1)
  clear hb1
  cases v2
  · go_wp2_with fail
    go_ret2
    exact ⟨rfl, HB⟩
  go_wp2_with fail
  ((with_reducible refine (refNumber_is _ _ _ _ H3.out).mono ?_); rintro e w1 ⟨rfl, rfl⟩)
  cases v3
  · go_wp2_with fail
    go_ret2
    exact ⟨rfl, HB⟩
  · exact absurd HH.out (by decide)

end Go.Proofs.YtpgkgpecbjjifaaGreat
