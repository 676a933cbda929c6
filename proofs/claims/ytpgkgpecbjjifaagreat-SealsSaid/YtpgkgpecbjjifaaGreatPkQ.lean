/- Packets' heads, keys, trailers' numbers. -/
import Derived.Test.YtpgkgpecbjjifaaGreatPkO
import Derived.Test.YtpgkgpecbjjifaaGreatMacD
namespace Go.Proofs.YtpgkgpecbjjifaaGreat
open Go.RowKit Sha
set_option linter.unusedSimpArgs false


def typeOk (x : Int) : Bool := (x == 1) || (x == 4) || (x == 5)
/-- A packet's head. -/
def pktHead (kind router size : Int) : ByteArray := num 2 1 ++ num kind 1 ++ num size 2 ++ num router 4 ++ num 0 4
theorem pktHead_size (k r s : Int) : (pktHead k r s).size = 12 := by simp only [pktHead, ByteArray.size_append, num_size]
theorem lit_two : (⟨#[2]⟩ : ByteArray) = num 2 1 := by kernel_rfl
theorem lit_zeros : (⟨#[0, 0, 0]⟩ : ByteArray) = num 0 3 := by kernel_rfl
theorem type_ways (x : Int) : x = 1 ∨ x = 4 ∨ x = 5 ∨ (x ≠ 1 ∧ x ≠ 4 ∧ x ≠ 5) := by omega
def headOkB (kind router size : Int) : Bool := typeOk kind && routerOk router && upToB size 12 512

set_option maxRecDepth 100000 in
set_option maxHeartbeats 400000 in
theorem headType_is (x : Int) (w : World) (v : Bool) (h : typeOk x = v) : Calls Tryz.prog 196 #[.int .i64 x] w fun e w' => e = .returned (.bool v) ∧ w = w' := by
  subst h
  rcases type_ways x with rfl | rfl | rfl | ⟨h1, h4, h5⟩
  · go_enter Tryz.func196, Tryz.ntmps196
    go_wp2_with fail
    go_ret
    exact ⟨rfl, rfl⟩
  · go_enter Tryz.func196, Tryz.ntmps196
    go_wp2_with fail
    go_ret
    exact ⟨rfl, rfl⟩
  · go_enter Tryz.func196, Tryz.ntmps196
    go_wp2_with fail
    go_ret
    exact ⟨rfl, rfl⟩
  · go_enter Tryz.func196, Tryz.ntmps196
    go_wp2_with fail
    go_ret
    exact ⟨rfl, rfl⟩

set_option maxRecDepth 100000 in
set_option maxHeartbeats 400000 in
theorem refType_is (x : Int) (w : World) (v : Bool) (h : typeOk x = v) : Calls Tryz.prog 213 #[.int .i64 x] w fun e w' => e = .returned (.bool v) ∧ w = w' := by
  subst h
  rcases type_ways x with rfl | rfl | rfl | ⟨h1, h4, h5⟩
  · go_enter Tryz.func213, Tryz.ntmps213
    go_wp2_with fail
    go_ret
    exact ⟨rfl, rfl⟩
  · go_enter Tryz.func213, Tryz.ntmps213
    go_wp2_with fail
    go_ret
    exact ⟨rfl, rfl⟩
  · go_enter Tryz.func213, Tryz.ntmps213
    go_wp2_with fail
    go_ret
    exact ⟨rfl, rfl⟩
  · go_enter Tryz.func213, Tryz.ntmps213
    go_wp2_with fail
    go_ret
    exact ⟨rfl, rfl⟩

set_option maxRecDepth 100000 in
set_option maxHeartbeats 1000000 in
theorem headPut_true (k r s : Int) (w : World) (h : headOkB k r s = true) :
    Calls Tryz.prog 132 #[.int .i64 k, .int .i64 r, .int .i64 s] w fun e w' => e = .returned (.tuple #[.string (pktHead k r s), .int .i64 0]) ∧ Below w.heap.size w w' := by
  obtain ⟨⟨h1, h2⟩, h3⟩ : (typeOk k = true ∧ routerOk r = true) ∧ upToB s 12 512 = true := by
    revert h
    rw [headOkB]
    cases typeOk k <;> cases routerOk r <;> cases upToB s 12 512 <;> simp
  obtain ⟨h4, h5⟩ : 12 ≤ s ∧ s ≤ 512 := by simpa [upToB] using h3
  have H1 := Lib.hid h1
  have H2 := Lib.hid h2
  clear h h1 h2 h3
  obtain ⟨B1, hB1⟩ : ∃ B, B = num 2 1 ++ num k 1 := ⟨_, rfl⟩
  have ha1 : ∀ W : World, (Op.stringOp .add (num 2 1) (num k 1)).run Tryz.prog W = .ok (.string B1) W := fun W => by rw [run_string_add_sum W _ _ (by simp only [ByteArray.size_append, num_size]; omega), hB1]
  obtain ⟨B2, hB2⟩ : ∃ B, B = B1 ++ num s 2 := ⟨_, rfl⟩
  have ha2 : ∀ W : World, (Op.stringOp .add (B1) (num s 2)).run Tryz.prog W = .ok (.string B2) W := fun W => by rw [run_string_add_sum W _ _ (by simp only [hB1, ByteArray.size_append, num_size]; omega), hB2]
  obtain ⟨B3, hB3⟩ : ∃ B, B = B2 ++ num r 4 := ⟨_, rfl⟩
  have ha3 : ∀ W : World, (Op.stringOp .add (B2) (num r 4)).run Tryz.prog W = .ok (.string B3) W := fun W => by rw [run_string_add_sum W _ _ (by simp only [hB2, hB1, ByteArray.size_append, num_size]; omega), hB3]
  have ha4 : ∀ W : World, (Op.stringOp .add (B3) (num 0 4)).run Tryz.prog W = .ok (.string (pktHead k r s)) W := fun W => by
    rw [run_string_add_sum W _ _ (by simp only [hB3, hB2, hB1, ByteArray.size_append, num_size]; omega), hB3, hB2, hB1]
    rfl
  clear hB3 hB2 hB1
  have HB : Below w.heap.size w w := Below.refl _ _
  go_enter Tryz.func132, Tryz.ntmps132
  go_wp2_with fail
  ((with_reducible refine (headType_is k _ _ H1.out).mono ?_); rintro e w1 ⟨rfl, rfl⟩)
  go_wp2_with fail
  ((with_reducible refine (router_is r _ _ H2.out).mono ?_); rintro e w1 ⟨rfl, rfl⟩)
  go_wp2_with fail
  ((with_reducible refine (one_calls _ _).mono ?_); rintro e w1 ⟨rfl, hb1⟩)
  replace HB := HB.trans (hb1.mono HB.size)
  clear hb1
  go_wp2_with fail
  ((with_reducible refine (one_calls _ _).mono ?_); rintro e w1 ⟨rfl, hb1⟩)
  replace HB := HB.trans (hb1.mono HB.size)
  clear hb1
  go_wp2_with fail
  ((with_reducible refine (two_calls _ _).mono ?_); rintro e w1 ⟨rfl, hb1⟩)
  replace HB := HB.trans (hb1.mono HB.size)
  clear hb1
  go_wp2_with fail
  ((with_reducible refine (four_bytes_calls _ _).mono ?_); rintro e w1 ⟨rfl, hb1⟩)
  replace HB := HB.trans (hb1.mono HB.size)
  clear hb1
  go_wp2_with fail
  ((with_reducible refine (four_bytes_calls _ _).mono ?_); rintro e w1 ⟨rfl, hb1⟩)
  replace HB := HB.trans (hb1.mono HB.size)
  clear hb1
  go_wp2_with fail
  go_ret2
  exact ⟨rfl, HB⟩

set_option maxRecDepth 100000 in
set_option maxHeartbeats 1000000 in
theorem headPut_false (k r s : Int) (w : World) (h : headOkB k r s = false) :
    Calls Tryz.prog 132 #[.int .i64 k, .int .i64 r, .int .i64 s] w fun e w' => e = .returned (.tuple #[.string ⟨#[]⟩, .int .i64 800]) ∧ w = w' := by
  obtain ⟨v1, e1⟩ : ∃ v, typeOk k = v := ⟨_, rfl⟩
  obtain ⟨v2, e2⟩ : ∃ v, routerOk r = v := ⟨_, rfl⟩
  obtain ⟨v3, e3⟩ : ∃ v, upToB s 12 512 = v := ⟨_, rfl⟩
  rw [headOkB, e1, e2, e3] at h
  have E1 := Lib.hid e1
  have E2 := Lib.hid e2
  have E3 := Lib.hid e3
  have H := Lib.hid h
  clear e1 e2 e3 h
  go_enter Tryz.func132, Tryz.ntmps132
  go_wp2_with fail
  ((with_reducible refine (headType_is k _ _ E1.out).mono ?_); rintro e w1 ⟨rfl, rfl⟩)
  cases v1
  · go_wp2_with fail
    go_ret2
    exact ⟨rfl, rfl⟩
  go_wp2_with fail
  ((with_reducible refine (router_is r _ _ E2.out).mono ?_); rintro e w1 ⟨rfl, rfl⟩)
  cases v2
  · go_wp2_with fail
    go_ret2
    exact ⟨rfl, rfl⟩
  cases v3
  · have h5 := E3.out
    by_cases h6 : s < 12
    · clear h5
      go_wp2_with fail
      go_ret2
      exact ⟨rfl, rfl⟩
    · have h7 : 512 < s := by
        by_cases h8 : 512 < s
        · exact h8
        · exact absurd h5 (by rw [upToB, decide_eq_true (show 12 ≤ s by omega), decide_eq_true (show s ≤ 512 by omega)]; decide)
      clear h5
      go_wp2_with fail
      go_ret2
      exact ⟨rfl, rfl⟩
  · exact absurd H.out (by decide)

set_option maxRecDepth 100000 in
set_option maxHeartbeats 1000000 in
theorem refPutHead_true (k r s : Int) (w : World) (h : headOkB k r s = true) :
    Calls Tryz.prog 148 #[.int .i64 k, .int .i64 r, .int .i64 s] w fun e w' => e = .returned (.tuple #[.string (pktHead k r s), .int .i64 0]) ∧ Below w.heap.size w w' := by
  obtain ⟨⟨h1, h2⟩, h3⟩ : (typeOk k = true ∧ routerOk r = true) ∧ upToB s 12 512 = true := by
    revert h
    rw [headOkB]
    cases typeOk k <;> cases routerOk r <;> cases upToB s 12 512 <;> simp
  have H1 := Lib.hid h1
  have H2 := Lib.hid h2
  have H3 := Lib.hid h3
  clear h h1 h2 h3
  obtain ⟨B1, hB1⟩ : ∃ B, B = ⟨#[2]⟩ ++ num k 1 := ⟨_, rfl⟩
  have ha1 : ∀ W : World, (Op.stringOp .add (⟨#[2]⟩) (num k 1)).run Tryz.prog W = .ok (.string B1) W := fun W => by rw [run_string_add_sum W _ _ (by simp only [ByteArray.size_append, num_size, show (⟨#[2]⟩ : ByteArray).size = 1 from rfl]; omega), hB1]
  obtain ⟨B2, hB2⟩ : ∃ B, B = B1 ++ num s 2 := ⟨_, rfl⟩
  have ha2 : ∀ W : World, (Op.stringOp .add (B1) (num s 2)).run Tryz.prog W = .ok (.string B2) W := fun W => by rw [run_string_add_sum W _ _ (by simp only [hB1, ByteArray.size_append, num_size, show (⟨#[2]⟩ : ByteArray).size = 1 from rfl]; omega), hB2]
  obtain ⟨B3, hB3⟩ : ∃ B, B = B2 ++ num r 4 := ⟨_, rfl⟩
  have ha3 : ∀ W : World, (Op.stringOp .add (B2) (num r 4)).run Tryz.prog W = .ok (.string B3) W := fun W => by rw [run_string_add_sum W _ _ (by simp only [hB2, hB1, ByteArray.size_append, num_size, show (⟨#[2]⟩ : ByteArray).size = 1 from rfl]; omega), hB3]
  have ha4 : ∀ W : World, (Op.stringOp .add (B3) (num 0 4)).run Tryz.prog W = .ok (.string (pktHead k r s)) W := fun W => by
    rw [run_string_add_sum W _ _ (by simp only [hB3, hB2, hB1, ByteArray.size_append, num_size, show (⟨#[2]⟩ : ByteArray).size = 1 from rfl]; omega), hB3, hB2, hB1]
    rw [lit_two]; rfl
  clear hB3 hB2 hB1
  have HB : Below w.heap.size w w := Below.refl _ _
  go_enter Tryz.func148, Tryz.ntmps148
  go_wp2_with fail
  ((with_reducible refine (refType_is k _ _ H1.out).mono ?_); rintro e w1 ⟨rfl, rfl⟩)
  go_wp2_with fail
  ((with_reducible refine (refRouter_is r _ _ H2.out).mono ?_); rintro e w1 ⟨rfl, rfl⟩)
  go_wp2_with fail
  ((with_reducible refine (refUpTo_is s 12 512 _ _ H3.out).mono ?_); rintro e w1 ⟨rfl, rfl⟩)
  go_wp2_with fail
  ((with_reducible refine (num1_calls _ _).mono ?_); rintro e w1 ⟨rfl, hb1⟩)
  replace HB := HB.trans (hb1.mono HB.size)
  clear hb1
  go_wp2_with fail
  ((with_reducible refine (num2_calls _ _).mono ?_); rintro e w1 ⟨rfl, hb1⟩)
  replace HB := HB.trans (hb1.mono HB.size)
  clear hb1
  go_wp2_with fail
  ((with_reducible refine (num4_calls _ _).mono ?_); rintro e w1 ⟨rfl, hb1⟩)
  replace HB := HB.trans (hb1.mono HB.size)
  clear hb1
  go_wp2_with fail
  ((with_reducible refine (num4_calls _ _).mono ?_); rintro e w1 ⟨rfl, hb1⟩)
  replace HB := HB.trans (hb1.mono HB.size)
  clear hb1
  go_wp2_with fail
  go_ret2
  exact ⟨rfl, HB⟩

set_option maxRecDepth 100000 in
set_option maxHeartbeats 1000000 in
theorem refPutHead_false (k r s : Int) (w : World) (h : headOkB k r s = false) :
    Calls Tryz.prog 148 #[.int .i64 k, .int .i64 r, .int .i64 s] w fun e w' => e = .returned (.tuple #[.string ⟨#[]⟩, .int .i64 800]) ∧ w = w' := by
  obtain ⟨v1, e1⟩ : ∃ v, typeOk k = v := ⟨_, rfl⟩
  obtain ⟨v2, e2⟩ : ∃ v, routerOk r = v := ⟨_, rfl⟩
  obtain ⟨v3, e3⟩ : ∃ v, upToB s 12 512 = v := ⟨_, rfl⟩
  rw [headOkB, e1, e2, e3] at h
  have E1 := Lib.hid e1
  have E2 := Lib.hid e2
  have E3 := Lib.hid e3
  have H := Lib.hid h
  clear e1 e2 e3 h
  go_enter Tryz.func148, Tryz.ntmps148
  go_wp2_with fail
  ((with_reducible refine (refType_is k _ _ E1.out).mono ?_); rintro e w1 ⟨rfl, rfl⟩)
  cases v1
  · go_wp2_with fail
    go_ret2
    exact ⟨rfl, rfl⟩
  go_wp2_with fail
  ((with_reducible refine (refRouter_is r _ _ E2.out).mono ?_); rintro e w1 ⟨rfl, rfl⟩)
  cases v2
  · go_wp2_with fail
    go_ret2
    exact ⟨rfl, rfl⟩
  go_wp2_with fail
  ((with_reducible refine (refUpTo_is s 12 512 _ _ E3.out).mono ?_); rintro e w1 ⟨rfl, rfl⟩)
  cases v3
  · go_wp2_with fail
    go_ret2
    exact ⟨rfl, rfl⟩
  · exact absurd H.out (by decide)

theorem secret_is (s : ByteArray) (w : World) (v : Bool) (h : secretOk s = v) (hs : s.size ≤ 9223372036854775807) :
    Calls Tryz.prog 134 #[.string s] w fun e w' => e = .returned (.bool v) ∧ w = w' := by
  have := secret_calls s w hs
  rw [h] at this
  exact this

def keyOk (k : Key) : Bool := upToB k.id 0 255 && secretOk k.secret && upToB k.sf 0 1048576 && upToB k.st 0 1048576 && upToB k.af 0 1048576 && upToB k.ak 0 1048576
theorem secretOk_upTo (s : ByteArray) : upToB s.size 1 32 = secretOk s := by
  rw [upToB, secretOk]
  congr 1 <;> exact decide_eq_decide.mpr (by omega)

set_option maxRecDepth 100000 in
set_option maxHeartbeats 1000000 in
theorem chainKey_calls (k : Key) (w : World) (v : Bool) (hv : keyOk k = v) (hs : k.secret.size ≤ 140737488355328) :
    Calls Tryz.prog 51 #[.agg #[.int .i64 k.id, .string k.secret, .int .i64 k.sf, .int .i64 k.st, .int .i64 k.af, .int .i64 k.ak]] w fun e w' => e = .returned (.bool v) ∧ Below w.heap.size w w' := by
  have hs1 : (k.secret.size : Int) ≤ 140737488355328 := by omega
  have hs0 : (0 : Int) ≤ (k.secret.size : Int) := by omega
  have HS := Lib.hid hs
  obtain ⟨v1, e1⟩ : ∃ v, upToB k.id 0 255 = v := ⟨_, rfl⟩
  obtain ⟨v2, e2⟩ : ∃ v, secretOk k.secret = v := ⟨_, rfl⟩
  obtain ⟨v3, e3⟩ : ∃ v, upToB k.sf 0 1048576 = v := ⟨_, rfl⟩
  obtain ⟨v4, e4⟩ : ∃ v, upToB k.st 0 1048576 = v := ⟨_, rfl⟩
  obtain ⟨v5, e5⟩ : ∃ v, upToB k.af 0 1048576 = v := ⟨_, rfl⟩
  obtain ⟨v6, e6⟩ : ∃ v, upToB k.ak 0 1048576 = v := ⟨_, rfl⟩
  rw [keyOk, e1, e2, e3, e4, e5, e6] at hv
  obtain ⟨W1, hW1⟩ : ∃ W1, W1 = w.alloc (.cells #[.int .i64 k.id, .string k.secret, .int .i64 k.sf, .int .i64 k.st, .int .i64 k.af, .int .i64 k.ak] 34) := ⟨_, rfl⟩
  have HB : Below w.heap.size w W1 := by rw [hW1]; exact (Below.refl _ _).alloc (Nat.le_refl _) _
  have c0 : W1.cell? ⟨w.heap.size, 0, none⟩ = some (.int .i64 k.id) := by rw [hW1]; exact cell_new w _ _ 0
  have c1 : W1.cell? ⟨w.heap.size, 1, none⟩ = some (.string k.secret) := by rw [hW1]; exact cell_new w _ _ 1
  have c2 : W1.cell? ⟨w.heap.size, 2, none⟩ = some (.int .i64 k.sf) := by rw [hW1]; exact cell_new w _ _ 2
  have c3 : W1.cell? ⟨w.heap.size, 3, none⟩ = some (.int .i64 k.st) := by rw [hW1]; exact cell_new w _ _ 3
  have c4 : W1.cell? ⟨w.heap.size, 4, none⟩ = some (.int .i64 k.af) := by rw [hW1]; exact cell_new w _ _ 4
  have c5 : W1.cell? ⟨w.heap.size, 5, none⟩ = some (.int .i64 k.ak) := by rw [hW1]; exact cell_new w _ _ 5
  have HV := Lib.hid hv
  have E1 := Lib.hid e1
  have E2 := Lib.hid (e2)
  have E3 := Lib.hid e3
  have E4 := Lib.hid e4
  have E5 := Lib.hid e5
  have E6 := Lib.hid e6
  clear e1 e2 e3 e4 e5 e6 hv hs
  go_enter Tryz.func51, Tryz.ntmps51
  go_wp2_with fail
  rw [← hW1]
  clear hW1
  generalize k.id = x1 at *
  generalize k.secret = x2 at *
  generalize k.sf = x3 at *
  generalize k.st = x4 at *
  generalize k.af = x5 at *
  generalize k.ak = x6 at *
  ((with_reducible refine (chainId_is x1 _ _ E1.out).mono ?_); rintro e w1 ⟨rfl, rfl⟩)
  cases v1
  · go_wp2_with fail
    go_ret
    exact ⟨by rw [← HV.out]; rfl, HB⟩
  go_wp2_with fail
  ((with_reducible refine (secret_is x2 _ _ E2.out (by omega)).mono ?_); rintro e w1 ⟨rfl, rfl⟩)
  cases v2
  · go_wp2_with fail
    go_ret
    exact ⟨by rw [← HV.out]; rfl, HB⟩
  go_wp2_with fail
  ((with_reducible refine (chainNow_is x3 _ _ E3.out).mono ?_); rintro e w1 ⟨rfl, rfl⟩)
  cases v3
  · go_wp2_with fail
    go_ret
    exact ⟨by rw [← HV.out]; rfl, HB⟩
  go_wp2_with fail
  ((with_reducible refine (chainNow_is x4 _ _ E4.out).mono ?_); rintro e w1 ⟨rfl, rfl⟩)
  cases v4
  · go_wp2_with fail
    go_ret
    exact ⟨by rw [← HV.out]; rfl, HB⟩
  go_wp2_with fail
  ((with_reducible refine (chainNow_is x5 _ _ E5.out).mono ?_); rintro e w1 ⟨rfl, rfl⟩)
  cases v5
  · go_wp2_with fail
    go_ret
    exact ⟨by rw [← HV.out]; rfl, HB⟩
  go_wp2_with fail
  ((with_reducible refine (chainNow_is x6 _ _ E6.out).mono ?_); rintro e w1 ⟨rfl, rfl⟩)
  go_wp2_with fail
  go_ret
  exact ⟨by rw [← HV.out]; rfl, HB⟩

set_option maxRecDepth 100000 in
set_option maxHeartbeats 1000000 in
theorem refKey_calls (k : Key) (w : World) (v : Bool) (hv : keyOk k = v) (hs : k.secret.size ≤ 140737488355328) :
    Calls Tryz.prog 81 #[.agg #[.int .i64 k.id, .string k.secret, .int .i64 k.sf, .int .i64 k.st, .int .i64 k.af, .int .i64 k.ak]] w fun e w' => e = .returned (.bool v) ∧ Below w.heap.size w w' := by
  have hs1 : (k.secret.size : Int) ≤ 140737488355328 := by omega
  have hs0 : (0 : Int) ≤ (k.secret.size : Int) := by omega
  have HS := Lib.hid hs
  obtain ⟨v1, e1⟩ : ∃ v, upToB k.id 0 255 = v := ⟨_, rfl⟩
  obtain ⟨v2, e2⟩ : ∃ v, secretOk k.secret = v := ⟨_, rfl⟩
  obtain ⟨v3, e3⟩ : ∃ v, upToB k.sf 0 1048576 = v := ⟨_, rfl⟩
  obtain ⟨v4, e4⟩ : ∃ v, upToB k.st 0 1048576 = v := ⟨_, rfl⟩
  obtain ⟨v5, e5⟩ : ∃ v, upToB k.af 0 1048576 = v := ⟨_, rfl⟩
  obtain ⟨v6, e6⟩ : ∃ v, upToB k.ak 0 1048576 = v := ⟨_, rfl⟩
  rw [keyOk, e1, e2, e3, e4, e5, e6] at hv
  obtain ⟨W1, hW1⟩ : ∃ W1, W1 = w.alloc (.cells #[.int .i64 k.id, .string k.secret, .int .i64 k.sf, .int .i64 k.st, .int .i64 k.af, .int .i64 k.ak] 34) := ⟨_, rfl⟩
  have HB : Below w.heap.size w W1 := by rw [hW1]; exact (Below.refl _ _).alloc (Nat.le_refl _) _
  have c0 : W1.cell? ⟨w.heap.size, 0, none⟩ = some (.int .i64 k.id) := by rw [hW1]; exact cell_new w _ _ 0
  have c1 : W1.cell? ⟨w.heap.size, 1, none⟩ = some (.string k.secret) := by rw [hW1]; exact cell_new w _ _ 1
  have c2 : W1.cell? ⟨w.heap.size, 2, none⟩ = some (.int .i64 k.sf) := by rw [hW1]; exact cell_new w _ _ 2
  have c3 : W1.cell? ⟨w.heap.size, 3, none⟩ = some (.int .i64 k.st) := by rw [hW1]; exact cell_new w _ _ 3
  have c4 : W1.cell? ⟨w.heap.size, 4, none⟩ = some (.int .i64 k.af) := by rw [hW1]; exact cell_new w _ _ 4
  have c5 : W1.cell? ⟨w.heap.size, 5, none⟩ = some (.int .i64 k.ak) := by rw [hW1]; exact cell_new w _ _ 5
  have HV := Lib.hid hv
  have E1 := Lib.hid e1
  have E2 := Lib.hid ((secretOk_upTo _).trans e2)
  have E3 := Lib.hid e3
  have E4 := Lib.hid e4
  have E5 := Lib.hid e5
  have E6 := Lib.hid e6
  clear e1 e2 e3 e4 e5 e6 hv hs
  go_enter Tryz.func81, Tryz.ntmps81
  go_wp2_with fail
  rw [← hW1]
  clear hW1
  generalize k.id = x1 at *
  generalize k.secret = x2 at *
  generalize k.sf = x3 at *
  generalize k.st = x4 at *
  generalize k.af = x5 at *
  generalize k.ak = x6 at *
  ((with_reducible refine (refUpTo_is x1 0 255 _ _ E1.out).mono ?_); rintro e w1 ⟨rfl, rfl⟩)
  cases v1
  · go_wp2_with fail
    go_ret
    exact ⟨by rw [← HV.out]; rfl, HB⟩
  go_wp2_with fail
  ((with_reducible refine (refUpTo_is (x2.size : Int) 1 32 _ _ E2.out).mono ?_); rintro e w1 ⟨rfl, rfl⟩)
  cases v2
  · go_wp2_with fail
    go_ret
    exact ⟨by rw [← HV.out]; rfl, HB⟩
  go_wp2_with fail
  ((with_reducible refine (refNow_is x3 _ _ E3.out).mono ?_); rintro e w1 ⟨rfl, rfl⟩)
  cases v3
  · go_wp2_with fail
    go_ret
    exact ⟨by rw [← HV.out]; rfl, HB⟩
  go_wp2_with fail
  ((with_reducible refine (refNow_is x4 _ _ E4.out).mono ?_); rintro e w1 ⟨rfl, rfl⟩)
  cases v4
  · go_wp2_with fail
    go_ret
    exact ⟨by rw [← HV.out]; rfl, HB⟩
  go_wp2_with fail
  ((with_reducible refine (refNow_is x5 _ _ E5.out).mono ?_); rintro e w1 ⟨rfl, rfl⟩)
  cases v5
  · go_wp2_with fail
    go_ret
    exact ⟨by rw [← HV.out]; rfl, HB⟩
  go_wp2_with fail
  ((with_reducible refine (refNow_is x6 _ _ E6.out).mono ?_); rintro e w1 ⟨rfl, rfl⟩)
  go_wp2_with fail
  go_ret
  exact ⟨by rw [← HV.out]; rfl, HB⟩

/-- A trailer's bytes ahead of its tag. -/
def numbers (k b c : Int) : ByteArray := num k 1 ++ num 0 3 ++ num b 4 ++ num c 4
theorem numbers_size (k b c : Int) : (numbers k b c).size = 12 := by simp only [numbers, ByteArray.size_append, num_size]

set_option maxRecDepth 100000 in
set_option maxHeartbeats 1000000 in
theorem numbers_calls (k b c : Int) (w : World) :
    Calls Tryz.prog 54 #[.int .i64 k, .int .i64 b, .int .i64 c] w fun e w' => e = .returned (.string (numbers k b c)) ∧ Below w.heap.size w w' := by
  have HB : Below w.heap.size w w := Below.refl _ _
  obtain ⟨B1, hB1⟩ : ∃ B, B = num k 1 ++ ⟨#[0, 0, 0]⟩ := ⟨_, rfl⟩
  have ha1 : ∀ W : World, (Op.stringOp .add (num k 1) (⟨#[0, 0, 0]⟩)).run Tryz.prog W = .ok (.string B1) W := fun W => by rw [run_string_add_sum W _ _ (by simp only [ByteArray.size_append, num_size, show (⟨#[0, 0, 0]⟩ : ByteArray).size = 3 from rfl]; omega), hB1]
  obtain ⟨B2, hB2⟩ : ∃ B, B = B1 ++ num b 4 := ⟨_, rfl⟩
  have ha2 : ∀ W : World, (Op.stringOp .add (B1) (num b 4)).run Tryz.prog W = .ok (.string B2) W := fun W => by rw [run_string_add_sum W _ _ (by simp only [hB1, ByteArray.size_append, num_size, show (⟨#[0, 0, 0]⟩ : ByteArray).size = 3 from rfl]; omega), hB2]
  have ha3 : ∀ W : World, (Op.stringOp .add (B2) (num c 4)).run Tryz.prog W = .ok (.string (numbers k b c)) W := fun W => by
    rw [run_string_add_sum W _ _ (by simp only [hB2, hB1, ByteArray.size_append, num_size, show (⟨#[0, 0, 0]⟩ : ByteArray).size = 3 from rfl]; omega), hB2, hB1]
    rw [lit_zeros]; rfl
  clear hB2 hB1
  go_enter Tryz.func54, Tryz.ntmps54
  go_wp2_with fail
  ((with_reducible refine (one_calls _ _).mono ?_); rintro e w1 ⟨rfl, hb1⟩)
  replace HB := HB.trans (hb1.mono HB.size)
  clear hb1
  go_wp2_with fail
  ((with_reducible refine (four_bytes_calls _ _).mono ?_); rintro e w1 ⟨rfl, hb1⟩)
  replace HB := HB.trans (hb1.mono HB.size)
  clear hb1
  go_wp2_with fail
  ((with_reducible refine (four_bytes_calls _ _).mono ?_); rintro e w1 ⟨rfl, hb1⟩)
  replace HB := HB.trans (hb1.mono HB.size)
  clear hb1
  go_wp2_with fail
  go_ret
  exact ⟨rfl, HB⟩

end Go.Proofs.YtpgkgpecbjjifaaGreat
