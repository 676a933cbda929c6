/- Heads of Lsas: ack.Head and the document's HeadMay. -/
import Derived.Test.YtpgkgpecbjjifaaGreatPkK
namespace Go.Proofs.YtpgkgpecbjjifaaGreat
open Go.RowKit Sha

def headOk (h : Head) : Bool := routerOk h.router && serialOk h.serial && ageOk h.age && upToB h.sum 0 65535
/-- The ways through 'v1 && v2 && v3 && v4 && v5'. -/
theorem and5 (v1 v2 v3 v4 : Bool) : v1 = false ∨ (v1 = true ∧ v2 = false) ∨ (v1 = true ∧ v2 = true ∧ v3 = false) ∨ (v1 = true ∧ v2 = true ∧ v3 = true ∧ v4 = false) ∨ (v1 = true ∧ v2 = true ∧ v3 = true ∧ v4 = true) := by
  cases v1 <;> cases v2 <;> cases v3 <;> cases v4 <;> simp

set_option maxRecDepth 100000 in
set_option maxHeartbeats 1000000 in
theorem refHeadMay_calls (h : Head) (w : World) (v : Bool) (hv : headOk h = v) :
    Calls Tryz.prog 216 #[.agg #[.int .i64 h.router, .int .i64 h.serial, .int .i64 h.age, .int .i64 h.sum]] w fun e w' => e = .returned (.bool v) ∧ Below w.heap.size w w' := by
  obtain ⟨v1, e1⟩ : ∃ v, routerOk h.router = v := ⟨_, rfl⟩
  obtain ⟨v2, e2⟩ : ∃ v, serialOk h.serial = v := ⟨_, rfl⟩
  obtain ⟨v3, e3⟩ : ∃ v, ageOk h.age = v := ⟨_, rfl⟩
  obtain ⟨v4, e4⟩ : ∃ v, upToB h.sum 0 65535 = v := ⟨_, rfl⟩
  rw [headOk, e1, e2, e3, e4] at hv
  obtain ⟨W1, hW1⟩ : ∃ W1, W1 = w.alloc (.cells #[.int .i64 h.router, .int .i64 h.serial, .int .i64 h.age, .int .i64 h.sum] 214) := ⟨_, rfl⟩
  have HB : Below w.heap.size w W1 := by rw [hW1]; exact (Below.refl _ _).alloc (Nat.le_refl _) _
  have c0 : W1.cell? ⟨w.heap.size, 0, none⟩ = some (.int .i64 h.router) := by rw [hW1]; exact cell_new w _ _ 0
  have c1 : W1.cell? ⟨w.heap.size, 1, none⟩ = some (.int .i64 h.serial) := by rw [hW1]; exact cell_new w _ _ 1
  have c2 : W1.cell? ⟨w.heap.size, 2, none⟩ = some (.int .i64 h.age) := by rw [hW1]; exact cell_new w _ _ 2
  have c3 : W1.cell? ⟨w.heap.size, 3, none⟩ = some (.int .i64 h.sum) := by rw [hW1]; exact cell_new w _ _ 3
  have HV := Lib.hid hv
  have E1 := Lib.hid (show upToB h.router 1 4 = v1 from e1)
  have E2 := Lib.hid (show upToB h.serial 1 2147483647 = v2 from e2)
  have E3 := Lib.hid (show upToB h.age 0 60 = v3 from e3)
  have E4 := Lib.hid e4
  clear e1 e2 e3 e4 hv
  go_enter Tryz.func216, Tryz.ntmps216
  go_wp2_with fail
  rw [← hW1]
  clear hW1
  generalize h.router = x1 at *
  generalize h.serial = x2 at *
  generalize h.age = x3 at *
  generalize h.sum = x4 at *
  ((with_reducible refine (ref9Router_is x1 _ _ E1.out).mono ?_); rintro e w1 ⟨rfl, rfl⟩)
  rcases and4 v1 v2 v3 with rfl | ⟨rfl, rfl⟩ | ⟨rfl, rfl, rfl⟩ | ⟨rfl, rfl, rfl⟩
  · go_wp2_with fail
    go_ret
    exact ⟨by rw [← HV.out]; rfl, HB⟩
  · go_wp2_with fail
    ((with_reducible refine (ref9UpTo_is x2 1 2147483647 _ _ E2.out).mono ?_); rintro e w1 ⟨rfl, rfl⟩)
    go_wp2_with fail
    go_ret
    exact ⟨by rw [← HV.out]; rfl, HB⟩
  · go_wp2_with fail
    ((with_reducible refine (ref9UpTo_is x2 1 2147483647 _ _ E2.out).mono ?_); rintro e w1 ⟨rfl, rfl⟩)
    go_wp2_with fail
    ((with_reducible refine (ref9UpTo_is x3 0 60 _ _ E3.out).mono ?_); rintro e w1 ⟨rfl, rfl⟩)
    go_wp2_with fail
    go_ret
    exact ⟨by rw [← HV.out]; rfl, HB⟩
  · go_wp2_with fail
    ((with_reducible refine (ref9UpTo_is x2 1 2147483647 _ _ E2.out).mono ?_); rintro e w1 ⟨rfl, rfl⟩)
    go_wp2_with fail
    ((with_reducible refine (ref9UpTo_is x3 0 60 _ _ E3.out).mono ?_); rintro e w1 ⟨rfl, rfl⟩)
    go_wp2_with fail
    ((with_reducible refine (ref9UpTo_is x4 0 65535 _ _ E4.out).mono ?_); rintro e w1 ⟨rfl, rfl⟩)
    go_wp2_with fail
    go_ret
    exact ⟨by rw [← HV.out]; rfl, HB⟩

set_option maxRecDepth 100000 in
set_option maxHeartbeats 1000000 in
theorem ackHead_calls (h : Head) (w : World) (v : Bool) (hv : headOk h = v) :
    Calls Tryz.prog 223 #[.agg #[.int .i64 h.router, .int .i64 h.serial, .int .i64 h.age, .int .i64 h.sum]] w fun e w' => e = .returned (.bool v) ∧ Below w.heap.size w w' := by
  obtain ⟨v1, e1⟩ : ∃ v, routerOk h.router = v := ⟨_, rfl⟩
  obtain ⟨v2, e2⟩ : ∃ v, serialOk h.serial = v := ⟨_, rfl⟩
  obtain ⟨v3, e3⟩ : ∃ v, ageOk h.age = v := ⟨_, rfl⟩
  obtain ⟨v4, e4⟩ : ∃ v, decide (0 ≤ h.sum) = v := ⟨_, rfl⟩
  obtain ⟨v5, e5⟩ : ∃ v, decide (h.sum ≤ 65535) = v := ⟨_, rfl⟩
  rw [headOk, upToB, e1, e2, e3, e4, e5] at hv
  obtain ⟨W1, hW1⟩ : ∃ W1, W1 = w.alloc (.cells #[.int .i64 h.router, .int .i64 h.serial, .int .i64 h.age, .int .i64 h.sum] 214) := ⟨_, rfl⟩
  have HB : Below w.heap.size w W1 := by rw [hW1]; exact (Below.refl _ _).alloc (Nat.le_refl _) _
  have c0 : W1.cell? ⟨w.heap.size, 0, none⟩ = some (.int .i64 h.router) := by rw [hW1]; exact cell_new w _ _ 0
  have c1 : W1.cell? ⟨w.heap.size, 1, none⟩ = some (.int .i64 h.serial) := by rw [hW1]; exact cell_new w _ _ 1
  have c2 : W1.cell? ⟨w.heap.size, 2, none⟩ = some (.int .i64 h.age) := by rw [hW1]; exact cell_new w _ _ 2
  have c3 : W1.cell? ⟨w.heap.size, 3, none⟩ = some (.int .i64 h.sum) := by rw [hW1]; exact cell_new w _ _ 3
  have HV := Lib.hid hv
  have E1 := Lib.hid e1
  have E2 := Lib.hid e2
  have E3 := Lib.hid e3
  clear e1 e2 e3 hv
  go_enter Tryz.func223, Tryz.ntmps223
  go_wp2_with fail
  rw [← hW1]
  clear hW1
  generalize h.router = x1 at *
  generalize h.serial = x2 at *
  generalize h.age = x3 at *
  generalize h.sum = x4 at *
  ((with_reducible refine (router_is x1 _ _ E1.out).mono ?_); rintro e w1 ⟨rfl, rfl⟩)
  rcases and5 v1 v2 v3 v4 with rfl | ⟨rfl, rfl⟩ | ⟨rfl, rfl, rfl⟩ | ⟨rfl, rfl, rfl, rfl⟩ | ⟨rfl, rfl, rfl, rfl⟩
  · go_wp2_with fail
    go_ret
    exact ⟨by rw [← HV.out]; rfl, HB⟩
  · go_wp2_with fail
    ((with_reducible refine (serial_is x2 _ _ E2.out).mono ?_); rintro e w1 ⟨rfl, rfl⟩)
    go_wp2_with fail
    go_ret
    exact ⟨by rw [← HV.out]; rfl, HB⟩
  · go_wp2_with fail
    ((with_reducible refine (serial_is x2 _ _ E2.out).mono ?_); rintro e w1 ⟨rfl, rfl⟩)
    go_wp2_with fail
    ((with_reducible refine (age_is x3 _ _ E3.out).mono ?_); rintro e w1 ⟨rfl, rfl⟩)
    go_wp2_with fail
    go_ret
    exact ⟨by rw [← HV.out]; rfl, HB⟩
  · go_wp2_with fail
    ((with_reducible refine (serial_is x2 _ _ E2.out).mono ?_); rintro e w1 ⟨rfl, rfl⟩)
    go_wp2_with fail
    ((with_reducible refine (age_is x3 _ _ E3.out).mono ?_); rintro e w1 ⟨rfl, rfl⟩)
    go_wp2_with fail
    go_ret
    exact ⟨by rw [← HV.out]; rfl, HB⟩
  · go_wp2_with fail
    ((with_reducible refine (serial_is x2 _ _ E2.out).mono ?_); rintro e w1 ⟨rfl, rfl⟩)
    go_wp2_with fail
    ((with_reducible refine (age_is x3 _ _ E3.out).mono ?_); rintro e w1 ⟨rfl, rfl⟩)
    go_wp2_with fail
    go_ret
    exact ⟨by rw [← HV.out]; rfl, HB⟩

end Go.Proofs.YtpgkgpecbjjifaaGreat
