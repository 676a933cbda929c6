/- Comparisons of lists, of Lsas, of packets. -/
import Derived.Test.YtpgkgpecbjjifaaGreatPkT
import Derived.Test.YtpgkgpecbjjifaaGreatPkA
import Derived.Laws.StructEq
namespace Go.Proofs.YtpgkgpecbjjifaaGreat
open Go.RowKit Sha


/-- A call that hands back whether p. -/
def Tells (p : Prop) (w : World) (e : Ending) (w' : World) : Prop := ∃ v, e = .returned (.bool v) ∧ (v = true ↔ p) ∧ Below w.heap.size w w'
def linkEq (x y : Link) : Bool := (x.to == y.to) && (x.cost == y.cost)
def headEq (x y : Head) : Bool := (x.router == y.router) && ((x.serial == y.serial) && ((x.age == y.age) && (x.sum == y.sum)))
theorem linkEq_iff (x y : Link) : linkEq x y = true ↔ x = y := by
  obtain ⟨a, b⟩ := x
  obtain ⟨c, d⟩ := y
  simp [linkEq]
theorem headEq_iff (x y : Head) : headEq x y = true ↔ x = y := by
  obtain ⟨a, b, c, d⟩ := x
  obtain ⟨e, f, g, h⟩ := y
  simp [headEq]
theorem ext_at {α : Type} [Inhabited α] (xs ys : List α) (hl : ys.length = xs.length) (h : ∀ j, j < xs.length → at_ xs j = at_ ys j) : xs = ys := by
  apply List.ext_getElem? 
  intro j
  by_cases hj : j < xs.length
  · rw [at_get xs j hj, at_get ys j (by omega), h j hj]
  · rw [List.getElem?_eq_none (by omega), List.getElem?_eq_none (by omega)]
theorem all_succ {f : Nat → Prop} {k : Nat} (h : ∀ j, j < k → f j) (hk : f k) : ∀ j, j < k + 1 → f j := fun j hj => by
  by_cases e : j = k
  · rw [e]; exact hk
  · exact h j (by omega)

theorem neqLink (x y : Link) (w : World) : (binOp .neq 179 (.agg #[.int .i64 x.to, .int .i64 x.cost]) (.agg #[.int .i64 y.to, .int .i64 y.cost])).run Tryz.prog w = .ok (.bool (!linkEq x y)) w := by
  have u3 := Tryz.underlying3
  have a3 := Tryz.isAgg3
  have z3 := Tryz.sizeOf3
  have hS : Tryz.prog.underlying 179 = some (.struct (Tryz.prog.fieldsOf 179)) := by kernel_rfl
  have hp : Tryz.prog.stoodInHeld 179 = false := by kernel_rfl
  rw [run_neq_struct, show (10000 : Nat) = 9999 + 1 from rfl, run_equalIn_agg w 9999 179 _ _ hS hp]
  simp only [Program.fieldsOf, Tryz.underlying179]
  go_simp
  by_cases h0 : x.to = y.to <;> by_cases h1 : x.cost = y.cost <;> simp [linkEq, h0, h1]

theorem neqHead (x y : Head) (w : World) : (binOp .neq 214 (.agg #[.int .i64 x.router, .int .i64 x.serial, .int .i64 x.age, .int .i64 x.sum]) (.agg #[.int .i64 y.router, .int .i64 y.serial, .int .i64 y.age, .int .i64 y.sum])).run Tryz.prog w = .ok (.bool (!headEq x y)) w := by
  have u3 := Tryz.underlying3
  have a3 := Tryz.isAgg3
  have z3 := Tryz.sizeOf3
  have hS : Tryz.prog.underlying 214 = some (.struct (Tryz.prog.fieldsOf 214)) := by kernel_rfl
  have hp : Tryz.prog.stoodInHeld 214 = false := by kernel_rfl
  rw [run_neq_struct, show (10000 : Nat) = 9999 + 1 from rfl, run_equalIn_agg w 9999 214 _ _ hS hp]
  simp only [Program.fieldsOf, Tryz.underlying214]
  go_simp
  by_cases h0 : x.router = y.router <;> by_cases h1 : x.serial = y.serial <;> by_cases h2 : x.age = y.age <;> by_cases h3 : x.sum = y.sum <;> simp [headEq, h0, h1, h2, h3]

set_option maxRecDepth 100000 in
set_option maxHeartbeats 1000000 in
theorem sameInts_calls (A B : Option Addr) (c d : Nat) (xs ys : List Int) (w : World) (hA : RowAt encInt 1 w A xs) (hB : RowAt encInt 1 w B ys) (hl : xs.length ≤ 140737488355328) :
    Calls Tryz.prog 66 #[.slice A xs.length c, .slice B ys.length d] w (Tells (xs = ys) w) := by
  by_cases hn : ys.length = xs.length
  · rw [hn]
    have h0 : (0 : Int) ≤ (xs.length : Int) := by omega
    have h1 : (xs.length : Int) ≤ 140737488355328 := by omega
    have HA := Lib.hid hA
    have HB := Lib.hid hB
    have HN := Lib.hid hn
    clear hA hB hn
    go_enter Tryz.func66, Tryz.ntmps66
    go_wp2_with fail
    go_loopw [5] (fun i wr => ∃ k : Nat, k ≤ xs.length ∧ i = .int .i64 k ∧ (∀ j, j < k → at_ xs j = at_ ys j) ∧ Below w.heap.size w wr) (fun i _ => xs.length - (intOf i).toNat)
    case atStart => exact ⟨0, Nat.zero_le _, rfl, fun j hj => absurd hj (Nat.not_lt_zero _), Below.refl _ _⟩
    case round =>
      obtain ⟨k, hk, rfl, hj, hb⟩ := hrel
      have HJ := Lib.hid hj
      clear hj
      by_cases hlt : k < xs.length
      · have hlt1 : (k : Int) < (xs.length : Int) := by omega
        obtain ⟨ad, rfl, c0⟩ := (HA.out.below hb).int k hlt
        obtain ⟨bd, rfl, d0⟩ := (HB.out.below hb).int k (by have := HN.out; omega)
        by_cases he : at_ xs k = at_ ys k
        · have HS := Lib.hid (all_succ (f := fun j => at_ xs j = at_ ys j) HJ.out he)
          rw [← he] at d0
          clear he
          generalize at_ xs k = x0 at *
          go_wp2_with fail
          go_quiet (fail)
          go_wp2_with fail
          go_roundw
          case rel => exact ⟨k + 1, hlt, by go_num, HS.out, below_drewN hb _⟩
          case measure => simp [intOf]; omega
        · have HS := Lib.hid (show ¬ xs = ys from fun h => he (by rw [h]))
          have hq1 : (at_ xs k == at_ ys k) = false := by simpa using he
          have hq2 : (at_ xs k != at_ ys k) = true := by simpa using he
          clear he
          generalize at_ xs k = x0 at *
          generalize at_ ys k = y0 at *
          go_wp2_with fail
          go_quiet (fail)
          go_wp2_with fail
          go_ret
          exact ⟨false, rfl, ⟨fun h => (by cases h), fun h => absurd h HS.out⟩, below_drewN hb _⟩
      · obtain rfl : k = xs.length := by omega
        go_wp2_with fail
        go_ret
        exact ⟨true, rfl, ⟨fun _ => ext_at xs ys HN.out HJ.out, fun _ => rfl⟩, hb⟩
  · have hn1 : ¬ (xs.length : Int) = (ys.length : Int) := by omega
    have HN := Lib.hid hn
    clear hn
    go_enter Tryz.func66, Tryz.ntmps66
    go_wp2_with fail
    go_ret
    exact ⟨false, rfl, ⟨fun h => (by cases h), fun h => absurd (by rw [h]) HN.out⟩, Below.refl _ _⟩

set_option maxRecDepth 100000 in
set_option maxHeartbeats 1000000 in
theorem sameLinks_calls (A B : Option Addr) (c d : Nat) (xs ys : List Link) (w : World) (hA : RowAt encLink 2 w A xs) (hB : RowAt encLink 2 w B ys) (hl : xs.length ≤ 140737488355328) :
    Calls Tryz.prog 88 #[.slice A xs.length c, .slice B ys.length d] w (Tells (xs = ys) w) := by
  by_cases hn : ys.length = xs.length
  · rw [hn]
    have h0 : (0 : Int) ≤ (xs.length : Int) := by omega
    have h1 : (xs.length : Int) ≤ 140737488355328 := by omega
    have HA := Lib.hid hA
    have HB := Lib.hid hB
    have HN := Lib.hid hn
    clear hA hB hn
    go_enter Tryz.func88, Tryz.ntmps88
    go_wp2_with fail
    go_loopw [5] (fun i wr => ∃ k : Nat, k ≤ xs.length ∧ i = .int .i64 k ∧ (∀ j, j < k → at_ xs j = at_ ys j) ∧ Below w.heap.size w wr) (fun i _ => xs.length - (intOf i).toNat)
    case atStart => exact ⟨0, Nat.zero_le _, rfl, fun j hj => absurd hj (Nat.not_lt_zero _), Below.refl _ _⟩
    case round =>
      obtain ⟨k, hk, rfl, hj, hb⟩ := hrel
      have HJ := Lib.hid hj
      clear hj
      by_cases hlt : k < xs.length
      · have hlt1 : (k : Int) < (xs.length : Int) := by omega
        obtain ⟨ad, rfl, c0, c1⟩ := (HA.out.below hb).link k hlt
        obtain ⟨bd, rfl, d0, d1⟩ := (HB.out.below hb).link k (by have := HN.out; omega)
        by_cases he : at_ xs k = at_ ys k
        · have HS := Lib.hid (all_succ (f := fun j => at_ xs j = at_ ys j) HJ.out he)
          have hq := fun W => neqLink (at_ xs k) (at_ ys k) W
          rw [show linkEq (at_ xs k) (at_ ys k) = true from (linkEq_iff _ _).mpr he] at hq
          clear he
          generalize (at_ xs k).to = x0 at *
          generalize (at_ xs k).cost = x1 at *
          generalize (at_ ys k).to = y0 at *
          generalize (at_ ys k).cost = y1 at *
          go_wp2_with fail
          go_quiet (fail)
          go_wp2_with fail
          go_roundw
          case rel => exact ⟨k + 1, hlt, by go_num, HS.out, below_drewN hb _⟩
          case measure => simp [intOf]; omega
        · have HS := Lib.hid (show ¬ xs = ys from fun h => he (by rw [h]))
          have hq := fun W => neqLink (at_ xs k) (at_ ys k) W
          rw [show linkEq (at_ xs k) (at_ ys k) = false from Bool.eq_false_iff.mpr fun h => he ((linkEq_iff _ _).mp h)] at hq
          clear he
          generalize (at_ xs k).to = x0 at *
          generalize (at_ xs k).cost = x1 at *
          generalize (at_ ys k).to = y0 at *
          generalize (at_ ys k).cost = y1 at *
          go_wp2_with fail
          go_quiet (fail)
          go_wp2_with fail
          go_ret
          exact ⟨false, rfl, ⟨fun h => (by cases h), fun h => absurd h HS.out⟩, below_drewN hb _⟩
      · obtain rfl : k = xs.length := by omega
        go_wp2_with fail
        go_ret
        exact ⟨true, rfl, ⟨fun _ => ext_at xs ys HN.out HJ.out, fun _ => rfl⟩, hb⟩
  · have hn1 : ¬ (xs.length : Int) = (ys.length : Int) := by omega
    have HN := Lib.hid hn
    clear hn
    go_enter Tryz.func88, Tryz.ntmps88
    go_wp2_with fail
    go_ret
    exact ⟨false, rfl, ⟨fun h => (by cases h), fun h => absurd (by rw [h]) HN.out⟩, Below.refl _ _⟩

set_option maxRecDepth 100000 in
set_option maxHeartbeats 1000000 in
theorem sameHeads_calls (A B : Option Addr) (c d : Nat) (xs ys : List Head) (w : World) (hA : RowAt encHead 4 w A xs) (hB : RowAt encHead 4 w B ys) (hl : xs.length ≤ 140737488355328) :
    Calls Tryz.prog 68 #[.slice A xs.length c, .slice B ys.length d] w (Tells (xs = ys) w) := by
  by_cases hn : ys.length = xs.length
  · rw [hn]
    have h0 : (0 : Int) ≤ (xs.length : Int) := by omega
    have h1 : (xs.length : Int) ≤ 140737488355328 := by omega
    have HA := Lib.hid hA
    have HB := Lib.hid hB
    have HN := Lib.hid hn
    clear hA hB hn
    go_enter Tryz.func68, Tryz.ntmps68
    go_wp2_with fail
    go_loopw [5] (fun i wr => ∃ k : Nat, k ≤ xs.length ∧ i = .int .i64 k ∧ (∀ j, j < k → at_ xs j = at_ ys j) ∧ Below w.heap.size w wr) (fun i _ => xs.length - (intOf i).toNat)
    case atStart => exact ⟨0, Nat.zero_le _, rfl, fun j hj => absurd hj (Nat.not_lt_zero _), Below.refl _ _⟩
    case round =>
      obtain ⟨k, hk, rfl, hj, hb⟩ := hrel
      have HJ := Lib.hid hj
      clear hj
      by_cases hlt : k < xs.length
      · have hlt1 : (k : Int) < (xs.length : Int) := by omega
        obtain ⟨ad, rfl, c0, c1, c2, c3⟩ := (HA.out.below hb).head k hlt
        obtain ⟨bd, rfl, d0, d1, d2, d3⟩ := (HB.out.below hb).head k (by have := HN.out; omega)
        by_cases he : at_ xs k = at_ ys k
        · have HS := Lib.hid (all_succ (f := fun j => at_ xs j = at_ ys j) HJ.out he)
          have hq := fun W => neqHead (at_ xs k) (at_ ys k) W
          rw [show headEq (at_ xs k) (at_ ys k) = true from (headEq_iff _ _).mpr he] at hq
          clear he
          generalize (at_ xs k).router = x0 at *
          generalize (at_ xs k).serial = x1 at *
          generalize (at_ xs k).age = x2 at *
          generalize (at_ xs k).sum = x3 at *
          generalize (at_ ys k).router = y0 at *
          generalize (at_ ys k).serial = y1 at *
          generalize (at_ ys k).age = y2 at *
          generalize (at_ ys k).sum = y3 at *
          go_wp2_with fail
          go_quiet (fail)
          go_wp2_with fail
          go_roundw
          case rel => exact ⟨k + 1, hlt, by go_num, HS.out, below_drewN hb _⟩
          case measure => simp [intOf]; omega
        · have HS := Lib.hid (show ¬ xs = ys from fun h => he (by rw [h]))
          have hq := fun W => neqHead (at_ xs k) (at_ ys k) W
          rw [show headEq (at_ xs k) (at_ ys k) = false from Bool.eq_false_iff.mpr fun h => he ((headEq_iff _ _).mp h)] at hq
          clear he
          generalize (at_ xs k).router = x0 at *
          generalize (at_ xs k).serial = x1 at *
          generalize (at_ xs k).age = x2 at *
          generalize (at_ xs k).sum = x3 at *
          generalize (at_ ys k).router = y0 at *
          generalize (at_ ys k).serial = y1 at *
          generalize (at_ ys k).age = y2 at *
          generalize (at_ ys k).sum = y3 at *
          go_wp2_with fail
          go_quiet (fail)
          go_wp2_with fail
          go_ret
          exact ⟨false, rfl, ⟨fun h => (by cases h), fun h => absurd h HS.out⟩, below_drewN hb _⟩
      · obtain rfl : k = xs.length := by omega
        go_wp2_with fail
        go_ret
        exact ⟨true, rfl, ⟨fun _ => ext_at xs ys HN.out HJ.out, fun _ => rfl⟩, hb⟩
  · have hn1 : ¬ (xs.length : Int) = (ys.length : Int) := by omega
    have HN := Lib.hid hn
    clear hn
    go_enter Tryz.func68, Tryz.ntmps68
    go_wp2_with fail
    go_ret
    exact ⟨false, rfl, ⟨fun h => (by cases h), fun h => absurd (by rw [h]) HN.out⟩, Below.refl _ _⟩

end Go.Proofs.YtpgkgpecbjjifaaGreat
