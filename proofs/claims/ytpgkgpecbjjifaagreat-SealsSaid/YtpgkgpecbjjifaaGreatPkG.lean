/- The document's PutLsa; package hello, and the document's words on it. -/
import Derived.Test.YtpgkgpecbjjifaaGreatPkF
namespace Go.Proofs.YtpgkgpecbjjifaaGreat
open Go.RowKit Sha

set_option maxRecDepth 100000 in
set_option maxHeartbeats 1000000 in
theorem refPutLsa_true (a : Lsa) (A : Option Addr) (c : Nat) (w : World) (hv : lsaMay a = true) (hA : RowAt encLink 2 w A a.links) :
    Calls Tryz.prog 215 #[.agg #[.int .i64 a.router, .int .i64 a.serial, .int .i64 a.age, .slice A a.links.length c]] w fun e w' => e = .returned (.tuple #[.string (lsaBytes a), .int .i64 0]) ∧ Below w.heap.size w w' := by
  have hl := lsaMay_links a hv
  obtain ⟨W1, hW1⟩ : ∃ W1, W1 = w.alloc (.cells #[.int .i64 a.router, .int .i64 a.serial, .int .i64 a.age, .slice A a.links.length c] 91) := ⟨_, rfl⟩
  have HB : Below w.heap.size w W1 := by rw [hW1]; exact (Below.refl _ _).alloc (Nat.le_refl _) _
  have c0 : W1.cell? ⟨w.heap.size, 0, none⟩ = some (.int .i64 a.router) := by rw [hW1]; exact cell_new w _ _ 0
  have c1 : W1.cell? ⟨w.heap.size, 1, none⟩ = some (.int .i64 a.serial) := by rw [hW1]; exact cell_new w _ _ 1
  have c2 : W1.cell? ⟨w.heap.size, 2, none⟩ = some (.int .i64 a.age) := by rw [hW1]; exact cell_new w _ _ 2
  have c3 : W1.cell? ⟨w.heap.size, 3, none⟩ = some (.slice A a.links.length c) := by rw [hW1]; exact cell_new w _ _ 3
  have hA1 := hA.below HB
  obtain ⟨B1, hB1⟩ : ∃ B1, B1 = num a.age 1 ++ body a := ⟨_, rfl⟩
  have hs := body_size a
  have ha1 : ∀ W : World, (Op.stringOp .add (num a.age 1) (body a)).run Tryz.prog W = .ok (.string B1) W := fun W => by
    rw [run_string_add_sum W _ _ (by rw [num_size, hs]; omega), hB1]
  have ha2 : ∀ W : World, (Op.stringOp .add B1 (num (fletch (body a)) 2)).run Tryz.prog W = .ok (.string (lsaBytes a)) W := fun W => by
    rw [run_string_add_sum W _ _ (by rw [hB1, ByteArray.size_append, num_size, num_size, hs]; omega), hB1]
    rfl
  have hs1 : (body a).size ≤ 140737488355000 := by omega
  clear hs hB1
  go_enter Tryz.func215, Tryz.ntmps215
  go_wp2_with fail
  rw [← hW1]
  clear hW1
  ((with_reducible refine (refLsaMay_calls a A c _ true hv hA1 (by omega)).mono ?_); rintro e w2 ⟨rfl, hb2⟩)
  replace c0 := cell_later hb2 c0
  replace c1 := cell_later hb2 c1
  replace c2 := cell_later hb2 c2
  replace c3 := cell_later hb2 c3
  replace hA1 := hA1.below hb2
  replace HB := HB.trans (hb2.mono HB.size)
  clear hb2
  go_wp2_with fail
  ((with_reducible refine (refBytes_calls a A c _ hA1 hl).mono ?_); rintro e w3 ⟨rfl, hb2⟩)
  replace c2 := cell_later hb2 c2
  replace HB := HB.trans (hb2.mono HB.size)
  clear hb2 hA1 c0 c1 c3
  go_wp2_with fail
  ((with_reducible refine (num1_calls _ _).mono ?_); rintro e w1 ⟨rfl, hb1⟩)
  replace HB := HB.trans (hb1.mono HB.size)
  clear hb1
  go_wp2_with fail
  ((with_reducible refine (refFletch_calls (body a) _ hs1).mono ?_); rintro e w1 ⟨rfl, hb1⟩)
  replace HB := HB.trans (hb1.mono HB.size)
  clear hb1
  go_wp2_with fail
  ((with_reducible refine (num2_calls _ _).mono ?_); rintro e w1 ⟨rfl, hb1⟩)
  replace HB := HB.trans (hb1.mono HB.size)
  clear hb1
  go_wp2_with fail
  go_ret2
  exact ⟨rfl, HB⟩

set_option maxRecDepth 100000 in
set_option maxHeartbeats 1000000 in
theorem refPutLsa_false (a : Lsa) (A : Option Addr) (c : Nat) (w : World) (hv : lsaMay a = false) (hA : RowAt encLink 2 w A a.links) (hl : a.links.length ≤ 140737488355328) :
    Calls Tryz.prog 215 #[.agg #[.int .i64 a.router, .int .i64 a.serial, .int .i64 a.age, .slice A a.links.length c]] w fun e w' => e = .returned (.tuple #[.string ⟨#[]⟩, .int .i64 700]) ∧ Below w.heap.size w w' := by
  obtain ⟨W1, hW1⟩ : ∃ W1, W1 = w.alloc (.cells #[.int .i64 a.router, .int .i64 a.serial, .int .i64 a.age, .slice A a.links.length c] 91) := ⟨_, rfl⟩
  have HB : Below w.heap.size w W1 := by rw [hW1]; exact (Below.refl _ _).alloc (Nat.le_refl _) _
  have c0 : W1.cell? ⟨w.heap.size, 0, none⟩ = some (.int .i64 a.router) := by rw [hW1]; exact cell_new w _ _ 0
  have c1 : W1.cell? ⟨w.heap.size, 1, none⟩ = some (.int .i64 a.serial) := by rw [hW1]; exact cell_new w _ _ 1
  have c2 : W1.cell? ⟨w.heap.size, 2, none⟩ = some (.int .i64 a.age) := by rw [hW1]; exact cell_new w _ _ 2
  have c3 : W1.cell? ⟨w.heap.size, 3, none⟩ = some (.slice A a.links.length c) := by rw [hW1]; exact cell_new w _ _ 3
  have hA1 := hA.below HB
  go_enter Tryz.func215, Tryz.ntmps215
  go_wp2_with fail
  rw [← hW1]
  clear hW1
  ((with_reducible refine (refLsaMay_calls a A c _ false hv hA1 hl).mono ?_); rintro e w1 ⟨rfl, hb1⟩)
  replace HB := HB.trans (hb1.mono HB.size)
  clear hb1
  go_wp2_with fail
  go_ret2
  exact ⟨rfl, HB⟩

/-- May who is heard not be the one at its place? -/
def heardBad (xs : List Int) (k : Nat) : Bool := !routerOk (at_ xs k) || (decide (0 < k) && decide (at_ xs k ≤ at_ xs (k - 1)))
def heardMay (xs : List Int) : Bool := noneBad heardBad xs
theorem heard_four (xs : List Int) (h : heardMay xs = true) : xs.length ≤ 4 := by
  refine rising_four heardBad id xs (fun k hk => ?_) (fun k hk h0 => ?_) h
  · simp [heardBad] at hk
    exact (routerOk_iff _).mp hk.1
  · simp [heardBad] at hk
    have := hk.2 h0
    exact this
/-- The ways through '!v1 || v5 && v6'. -/
theorem or2 (v1 v5 v6 : Bool) : v1 = false ∨ (v1 = true ∧ v5 = false) ∨ (v1 = true ∧ v5 = true ∧ v6 = true) ∨ (v1 = true ∧ v5 = true ∧ v6 = false) := by
  cases v1 <;> cases v5 <;> cases v6 <;> simp

set_option maxRecDepth 100000 in
set_option maxHeartbeats 1000000 in
theorem helloMay_calls (A : Option Addr) (c : Nat) (xs : List Int) (w : World) (hA : RowAt encInt 1 w A xs) (hl : xs.length ≤ 140737488355328) :
    Calls Tryz.prog 253 #[.slice A xs.length c] w fun e w' => e = .returned (.bool (heardMay xs)) ∧ Below w.heap.size w w' := by
  have h0 : (0 : Int) ≤ (xs.length : Int) := by omega
  have h1 : (xs.length : Int) ≤ 140737488355328 := by omega
  have HA := Lib.hid hA
  clear hA
  go_enter Tryz.func253, Tryz.ntmps253
  go_wp2_with fail
  go_loopw [7] (fun i wr => ∃ k : Nat, k ≤ xs.length ∧ i = .int .i64 k ∧ (∀ j, j < k → heardBad xs j = false) ∧ Below w.heap.size w wr) (fun i _ => xs.length - (intOf i).toNat)
  case atStart => exact ⟨0, Nat.zero_le _, rfl, fun j hj => absurd hj (Nat.not_lt_zero _), Below.refl _ _⟩
  case round =>
    obtain ⟨k, hk, rfl, hj, hb⟩ := hrel
    have HJ := Lib.hid hj
    clear hj
    by_cases hlt : k < xs.length
    · have hlt1 : (k : Int) < (xs.length : Int) := by omega
      obtain ⟨ad, rfl, c0⟩ := (HA.out.below hb).int k hlt
      have hp : 0 < k → wr.cell? (ad.add (k - 1)) = some (.int .i64 (at_ xs (k - 1))) := fun h => by
        obtain ⟨_, e, d⟩ := (HA.out.below hb).int (k - 1) (by omega)
        cases e
        exact d
      have HX := Lib.hid (show heardBad xs k = (!routerOk (at_ xs k) || (decide (0 < k) && decide (at_ xs k ≤ at_ xs (k - 1)))) from rfl)
      generalize at_ xs k = x at *
      generalize at_ xs (k - 1) = z at *
      have hw1 : IntKind.i64.wrap ((k : Int) - 1) = (k : Int) - 1 := IntWalk.i64_in _ (by omega)
      obtain ⟨v1, e1⟩ : ∃ v, routerOk x = v := ⟨_, rfl⟩
      obtain ⟨v5, e5⟩ : ∃ v, decide (0 < k) = v := ⟨_, rfl⟩
      obtain ⟨v6, e6⟩ : ∃ v, decide (x ≤ z) = v := ⟨_, rfl⟩
      have HE1 := Lib.hid e1
      rw [e1, e5, e6] at HX
      clear e1
      go_wp2_with fail
      have hk1 : v5 = true → (1 : Int) ≤ (k : Int) := fun h => by have := of_decide_eq_true (e5.trans h); omega
      have hk2 : v5 = true → wr.cell? (ad.add (k - 1)) = some (.int .i64 z) := fun h => hp (of_decide_eq_true (e5.trans h))
      clear hp
      rcases or2 v1 v5 v6 with rfl | ⟨rfl, rfl⟩ | ⟨rfl, rfl, rfl⟩ | ⟨rfl, rfl, rfl⟩
      all_goals
        first | replace hk1 := hk1 rfl | clear hk1
        first | replace hk2 := hk2 rfl | clear hk2
        (with_reducible refine (router_is x _ _ HE1.out).mono ?_); rintro e w1 ⟨rfl, rfl⟩
        go_wp2_with fail
        first
          | (go_ret; exact ⟨by rw [heardMay, noneBad_false _ xs k hlt (by rw [HX.out]; rfl)]; rfl, (by first | exact hb | exact below_drewN hb _)⟩)
          | (go_roundw; (case rel => exact ⟨k + 1, hlt, by go_num, none_succ HJ.out HX.out, (by first | exact hb | exact below_drewN hb _)⟩); (case measure => simp [intOf]; omega))
    · obtain rfl : k = xs.length := by omega
      have ht := noneBad_true heardBad xs HJ.out
      go_wp2_with fail
      go_ret
      exact ⟨by rw [heardMay, ht]; rfl, hb⟩

set_option maxRecDepth 100000 in
set_option maxHeartbeats 1000000 in
theorem refHeardMay_calls (A : Option Addr) (c : Nat) (xs : List Int) (w : World) (hA : RowAt encInt 1 w A xs) (hl : xs.length ≤ 140737488355328) :
    Calls Tryz.prog 149 #[.slice A xs.length c] w fun e w' => e = .returned (.bool (heardMay xs)) ∧ Below w.heap.size w w' := by
  have h0 : (0 : Int) ≤ (xs.length : Int) := by omega
  have h1 : (xs.length : Int) ≤ 140737488355328 := by omega
  have HA := Lib.hid hA
  clear hA
  go_enter Tryz.func149, Tryz.ntmps149
  go_wp2_with fail
  go_loopw [3] (fun i wr => ∃ k : Nat, k ≤ xs.length ∧ i = .int .i64 k ∧ (∀ j, j < k → heardBad xs j = false) ∧ Below w.heap.size w wr) (fun i _ => xs.length - (intOf i).toNat)
  case atStart => exact ⟨0, Nat.zero_le _, rfl, fun j hj => absurd hj (Nat.not_lt_zero _), Below.refl _ _⟩
  case round =>
    obtain ⟨k, hk, rfl, hj, hb⟩ := hrel
    have HJ := Lib.hid hj
    clear hj
    by_cases hlt : k < xs.length
    · have hlt1 : (k : Int) < (xs.length : Int) := by omega
      obtain ⟨ad, rfl, c0⟩ := (HA.out.below hb).int k hlt
      have hp : 0 < k → wr.cell? (ad.add (k - 1)) = some (.int .i64 (at_ xs (k - 1))) := fun h => by
        obtain ⟨_, e, d⟩ := (HA.out.below hb).int (k - 1) (by omega)
        cases e
        exact d
      have HX := Lib.hid (show heardBad xs k = (!routerOk (at_ xs k) || (decide (0 < k) && decide (at_ xs k ≤ at_ xs (k - 1)))) from rfl)
      generalize at_ xs k = x at *
      generalize at_ xs (k - 1) = z at *
      have hw1 : IntKind.i64.wrap ((k : Int) - 1) = (k : Int) - 1 := IntWalk.i64_in _ (by omega)
      obtain ⟨v1, e1⟩ : ∃ v, routerOk x = v := ⟨_, rfl⟩
      obtain ⟨v5, e5⟩ : ∃ v, decide (0 < k) = v := ⟨_, rfl⟩
      obtain ⟨v6, e6⟩ : ∃ v, decide (x ≤ z) = v := ⟨_, rfl⟩
      have HE1 := Lib.hid (show upToB x 1 4 = v1 from e1)
      rw [e1, e5, e6] at HX
      clear e1
      go_wp2_with fail
      have hk1 : v5 = true → (1 : Int) ≤ (k : Int) := fun h => by have := of_decide_eq_true (e5.trans h); omega
      have hk2 : v5 = true → wr.cell? (ad.add (k - 1)) = some (.int .i64 z) := fun h => hp (of_decide_eq_true (e5.trans h))
      clear hp
      rcases or2 v1 v5 v6 with rfl | ⟨rfl, rfl⟩ | ⟨rfl, rfl, rfl⟩ | ⟨rfl, rfl, rfl⟩
      all_goals
        first | replace hk1 := hk1 rfl | clear hk1
        first | replace hk2 := hk2 rfl | clear hk2
        go_quiet ((go_at_call 153; exact drew_first (drew_of_same fun W => ref9Router_is x W _ HE1.out)))
        go_wp2_with fail
        first
          | (go_ret; exact ⟨by rw [heardMay, noneBad_false _ xs k hlt (by rw [HX.out]; rfl)]; rfl, (by first | exact hb | exact below_drewN hb _)⟩)
          | (go_roundw; (case rel => exact ⟨k + 1, hlt, by go_num, none_succ HJ.out HX.out, (by first | exact hb | exact below_drewN hb _)⟩); (case measure => simp [intOf]; omega))
    · obtain rfl : k = xs.length := by omega
      have ht := noneBad_true heardBad xs HJ.out
      have h4 := heard_four xs ht
      have h5 : (xs.length : Int) ≤ 4 := by omega
      have HT := Lib.hid (show heardMay xs = true from ht)
      clear ht h4
      go_wp2_with fail
      go_ret
      exact ⟨by rw [HT.out]; rfl, hb⟩

end Go.Proofs.YtpgkgpecbjjifaaGreat
