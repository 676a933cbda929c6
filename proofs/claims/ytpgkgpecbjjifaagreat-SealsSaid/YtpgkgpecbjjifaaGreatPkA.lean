/- The contracts of package lsa: numbers, links. -/
import Derived.Test.YtpgkgpecbjjifaaGreatPkM
namespace Go.Proofs.YtpgkgpecbjjifaaGreat
open Go.RowKit Sha

set_option maxRecDepth 100000 in
theorem router_is (x : Int) (w : World) (v : Bool) (h : routerOk x = v) : Calls Tryz.prog 56 #[.int .i64 x] w fun e w' => e = .returned (.bool v) ∧ w = w' := by
  subst h
  by_cases h1 : 1 ≤ x
  · by_cases h2 : x ≤ 4
    · have hv : routerOk x = true := by simp [routerOk, h1, h2]
      have HV := Lib.hid hv
      clear hv
      go_enter Tryz.func56, Tryz.ntmps56
      go_wp2
      go_ret
      exact ⟨by rw [HV.out]; rfl, rfl⟩
    · have hv : routerOk x = false := by simp [routerOk, h2]
      have HV := Lib.hid hv
      clear hv
      go_enter Tryz.func56, Tryz.ntmps56
      go_wp2
      go_ret
      exact ⟨by rw [HV.out]; rfl, rfl⟩
  · have hv : routerOk x = false := by simp [routerOk, h1]
    have HV := Lib.hid hv
    clear hv
    go_enter Tryz.func56, Tryz.ntmps56
    go_wp2
    go_ret
    exact ⟨by rw [HV.out]; rfl, rfl⟩
set_option maxRecDepth 100000 in
theorem serial_is (x : Int) (w : World) (v : Bool) (h : serialOk x = v) : Calls Tryz.prog 97 #[.int .i64 x] w fun e w' => e = .returned (.bool v) ∧ w = w' := by
  subst h
  by_cases h1 : 1 ≤ x
  · by_cases h2 : x ≤ 2147483647
    · have hv : serialOk x = true := by simp [serialOk, h1, h2]
      have HV := Lib.hid hv
      clear hv
      go_enter Tryz.func97, Tryz.ntmps97
      go_wp2
      go_ret
      exact ⟨by rw [HV.out]; rfl, rfl⟩
    · have hv : serialOk x = false := by simp [serialOk, h2]
      have HV := Lib.hid hv
      clear hv
      go_enter Tryz.func97, Tryz.ntmps97
      go_wp2
      go_ret
      exact ⟨by rw [HV.out]; rfl, rfl⟩
  · have hv : serialOk x = false := by simp [serialOk, h1]
    have HV := Lib.hid hv
    clear hv
    go_enter Tryz.func97, Tryz.ntmps97
    go_wp2
    go_ret
    exact ⟨by rw [HV.out]; rfl, rfl⟩
set_option maxRecDepth 100000 in
theorem age_is (x : Int) (w : World) (v : Bool) (h : ageOk x = v) : Calls Tryz.prog 169 #[.int .i64 x] w fun e w' => e = .returned (.bool v) ∧ w = w' := by
  subst h
  by_cases h1 : 0 ≤ x
  · by_cases h2 : x ≤ 60
    · have hv : ageOk x = true := by simp [ageOk, h1, h2]
      have HV := Lib.hid hv
      clear hv
      go_enter Tryz.func169, Tryz.ntmps169
      go_wp2
      go_ret
      exact ⟨by rw [HV.out]; rfl, rfl⟩
    · have hv : ageOk x = false := by simp [ageOk, h2]
      have HV := Lib.hid hv
      clear hv
      go_enter Tryz.func169, Tryz.ntmps169
      go_wp2
      go_ret
      exact ⟨by rw [HV.out]; rfl, rfl⟩
  · have hv : ageOk x = false := by simp [ageOk, h1]
    have HV := Lib.hid hv
    clear hv
    go_enter Tryz.func169, Tryz.ntmps169
    go_wp2
    go_ret
    exact ⟨by rw [HV.out]; rfl, rfl⟩

/-- The ways through '!v1 || v2 || v3 || v4 || v5 && v6'. -/
theorem or5 (v1 v2 v3 v4 v5 v6 : Bool) : v1 = false ∨ (v1 = true ∧ v2 = true) ∨ (v1 = true ∧ v2 = false ∧ v3 = true) ∨ (v1 = true ∧ v2 = false ∧ v3 = false ∧ v4 = true) ∨ (v1 = true ∧ v2 = false ∧ v3 = false ∧ v4 = false ∧ v5 = false)
    ∨ (v1 = true ∧ v2 = false ∧ v3 = false ∧ v4 = false ∧ v5 = true ∧ v6 = true) ∨ (v1 = true ∧ v2 = false ∧ v3 = false ∧ v4 = false ∧ v5 = true ∧ v6 = false) := by
  cases v1 <;> cases v2 <;> cases v3 <;> cases v4 <;> cases v5 <;> cases v6 <;> simp

theorem none_succ {f : Nat → Bool} {k : Nat} (h : ∀ j, j < k → f j = false) (hk : f k = false) : ∀ j, j < k + 1 → f j = false := fun j hj => by
  by_cases e : j = k
  · rw [e]; exact hk
  · exact h j (by omega)

theorem cell_new (w : World) (cs : Array Value) (T : TypeId) (i : Nat) : (w.alloc (.cells cs T)).cell? ⟨w.heap.size, i, none⟩ = cs[i]? := by
  simp only [World.cell?, heap_alloc_new]
  rfl
theorem pair_new (w : World) (x y : Value) (T : TypeId) : (w.alloc (.cells #[x, y] T)).cell? ⟨w.heap.size, 0, none⟩ = some x ∧ (w.alloc (.cells #[x, y] T)).cell? ⟨w.heap.size, 1, none⟩ = some y :=
  ⟨cell_new w _ T 0, cell_new w _ T 1⟩

theorem below_alloc' {B : Nat} {w W : World} (h : Below B w W) (hB : B ≤ W.heap.size) (o : Obj) : Below B w (W.alloc o) := h.alloc hB o

set_option maxRecDepth 100000 in
set_option maxHeartbeats 1000000 in
theorem links_calls (A : Option Addr) (c : Nat) (ls : List Link) (r : Int) (w : World) (hA : RowAt encLink 2 w A ls) (hl : ls.length ≤ 140737488355328) :
    Calls Tryz.prog 98 #[.slice A ls.length c, .int .i64 r] w fun e w' => e = .returned (.bool (linksMay r ls)) ∧ Below w.heap.size w w' := by
  have h0 : (0 : Int) ≤ (ls.length : Int) := by omega
  have h1 : (ls.length : Int) ≤ 140737488355328 := by omega
  have HA := Lib.hid hA
  clear hA
  go_enter Tryz.func98, Tryz.ntmps98
  go_wp2_with fail
  go_loopw [9] (fun i wr => ∃ k : Nat, k ≤ ls.length ∧ i = .int .i64 k ∧ (∀ j, j < k → linkBad r ls j = false) ∧ Below w.heap.size w wr) (fun i _ => ls.length - (intOf i).toNat)
  case atStart => exact ⟨0, Nat.zero_le _, rfl, fun j hj => absurd hj (Nat.not_lt_zero _), Below.refl _ _⟩
  case round =>
    obtain ⟨k, hk, rfl, hj, hb⟩ := hrel
    have HJ := Lib.hid hj
    clear hj
    by_cases hlt : k < ls.length
    · have hlt1 : (k : Int) < (ls.length : Int) := by omega
      obtain ⟨ad, rfl, c0, c1⟩ := (HA.out.below hb).link k hlt
      have hb1 : Below w.heap.size w (wr.alloc (.cells #[.int .i64 (at_ ls k).to, .int .i64 (at_ ls k).cost] 179)) := hb.alloc hb.size _
      have hp : 0 < k → (wr.alloc (.cells #[.int .i64 (at_ ls k).to, .int .i64 (at_ ls k).cost] 179)).cell? (ad.add ((k - 1) * 2)) = some (.int .i64 (at_ ls (k - 1)).to) := fun h => by
        obtain ⟨_, e, d, _⟩ := (HA.out.below hb1).link (k - 1) (by omega)
        cases e
        exact d
      obtain ⟨f0, f1⟩ := pair_new wr (.int .i64 (at_ ls k).to) (.int .i64 (at_ ls k).cost) 179
      have HX := Lib.hid (show linkBad r ls k = (!routerOk (at_ ls k).to || ((at_ ls k).to == r) || decide ((at_ ls k).cost < 1) || decide (65535 < (at_ ls k).cost) || (decide (0 < k) && decide ((at_ ls k).to ≤ (at_ ls (k - 1)).to))) from rfl)
      generalize (at_ ls k).to = x at *
      generalize (at_ ls k).cost = y at *
      generalize (at_ ls (k - 1)).to = z at *
      have hw1 : IntKind.i64.wrap ((k : Int) - 1) = (k : Int) - 1 := IntWalk.i64_in _ (by omega)
      obtain ⟨v1, e1⟩ : ∃ v, routerOk x = v := ⟨_, rfl⟩
      obtain ⟨v2, e2⟩ : ∃ v, (x == r) = v := ⟨_, rfl⟩
      obtain ⟨v3, e3⟩ : ∃ v, decide (y < 1) = v := ⟨_, rfl⟩
      obtain ⟨v4, e4⟩ : ∃ v, decide (65535 < y) = v := ⟨_, rfl⟩
      obtain ⟨v5, e5⟩ : ∃ v, decide (0 < k) = v := ⟨_, rfl⟩
      obtain ⟨v6, e6⟩ : ∃ v, decide (x ≤ z) = v := ⟨_, rfl⟩
      have HE1 := Lib.hid e1
      rw [e1, e2, e3, e4, e5, e6] at HX
      clear e1
      go_wp2_with fail
      generalize wr.alloc (.cells #[.int .i64 x, .int .i64 y] 179) = W1 at *
      have hk1 : v5 = true → (1 : Int) ≤ (k : Int) := fun h => by have := of_decide_eq_true (e5.trans h); omega
      have hk2 : v5 = true → W1.cell? (ad.add ((k - 1) * 2)) = some (.int .i64 z) := fun h => hp (of_decide_eq_true (e5.trans h))
      clear hp
      rcases or5 v1 v2 v3 v4 v5 v6 with rfl | ⟨rfl, rfl⟩ | ⟨rfl, rfl, rfl⟩ | ⟨rfl, rfl, rfl, rfl⟩ | ⟨rfl, rfl, rfl, rfl, rfl⟩ | ⟨rfl, rfl, rfl, rfl, rfl, rfl⟩ | ⟨rfl, rfl, rfl, rfl, rfl, rfl⟩
      all_goals
        first | replace hk1 := hk1 rfl | clear hk1
        first | replace hk2 := hk2 rfl | clear hk2
        go_quiet ((go_at_call 56; exact drew_first (drew_of_same fun W => router_is x W _ HE1.out)))
        go_wp2_with fail
        first
          | (go_ret; exact ⟨by rw [linksMay, noneBad_false _ ls k hlt (by rw [HX.out]; rfl)]; rfl, below_drewN hb1 _⟩)
          | (go_roundw; (case rel => exact ⟨k + 1, hlt, by go_num, none_succ HJ.out HX.out, below_drewN hb1 _⟩); (case measure => simp [intOf]; omega))
    · obtain rfl : k = ls.length := by omega
      go_wp2_with fail
      go_ret
      exact ⟨by rw [linksMay, noneBad_true _ ls HJ.out]; rfl, hb⟩
end Go.Proofs.YtpgkgpecbjjifaaGreat
