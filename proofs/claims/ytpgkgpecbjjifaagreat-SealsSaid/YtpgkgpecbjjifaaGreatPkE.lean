/- The contracts of package lsa: Put; the document's words on Lsas. -/
import Derived.Test.YtpgkgpecbjjifaaGreatPkD
namespace Go.Proofs.YtpgkgpecbjjifaaGreat
open Go.RowKit Sha

theorem lsaMay_links (a : Lsa) (h : lsaMay a = true) : a.links.length ≤ 4 := by
  refine links_four a.router a.links ?_
  rw [lsaMay] at h
  revert h
  cases linksMay a.router a.links
  · rw [Bool.and_false]; intro h; cases h
  · exact fun _ => rfl

/-- An Lsa's bytes. -/
def lsaBytes (a : Lsa) : ByteArray := num a.age 1 ++ body a ++ num (fletch (body a)) 2
theorem body_size (a : Lsa) : (body a).size = 6 + 3 * a.links.length := bodyTo_size a _
theorem lsaBytes_size (a : Lsa) : (lsaBytes a).size = 9 + 3 * a.links.length := by
  simp only [lsaBytes, ByteArray.size_append, num_size, body_size]
  omega

set_option maxRecDepth 100000 in
set_option maxHeartbeats 400000 in
theorem lsaPut_true (a : Lsa) (A : Option Addr) (c : Nat) (w : World) (hv : lsaMay a = true) (hA : RowAt encLink 2 w A a.links) :
    Calls Tryz.prog 254 #[.agg #[.int .i64 a.router, .int .i64 a.serial, .int .i64 a.age, .slice A a.links.length c]] w fun e w' => e = .returned (.tuple #[.string (lsaBytes a), .int .i64 0]) ∧ Below w.heap.size w w' := by
  have hl := lsaMay_links a hv
  obtain ⟨W1, hW1⟩ : ∃ W1, W1 = w.alloc (.cells #[.int .i64 a.router, .int .i64 a.serial, .int .i64 a.age, .slice A a.links.length c] 91) := ⟨_, rfl⟩
  have hb : Below w.heap.size w W1 := by rw [hW1]; exact (Below.refl _ _).alloc (Nat.le_refl _) _
  have c0 : W1.cell? ⟨w.heap.size, 0, none⟩ = some (.int .i64 a.router) := by rw [hW1]; exact cell_new w _ _ 0
  have c1 : W1.cell? ⟨w.heap.size, 1, none⟩ = some (.int .i64 a.serial) := by rw [hW1]; exact cell_new w _ _ 1
  have c2 : W1.cell? ⟨w.heap.size, 2, none⟩ = some (.int .i64 a.age) := by rw [hW1]; exact cell_new w _ _ 2
  have c3 : W1.cell? ⟨w.heap.size, 3, none⟩ = some (.slice A a.links.length c) := by rw [hW1]; exact cell_new w _ _ 3
  have hA1 := hA.below hb
  go_enter Tryz.func254, Tryz.ntmps254
  go_wp2_with fail
  rw [← hW1]
  clear hW1
  ((with_reducible refine (lsaMay_calls a A c _ true hv hA1 (by omega)).mono ?_); rintro e w2 ⟨rfl, hb2⟩)
  replace c0 := cell_later hb2 c0
  replace c1 := cell_later hb2 c1
  replace c2 := cell_later hb2 c2
  replace c3 := cell_later hb2 c3
  have hA2 := hA1.below hb2
  have hb3 := hb.trans (hb2.mono hb.size)
  clear hA hA1 hb hb2
  go_wp2_with fail
  ((with_reducible refine (body_calls a A c _ _ hA2 hl c0 c1 c3).mono ?_); rintro e w3 ⟨rfl, hb2⟩)
  replace c2 := cell_later hb2 c2
  have HB := hb3.trans (hb2.mono hb3.size)
  clear c0 c1 c3 hA2 hb3 hb2
  obtain ⟨B1, hB1⟩ : ∃ B1, B1 = num a.age 1 ++ body a := ⟨_, rfl⟩
  have hs := body_size a
  have ha1 : ∀ W : World, (Op.stringOp .add (num a.age 1) (body a)).run Tryz.prog W = .ok (.string B1) W := fun W => by
    rw [run_string_add_sum W _ _ (by rw [num_size, hs]; omega), hB1]
  have ha2 : ∀ W : World, (Op.stringOp .add B1 (num (fletch (body a)) 2)).run Tryz.prog W = .ok (.string (lsaBytes a)) W := fun W => by
    rw [run_string_add_sum W _ _ (by rw [hB1, ByteArray.size_append, num_size, num_size, hs]; omega), hB1]
    rfl
  have hs1 : (body a).size ≤ 140737488355000 := by omega
  clear hs hB1
  go_wp2_with fail
  ((with_reducible refine (one_calls _ _).mono ?_); rintro e w1 ⟨rfl, hb1⟩)
  replace HB := HB.trans (hb1.mono HB.size)
  clear hb1
  go_wp2_with fail
  ((with_reducible refine (fletchSum_calls (body a) _ hs1).mono ?_); rintro e w1 ⟨rfl, hb1⟩)
  replace HB := HB.trans (hb1.mono HB.size)
  clear hb1
  go_wp2_with fail
  ((with_reducible refine (two_calls _ _).mono ?_); rintro e w1 ⟨rfl, hb1⟩)
  replace HB := HB.trans (hb1.mono HB.size)
  clear hb1
  go_wp2_with fail
  go_ret2
  exact ⟨rfl, HB⟩

set_option maxRecDepth 100000 in
set_option maxHeartbeats 400000 in
theorem lsaPut_false (a : Lsa) (A : Option Addr) (c : Nat) (w : World) (hv : lsaMay a = false) (hA : RowAt encLink 2 w A a.links) (hl : a.links.length ≤ 140737488355328) :
    Calls Tryz.prog 254 #[.agg #[.int .i64 a.router, .int .i64 a.serial, .int .i64 a.age, .slice A a.links.length c]] w fun e w' => e = .returned (.tuple #[.string ⟨#[]⟩, .int .i64 700]) ∧ Below w.heap.size w w' := by
  obtain ⟨W1, hW1⟩ : ∃ W1, W1 = w.alloc (.cells #[.int .i64 a.router, .int .i64 a.serial, .int .i64 a.age, .slice A a.links.length c] 91) := ⟨_, rfl⟩
  have HB : Below w.heap.size w W1 := by rw [hW1]; exact (Below.refl _ _).alloc (Nat.le_refl _) _
  have c0 : W1.cell? ⟨w.heap.size, 0, none⟩ = some (.int .i64 a.router) := by rw [hW1]; exact cell_new w _ _ 0
  have c1 : W1.cell? ⟨w.heap.size, 1, none⟩ = some (.int .i64 a.serial) := by rw [hW1]; exact cell_new w _ _ 1
  have c2 : W1.cell? ⟨w.heap.size, 2, none⟩ = some (.int .i64 a.age) := by rw [hW1]; exact cell_new w _ _ 2
  have c3 : W1.cell? ⟨w.heap.size, 3, none⟩ = some (.slice A a.links.length c) := by rw [hW1]; exact cell_new w _ _ 3
  have hA1 := hA.below HB
  go_enter Tryz.func254, Tryz.ntmps254
  go_wp2_with fail
  rw [← hW1]
  clear hW1
  ((with_reducible refine (lsaMay_calls a A c _ false hv hA1 hl).mono ?_); rintro e w1 ⟨rfl, hb1⟩)
  replace HB := HB.trans (hb1.mono HB.size)
  clear hb1
  go_wp2_with fail
  go_ret2
  exact ⟨rfl, HB⟩

def upToB (x l m : Int) : Bool := decide (l ≤ x) && decide (x ≤ m)
theorem cost_bad (y : Int) : (decide (y < 1) || decide (65535 < y)) = !upToB y 1 65535 := by
  by_cases h1 : y < 1 <;> by_cases h2 : 65535 < y <;> simp [upToB, h1, h2] <;> omega
theorem linkBad_ref (r : Int) (ls : List Link) (k : Nat) : linkBad r ls k = (!routerOk (at_ ls k).to || ((at_ ls k).to == r) || !upToB (at_ ls k).cost 1 65535 || (decide (0 < k) && decide ((at_ ls k).to ≤ (at_ ls (k - 1)).to))) := by
  rw [← cost_bad, linkBad, ← Bool.or_assoc]
/-- The ways through '!v1 || v2 || !v3 || v5 && v6'. -/
theorem or4 (v1 v2 v3 v5 v6 : Bool) : v1 = false ∨ (v1 = true ∧ v2 = true) ∨ (v1 = true ∧ v2 = false ∧ v3 = false) ∨ (v1 = true ∧ v2 = false ∧ v3 = true ∧ v5 = false)
    ∨ (v1 = true ∧ v2 = false ∧ v3 = true ∧ v5 = true ∧ v6 = true) ∨ (v1 = true ∧ v2 = false ∧ v3 = true ∧ v5 = true ∧ v6 = false) := by
  cases v1 <;> cases v2 <;> cases v3 <;> cases v5 <;> cases v6 <;> simp

set_option maxRecDepth 100000 in
theorem refUpTo_is (x l m : Int) (w : World) (v : Bool) (h : upToB x l m = v) : Calls Tryz.prog 154 #[.int .i64 x, .int .i64 l, .int .i64 m] w fun e w' => e = .returned (.bool v) ∧ w = w' := by
  subst h
  by_cases h1 : l ≤ x
  · by_cases h2 : x ≤ m
    · have hv : upToB x l m = true := by simp [upToB, h1, h2]
      have HV := Lib.hid hv
      clear hv
      go_enter Tryz.func154, Tryz.ntmps154
      go_wp2
      go_ret
      exact ⟨by rw [HV.out]; rfl, rfl⟩
    · have hv : upToB x l m = false := by simp [upToB, h2]
      have HV := Lib.hid hv
      clear hv
      go_enter Tryz.func154, Tryz.ntmps154
      go_wp2
      go_ret
      exact ⟨by rw [HV.out]; rfl, rfl⟩
  · have hv : upToB x l m = false := by simp [upToB, h1]
    have HV := Lib.hid hv
    clear hv
    go_enter Tryz.func154, Tryz.ntmps154
    go_wp2
    go_ret
    exact ⟨by rw [HV.out]; rfl, rfl⟩

set_option maxRecDepth 100000 in
theorem refRouter_is (x : Int) (w : World) (v : Bool) (h : routerOk x = v) : Calls Tryz.prog 214 #[.int .i64 x] w fun e w' => e = .returned (.bool v) ∧ w = w' := by
  have H := Lib.hid (show upToB x 1 4 = v from h)
  clear h
  go_enter Tryz.func214, Tryz.ntmps214
  go_wp2_with fail
  ((with_reducible refine (refUpTo_is x 1 4 _ v H.out).mono ?_); rintro e w1 ⟨rfl, rfl⟩)
  go_wp2_with fail
  go_ret
  exact ⟨rfl, rfl⟩
set_option maxRecDepth 100000 in
set_option maxHeartbeats 1000000 in
theorem refLinks_calls (A : Option Addr) (c : Nat) (ls : List Link) (r : Int) (w : World) (hA : RowAt encLink 2 w A ls) (hl : ls.length ≤ 140737488355328) :
    Calls Tryz.prog 220 #[.int .i64 r, .slice A ls.length c] w fun e w' => e = .returned (.bool (linksMay r ls)) ∧ Below w.heap.size w w' := by
  have h0 : (0 : Int) ≤ (ls.length : Int) := by omega
  have h1 : (ls.length : Int) ≤ 140737488355328 := by omega
  have HA := Lib.hid hA
  clear hA
  go_enter Tryz.func220, Tryz.ntmps220
  go_wp2_with fail
  go_loopw [5] (fun i wr => ∃ k : Nat, k ≤ ls.length ∧ i = .int .i64 k ∧ (∀ j, j < k → linkBad r ls j = false) ∧ Below w.heap.size w wr) (fun i _ => ls.length - (intOf i).toNat)
  case atStart => exact ⟨0, Nat.zero_le _, rfl, fun j hj => absurd hj (Nat.not_lt_zero _), Below.refl _ _⟩
  case round =>
    obtain ⟨k, hk, rfl, hj, hb⟩ := hrel
    have HJ := Lib.hid hj
    clear hj
    by_cases hlt : k < ls.length
    · have hlt1 : (k : Int) < (ls.length : Int) := by omega
      obtain ⟨ad, rfl, c0, c1⟩ := (HA.out.below hb).link k hlt
      have hp : 0 < k → wr.cell? (ad.add ((k - 1) * 2)) = some (.int .i64 (at_ ls (k - 1)).to) := fun h => by
        obtain ⟨_, e, d, _⟩ := (HA.out.below hb).link (k - 1) (by omega)
        cases e
        exact d
      have HX := Lib.hid (linkBad_ref r ls k)
      generalize (at_ ls k).to = x at *
      generalize (at_ ls k).cost = y at *
      generalize (at_ ls (k - 1)).to = z at *
      have hw1 : IntKind.i64.wrap ((k : Int) - 1) = (k : Int) - 1 := IntWalk.i64_in _ (by omega)
      obtain ⟨v1, e1⟩ : ∃ v, routerOk x = v := ⟨_, rfl⟩
      obtain ⟨v2, e2⟩ : ∃ v, (x == r) = v := ⟨_, rfl⟩
      obtain ⟨v3, e3⟩ : ∃ v, upToB y 1 65535 = v := ⟨_, rfl⟩
      obtain ⟨v5, e5⟩ : ∃ v, decide (0 < k) = v := ⟨_, rfl⟩
      obtain ⟨v6, e6⟩ : ∃ v, decide (x ≤ z) = v := ⟨_, rfl⟩
      have HE1 := Lib.hid e1
      have HE3 := Lib.hid e3
      rw [e1, e2, e3, e5, e6] at HX
      clear e1 e3
      go_wp2_with fail
      have hk1 : v5 = true → (1 : Int) ≤ (k : Int) := fun h => by have := of_decide_eq_true (e5.trans h); omega
      have hk2 : v5 = true → wr.cell? (ad.add ((k - 1) * 2)) = some (.int .i64 z) := fun h => hp (of_decide_eq_true (e5.trans h))
      clear hp
      rcases or4 v1 v2 v3 v5 v6 with rfl | ⟨rfl, rfl⟩ | ⟨rfl, rfl, rfl⟩ | ⟨rfl, rfl, rfl, rfl⟩ | ⟨rfl, rfl, rfl, rfl, rfl⟩ | ⟨rfl, rfl, rfl, rfl, rfl⟩
      all_goals
        first | replace hk1 := hk1 rfl | clear hk1
        first | replace hk2 := hk2 rfl | clear hk2
        go_quiet ((first | (go_at_call 214; exact drew_first (drew_of_same fun W => refRouter_is x W _ HE1.out)) | (go_at_call 154; exact drew_first (drew_of_same fun W => refUpTo_is y 1 65535 W _ HE3.out))))
        go_wp2_with fail
        first
          | (go_ret; exact ⟨by rw [linksMay, noneBad_false _ ls k hlt (by rw [HX.out]; rfl)]; rfl, below_drewN hb _⟩)
          | (go_roundw; (case rel => exact ⟨k + 1, hlt, by go_num, none_succ HJ.out HX.out, below_drewN hb _⟩); (case measure => simp [intOf]; omega))
    · obtain rfl : k = ls.length := by omega
      have ht := noneBad_true (linkBad r) ls HJ.out
      have h4 := links_four r ls ht
      have h5 : (ls.length : Int) ≤ 4 := by omega
      have HT := Lib.hid (show linksMay r ls = true from ht)
      clear ht h4
      go_wp2_with fail
      go_ret
      exact ⟨by rw [HT.out]; rfl, hb⟩

set_option maxRecDepth 100000 in
set_option maxHeartbeats 400000 in
theorem refLsaMay_calls (a : Lsa) (A : Option Addr) (c : Nat) (w : World) (v : Bool) (hv : lsaMay a = v) (hA : RowAt encLink 2 w A a.links) (hl : a.links.length ≤ 140737488355328) :
    Calls Tryz.prog 168 #[.agg #[.int .i64 a.router, .int .i64 a.serial, .int .i64 a.age, .slice A a.links.length c]] w fun e w' => e = .returned (.bool v) ∧ Below w.heap.size w w' := by
  obtain ⟨v1, e1⟩ : ∃ v, routerOk a.router = v := ⟨_, rfl⟩
  obtain ⟨v2, e2⟩ : ∃ v, serialOk a.serial = v := ⟨_, rfl⟩
  obtain ⟨v3, e3⟩ : ∃ v, ageOk a.age = v := ⟨_, rfl⟩
  obtain ⟨v4, e4⟩ : ∃ v, linksMay a.router a.links = v := ⟨_, rfl⟩
  rw [lsaMay, e1, e2, e3, e4] at hv
  obtain ⟨W1, hW1⟩ : ∃ W1, W1 = w.alloc (.cells #[.int .i64 a.router, .int .i64 a.serial, .int .i64 a.age, .slice A a.links.length c] 91) := ⟨_, rfl⟩
  have HB : Below w.heap.size w W1 := by rw [hW1]; exact (Below.refl _ _).alloc (Nat.le_refl _) _
  have c0 : W1.cell? ⟨w.heap.size, 0, none⟩ = some (.int .i64 a.router) := by rw [hW1]; exact cell_new w _ _ 0
  have c1 : W1.cell? ⟨w.heap.size, 1, none⟩ = some (.int .i64 a.serial) := by rw [hW1]; exact cell_new w _ _ 1
  have c2 : W1.cell? ⟨w.heap.size, 2, none⟩ = some (.int .i64 a.age) := by rw [hW1]; exact cell_new w _ _ 2
  have c3 : W1.cell? ⟨w.heap.size, 3, none⟩ = some (.slice A a.links.length c) := by rw [hW1]; exact cell_new w _ _ 3
  have HA := Lib.hid (hA.below HB)
  have HL := Lib.hid hl
  have HV := Lib.hid hv
  have E1 := Lib.hid e1
  have E2 := Lib.hid (show upToB a.serial 1 2147483647 = v2 from e2)
  have E3 := Lib.hid (show upToB a.age 0 60 = v3 from e3)
  have E4 := Lib.hid e4
  clear e1 e2 e3 e4 hA hl hv
  go_enter Tryz.func168, Tryz.ntmps168
  go_wp2_with fail
  rw [← hW1]
  clear hW1
  generalize a.router = x1 at *
  generalize a.serial = x2 at *
  generalize a.age = x3 at *
  generalize a.links = ls at *
  ((with_reducible refine (refRouter_is x1 _ _ E1.out).mono ?_); rintro e w1 ⟨rfl, rfl⟩)
  rcases and4 v1 v2 v3 with rfl | ⟨rfl, rfl⟩ | ⟨rfl, rfl, rfl⟩ | ⟨rfl, rfl, rfl⟩
  · go_wp2_with fail
    go_ret
    exact ⟨by rw [← HV.out]; rfl, HB⟩
  · go_wp2_with fail
    ((with_reducible refine (refUpTo_is x2 1 2147483647 _ _ E2.out).mono ?_); rintro e w1 ⟨rfl, rfl⟩)
    go_wp2_with fail
    go_ret
    exact ⟨by rw [← HV.out]; rfl, HB⟩
  · go_wp2_with fail
    ((with_reducible refine (refUpTo_is x2 1 2147483647 _ _ E2.out).mono ?_); rintro e w1 ⟨rfl, rfl⟩)
    go_wp2_with fail
    ((with_reducible refine (refUpTo_is x3 0 60 _ _ E3.out).mono ?_); rintro e w1 ⟨rfl, rfl⟩)
    go_wp2_with fail
    go_ret
    exact ⟨by rw [← HV.out]; rfl, HB⟩
  · go_wp2_with fail
    ((with_reducible refine (refUpTo_is x2 1 2147483647 _ _ E2.out).mono ?_); rintro e w1 ⟨rfl, rfl⟩)
    go_wp2_with fail
    ((with_reducible refine (refUpTo_is x3 0 60 _ _ E3.out).mono ?_); rintro e w1 ⟨rfl, rfl⟩)
    go_wp2_with fail
    ((with_reducible refine (refLinks_calls _ _ ls x1 _ HA.out HL.out).mono ?_); rintro e w2 ⟨rfl, hb2⟩)
    go_wp2_with fail
    go_ret
    exact ⟨by rw [E4.out, ← HV.out]; rfl, HB.trans (hb2.mono HB.size)⟩
end Go.Proofs.YtpgkgpecbjjifaaGreat
