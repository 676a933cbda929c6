/- The contracts of package lsa: May, body. -/
import Derived.Test.YtpgkgpecbjjifaaGreatPkC
import Derived.Deep.RegionHeld3
namespace Go.Proofs.YtpgkgpecbjjifaaGreat
open Go.RowKit Sha

theorem cell_later {w w' : World} {p : Addr} {v : Value} (hb : Below w.heap.size w w') (h : w.cell? p = some v) : w'.cell? p = some v := (hb.cell (World.block_lt_of_cell? w _ h)).trans h

theorem cell_drew {w w' : World} {p : Addr} {v : Value} (hb : Below w.drew.heap.size w.drew w') (h : w.cell? p = some v) : w'.cell? p = some v := cell_later hb h

def lsaMay (a : Lsa) : Bool := routerOk a.router && serialOk a.serial && ageOk a.age && linksMay a.router a.links

/-- The ways through 'v1 && v2 && v3 && v4'. -/
theorem and4 (v1 v2 v3 : Bool) : v1 = false ∨ (v1 = true ∧ v2 = false) ∨ (v1 = true ∧ v2 = true ∧ v3 = false) ∨ (v1 = true ∧ v2 = true ∧ v3 = true) := by
  cases v1 <;> cases v2 <;> cases v3 <;> simp

set_option maxRecDepth 100000 in
set_option maxHeartbeats 400000 in
theorem lsaMay_calls (a : Lsa) (A : Option Addr) (c : Nat) (w : World) (v : Bool) (hv : lsaMay a = v) (hA : RowAt encLink 2 w A a.links) (hl : a.links.length ≤ 140737488355328) :
    Calls Tryz.prog 104 #[.agg #[.int .i64 a.router, .int .i64 a.serial, .int .i64 a.age, .slice A a.links.length c]] w fun e w' => e = .returned (.bool v) ∧ Below w.heap.size w w' := by
  obtain ⟨v1, e1⟩ : ∃ v, routerOk a.router = v := ⟨_, rfl⟩
  obtain ⟨v2, e2⟩ : ∃ v, serialOk a.serial = v := ⟨_, rfl⟩
  obtain ⟨v3, e3⟩ : ∃ v, ageOk a.age = v := ⟨_, rfl⟩
  obtain ⟨v4, e4⟩ : ∃ v, linksMay a.router a.links = v := ⟨_, rfl⟩
  rw [lsaMay, e1, e2, e3, e4] at hv
  obtain ⟨W1, hW1⟩ : ∃ W1, W1 = w.alloc (.cells #[.int .i64 a.router, .int .i64 a.serial, .int .i64 a.age, .slice A a.links.length c] 91) := ⟨_, rfl⟩
  have hb : Below w.heap.size w W1 := by rw [hW1]; exact (Below.refl _ _).alloc (Nat.le_refl _) _
  have c0 : W1.cell? ⟨w.heap.size, 0, none⟩ = some (.int .i64 a.router) := by rw [hW1]; exact cell_new w _ _ 0
  have c1 : W1.cell? ⟨w.heap.size, 1, none⟩ = some (.int .i64 a.serial) := by rw [hW1]; exact cell_new w _ _ 1
  have c2 : W1.cell? ⟨w.heap.size, 2, none⟩ = some (.int .i64 a.age) := by rw [hW1]; exact cell_new w _ _ 2
  have c3 : W1.cell? ⟨w.heap.size, 3, none⟩ = some (.slice A a.links.length c) := by rw [hW1]; exact cell_new w _ _ 3
  have HA := Lib.hid (hA.below hb)
  have HL := Lib.hid hl
  have HV := Lib.hid hv
  have E1 := Lib.hid e1
  have E2 := Lib.hid e2
  have E3 := Lib.hid e3
  have E4 := Lib.hid e4
  clear e1 e2 e3 e4 hA hl hv
  go_enter Tryz.func104, Tryz.ntmps104
  go_wp2_with fail
  rw [← hW1]
  clear hW1
  generalize a.router = x1 at *
  generalize a.serial = x2 at *
  generalize a.age = x3 at *
  generalize a.links = ls at *
  ((with_reducible refine (router_is x1 _ _ E1.out).mono ?_); rintro e w1 ⟨rfl, rfl⟩)
  rcases and4 v1 v2 v3 with rfl | ⟨rfl, rfl⟩ | ⟨rfl, rfl, rfl⟩ | ⟨rfl, rfl, rfl⟩
  · go_wp2_with fail
    go_ret
    exact ⟨by rw [← HV.out]; rfl, hb⟩
  · go_wp2_with fail
    ((with_reducible refine (serial_is x2 _ _ E2.out).mono ?_); rintro e w1 ⟨rfl, rfl⟩)
    go_wp2_with fail
    go_ret
    exact ⟨by rw [← HV.out]; rfl, hb⟩
  · go_wp2_with fail
    ((with_reducible refine (serial_is x2 _ _ E2.out).mono ?_); rintro e w1 ⟨rfl, rfl⟩)
    go_wp2_with fail
    ((with_reducible refine (age_is x3 _ _ E3.out).mono ?_); rintro e w1 ⟨rfl, rfl⟩)
    go_wp2_with fail
    go_ret
    exact ⟨by rw [← HV.out]; rfl, hb⟩
  · go_wp2_with fail
    ((with_reducible refine (serial_is x2 _ _ E2.out).mono ?_); rintro e w1 ⟨rfl, rfl⟩)
    go_wp2_with fail
    ((with_reducible refine (age_is x3 _ _ E3.out).mono ?_); rintro e w1 ⟨rfl, rfl⟩)
    go_wp2_with fail
    ((with_reducible refine (links_calls _ _ ls x1 _ HA.out HL.out).mono ?_); rintro e w2 ⟨rfl, hb2⟩)
    go_wp2_with fail
    go_ret
    exact ⟨by rw [E4.out, ← HV.out]; rfl, hb.trans (hb2.mono hb.size)⟩

/-- An Lsa's bytes, but its Age and its sum: the links so far. -/
def bodyTo (a : Lsa) : Nat → ByteArray
  | 0 => num a.router 1 ++ num a.serial 4 ++ num a.links.length 1
  | k + 1 => bodyTo a k ++ (num (at_ a.links k).to 1 ++ num (at_ a.links k).cost 2)
def body (a : Lsa) : ByteArray := bodyTo a a.links.length
theorem bodyTo_size (a : Lsa) (k : Nat) : (bodyTo a k).size = 6 + 3 * k := by
  induction k with
  | zero => simp only [bodyTo, ByteArray.size_append, num_size]
  | succ k ih => simp only [bodyTo, ByteArray.size_append, num_size, ih]; omega

set_option maxRecDepth 100000 in
set_option maxHeartbeats 400000 in
theorem body_calls (a : Lsa) (A : Option Addr) (c b : Nat) (w : World) (hA : RowAt encLink 2 w A a.links) (hl : a.links.length ≤ 4)
    (c0 : w.cell? ⟨b, 0, none⟩ = some (.int .i64 a.router)) (c1 : w.cell? ⟨b, 1, none⟩ = some (.int .i64 a.serial)) (c3 : w.cell? ⟨b, 3, none⟩ = some (.slice A a.links.length c)) :
    Calls Tryz.prog 222 #[.pointer (some ⟨b, 0, none⟩)] w fun e w' => e = .returned (.string (body a)) ∧ Below w.heap.size w w' := by
  have l0 : (0 : Int) ≤ (a.links.length : Int) := by omega
  have l1 : (a.links.length : Int) ≤ 4 := by omega
  obtain ⟨B1, hB1⟩ : ∃ B1, B1 = num a.router 1 ++ num a.serial 4 := ⟨_, rfl⟩
  have ha1 : ∀ W : World, (Op.stringOp .add (num a.router 1) (num a.serial 4)).run Tryz.prog W = .ok (.string B1) W := fun W => by
    rw [run_string_add_sum W _ _ (by rw [num_size, num_size]; omega), hB1]
  have ha2 : ∀ W : World, (Op.stringOp .add B1 (num a.links.length 1)).run Tryz.prog W = .ok (.string (bodyTo a 0)) W := fun W => by
    rw [run_string_add_sum W _ _ (by rw [hB1, ByteArray.size_append, num_size, num_size, num_size]; omega), hB1]
    rfl
  clear hB1
  go_enter Tryz.func222, Tryz.ntmps222
  go_wp2_with fail
  have HB : Below w.heap.size w w := Below.refl _ _
  go_region_held3 (fun w' => w'.cell? ⟨b, 0, none⟩ = some (.int .i64 a.router) ∧ w'.cell? ⟨b, 1, none⟩ = some (.int .i64 a.serial) ∧ w'.cell? ⟨b, 3, none⟩ = some (.slice A a.links.length c)) (first | exact ⟨c0, c1, c3⟩) (first | (go_simp; go_at_call 135; (with_reducible refine (one_calls _ _).mono ?_); rintro e w1 ⟨rfl, hb1⟩; first | (replace c0 := cell_later hb1 c0; replace c1 := cell_later hb1 c1; replace c3 := cell_later hb1 c3; replace HB := HB.trans (hb1.mono HB.size)) | (replace c0 := cell_drew hb1 c0; replace c1 := cell_drew hb1 c1; replace c3 := cell_drew hb1 c3; replace HB := HB.drew.trans (hb1.mono HB.drew.size)); clear hb1) | (go_simp; go_at_call 136; (with_reducible refine (four_bytes_calls _ _).mono ?_); rintro e w1 ⟨rfl, hb1⟩; first | (replace c0 := cell_later hb1 c0; replace c1 := cell_later hb1 c1; replace c3 := cell_later hb1 c3; replace HB := HB.trans (hb1.mono HB.size)) | (replace c0 := cell_drew hb1 c0; replace c1 := cell_drew hb1 c1; replace c3 := cell_drew hb1 c3; replace HB := HB.drew.trans (hb1.mono HB.drew.size)); clear hb1))
  go_wp2_with fail
  clear ha1 ha2 c0 c1 c3
  go_loopw [3, 29] (fun s i wr => ∃ k : Nat, k ≤ a.links.length ∧ s = .string (bodyTo a k) ∧ i = .int .i64 k ∧ Below w.heap.size w wr) (fun _ i _ => a.links.length - (intOf i).toNat)
  case atStart => exact ⟨0, Nat.zero_le _, rfl, rfl, HB⟩
  case round =>
    obtain ⟨k, hk, rfl, rfl, hb⟩ := hrel
    clear HB
    by_cases hlt : k < a.links.length
    · have hlt1 : (k : Int) < (a.links.length : Int) := by omega
      obtain ⟨ad, rfl, c0, c1⟩ := (hA.below hb).link k hlt
      obtain ⟨f0, f1⟩ := pair_new wr (.int .i64 (at_ a.links k).to) (.int .i64 (at_ a.links k).cost) 179
      have HB : Below w.heap.size w (wr.alloc (.cells #[.int .i64 (at_ a.links k).to, .int .i64 (at_ a.links k).cost] 179)) := hb.alloc hb.size _
      obtain ⟨B2, hB2⟩ : ∃ B2, B2 = num (at_ a.links k).to 1 ++ num (at_ a.links k).cost 2 := ⟨_, rfl⟩
      have hs := bodyTo_size a k
      have ha1 : ∀ W : World, (Op.stringOp .add (num (at_ a.links k).to 1) (num (at_ a.links k).cost 2)).run Tryz.prog W = .ok (.string B2) W := fun W => by
        rw [run_string_add_sum W _ _ (by rw [num_size, num_size]; omega), hB2]
      have ha2 : ∀ W : World, (Op.stringOp .add (bodyTo a k) B2).run Tryz.prog W = .ok (.string (bodyTo a (k + 1))) W := fun W => by
        rw [run_string_add_sum W _ _ (by rw [hB2, ByteArray.size_append, num_size, num_size, hs]; omega), hB2]
        rfl
      obtain ⟨T, hT⟩ : ∃ T, bodyTo a (k + 1) = T := ⟨_, rfl⟩
      rw [hT] at ha2
      have HT := Lib.hid hT
      clear hB2 hs hT
      generalize (at_ a.links k).to = x at *
      generalize (at_ a.links k).cost = y at *
      go_wp2_with fail
      clear c0 c1
      generalize wr.alloc (.cells #[.int .i64 x, .int .i64 y] 179) = W1 at *
      go_region_held3 (fun w' => w'.cell? ⟨wr.heap.size, 0, none⟩ = some (.int .i64 x) ∧ w'.cell? ⟨wr.heap.size, 1, none⟩ = some (.int .i64 y)) (first | exact ⟨f0, f1⟩) (first | (go_simp; go_at_call 135; (with_reducible refine (one_calls _ _).mono ?_); rintro e w1 ⟨rfl, hb1⟩; first | (replace f0 := cell_later hb1 f0; replace f1 := cell_later hb1 f1; replace HB := HB.trans (hb1.mono HB.size)) | (replace f0 := cell_drew hb1 f0; replace f1 := cell_drew hb1 f1; replace HB := HB.drew.trans (hb1.mono HB.drew.size)); clear hb1) | (go_simp; go_at_call 197; (with_reducible refine (two_calls _ _).mono ?_); rintro e w1 ⟨rfl, hb1⟩; first | (replace f0 := cell_later hb1 f0; replace f1 := cell_later hb1 f1; replace HB := HB.trans (hb1.mono HB.size)) | (replace f0 := cell_drew hb1 f0; replace f1 := cell_drew hb1 f1; replace HB := HB.drew.trans (hb1.mono HB.drew.size)); clear hb1))
      go_wp2_with fail
      go_roundw
      case rel => exact ⟨k + 1, hlt, by rw [HT.out], by go_num, HB⟩
      case measure => simp [intOf]; omega
    · obtain rfl : k = a.links.length := by omega
      go_wp2_with fail
      go_ret
      exact ⟨rfl, hb⟩
end Go.Proofs.YtpgkgpecbjjifaaGreat
