/- hello.Put and the document's PutHello. -/
import Derived.Test.YtpgkgpecbjjifaaGreatPkG
namespace Go.Proofs.YtpgkgpecbjjifaaGreat
open Go.RowKit Sha

def helloL (xs : List Int) : Nat → List Int
  | 0 => [(xs.length : Int) % 256]
  | k + 1 => helloL xs k ++ [at_ xs k % 256]
theorem helloL_length (xs : List Int) (k : Nat) : (helloL xs k).length = k + 1 := by
  induction k with
  | zero => rfl
  | succ k ih => rw [helloL, List.length_append, ih]; rfl
/-- The bytes of who is heard. -/
def hello (xs : List Int) : ByteArray := strOfNums (helloL xs xs.length)
theorem hello_zero (xs : List Int) : strOfNums (helloL xs 0) = num xs.length 1 := num_one _
theorem hello_succ (xs : List Int) (k : Nat) : strOfNums (helloL xs k) ++ num (at_ xs k) 1 = strOfNums (helloL xs (k + 1)) := by
  rw [helloL, strOfNums_append, num_one]
theorem hello_size (xs : List Int) : (hello xs).size = xs.length + 1 := by rw [hello, strOfNums_size, helloL_length]

set_option maxRecDepth 100000 in
set_option maxHeartbeats 1000000 in
theorem helloPut_true (A : Option Addr) (c : Nat) (xs : List Int) (w : World) (hv : heardMay xs = true) (hA : RowAt encInt 1 w A xs) :
    Calls Tryz.prog 193 #[.slice A xs.length c] w fun e w' => e = .returned (.tuple #[.string (hello xs), .int .i64 0]) ∧ Below w.heap.size w w' := by
  have h4 := heard_four xs hv
  have h0 : (0 : Int) ≤ (xs.length : Int) := by omega
  have h1 : (xs.length : Int) ≤ 4 := by omega
  have hm := helloMay_calls A c xs w hA (by omega)
  rw [hv] at hm
  have HM := Lib.hid hm
  have HA := Lib.hid hA
  clear hm hA
  go_enter Tryz.func193, Tryz.ntmps193
  go_wp2_with fail
  ((with_reducible refine HM.out.mono ?_); rintro e w1 ⟨rfl, HB⟩)
  go_wp2_with fail
  ((with_reducible refine (one_calls _ _).mono ?_); rintro e w1 ⟨rfl, hb1⟩)
  replace HB := HB.trans (hb1.mono HB.size)
  clear hb1
  go_wp2_with fail
  go_loopw [4, 15] (fun s i wr => ∃ k : Nat, k ≤ xs.length ∧ s = .string (strOfNums (helloL xs k)) ∧ i = .int .i64 k ∧ Below w.heap.size w wr) (fun _ i _ => xs.length - (intOf i).toNat)
  case atStart => exact ⟨0, Nat.zero_le _, by rw [hello_zero], rfl, HB⟩
  case round =>
    clear HB
    obtain ⟨k, hk, rfl, rfl, HB⟩ := hrel
    by_cases hlt : k < xs.length
    · have hlt1 : (k : Int) < (xs.length : Int) := by omega
      obtain ⟨ad, rfl, c0⟩ := (HA.out.below HB).int k hlt
      have hl := helloL_length xs k
      have ha : ∀ W : World, (Op.stringOp .add (strOfNums (helloL xs k)) (num (at_ xs k) 1)).run Tryz.prog W = .ok (.string (strOfNums (helloL xs (k + 1)))) W := fun W => by
        rw [run_string_add_sum W _ _ (by rw [strOfNums_size, num_size, hl]; omega), hello_succ]
      obtain ⟨T, hT⟩ : ∃ T, strOfNums (helloL xs (k + 1)) = T := ⟨_, rfl⟩
      rw [hT] at ha
      have HT := Lib.hid hT
      clear hl hT
      generalize at_ xs k = x at *
      go_wp2_with fail
      ((with_reducible refine (one_calls _ _).mono ?_); rintro e w1 ⟨rfl, hb1⟩)
      replace HB := HB.trans (hb1.mono HB.size)
      clear hb1
      go_wp2_with fail
      go_roundw
      case rel => exact ⟨k + 1, hlt, by rw [HT.out], by go_num, HB⟩
      case measure => simp [intOf]; omega
    · obtain rfl : k = xs.length := by omega
      go_wp2_with fail
      go_ret2
      exact ⟨rfl, HB⟩

set_option maxRecDepth 100000 in
set_option maxHeartbeats 1000000 in
theorem helloPut_false (A : Option Addr) (c : Nat) (xs : List Int) (w : World) (hv : heardMay xs = false) (hA : RowAt encInt 1 w A xs) (hl : xs.length ≤ 140737488355328) :
    Calls Tryz.prog 193 #[.slice A xs.length c] w fun e w' => e = .returned (.tuple #[.string ⟨#[]⟩, .int .i64 900]) ∧ Below w.heap.size w w' := by
  have hm := helloMay_calls A c xs w hA hl
  rw [hv] at hm
  have HM := Lib.hid hm
  clear hm hA
  go_enter Tryz.func193, Tryz.ntmps193
  go_wp2_with fail
  ((with_reducible refine HM.out.mono ?_); rintro e w1 ⟨rfl, HB⟩)
  go_wp2_with fail
  go_ret2
  exact ⟨rfl, HB⟩

set_option maxRecDepth 100000 in
set_option maxHeartbeats 1000000 in
theorem refPutHello_false (A : Option Addr) (c : Nat) (xs : List Int) (w : World) (hv : heardMay xs = false) (hA : RowAt encInt 1 w A xs) (hl : xs.length ≤ 140737488355328) :
    Calls Tryz.prog 156 #[.slice A xs.length c] w fun e w' => e = .returned (.tuple #[.string ⟨#[]⟩, .int .i64 900]) ∧ Below w.heap.size w w' := by
  have hm := refHeardMay_calls A c xs w hA hl
  rw [hv] at hm
  have HM := Lib.hid hm
  clear hm hA
  go_enter Tryz.func156, Tryz.ntmps156
  go_wp2_with fail
  ((with_reducible refine HM.out.mono ?_); rintro e w1 ⟨rfl, HB⟩)
  go_wp2_with fail
  go_ret2
  exact ⟨rfl, HB⟩

set_option maxRecDepth 100000 in
set_option maxHeartbeats 1000000 in
theorem refPutHello_true (A : Option Addr) (c : Nat) (xs : List Int) (w : World) (hv : heardMay xs = true) (hA : RowAt encInt 1 w A xs) :
    Calls Tryz.prog 156 #[.slice A xs.length c] w fun e w' => e = .returned (.tuple #[.string (hello xs), .int .i64 0]) ∧ Below w.heap.size w w' := by
  have h4 := heard_four xs hv
  have h0 : (0 : Int) ≤ (xs.length : Int) := by omega
  have h1 : (xs.length : Int) ≤ 4 := by omega
  obtain ⟨i0, hi, hz0, hz1, hz2⟩ := info_parts info_u8
  have HI := Lib.hid hi
  have Z0 := Lib.hid hz0
  have Z1 := Lib.hid hz1
  have Z2 := Lib.hid hz2
  clear hi hz0 hz1 hz2
  have hm := refHeardMay_calls A c xs w hA (by omega)
  rw [hv] at hm
  have HM := Lib.hid hm
  have HA := Lib.hid hA
  clear hm hA
  go_enter Tryz.func156, Tryz.ntmps156
  go_wp2_with fail
  ((with_reducible refine HM.out.mono ?_); rintro e w1 ⟨rfl, HB⟩)
  go_wp2_with fail
  go_loopw [4, 5] (fun v i wr => ∃ k : Nat, k ≤ xs.length ∧ i = .int .i64 k ∧ wr.ownsRow w.heap.size 5 1 v (k + 1) ((helloL xs k).map (Value.int .u8)) ∧ Below w.heap.size w wr) (fun _ i _ => xs.length - (intOf i).toNat)
  case atStart =>
    refine ⟨0, Nat.zero_le _, rfl, ?_, HB.alloc HB.size _⟩
    have h := World.ownsRow_lit (base := w.heap.size) (e := 5) (size := 1) w1 #[.int .u8 xs.length] 1 HB.size (by decide) rfl
    have h2 : (helloL xs 0).map (Value.int .u8) = [.int .u8 xs.length] := by
      rw [helloL, show (xs.length : Int) % 256 = xs.length by omega]
      rfl
    rw [h2]
    exact h
  case round =>
    clear HB
    obtain ⟨k, hk, rfl, hown, hb⟩ := hrel
    have HO := Lib.hid hown
    clear hown
    by_cases hlt : k < xs.length
    · have hlt1 : (k : Int) < (xs.length : Int) := by omega
      obtain ⟨ad, rfl, c0⟩ := (HA.out.below hb).int k hlt
      have HX := Lib.hid (show helloL xs (k + 1) = helloL xs k ++ [at_ xs k % 256] from rfl)
      generalize at_ xs k = x at *
      go_wp2_with (at_builtin; refine wpList_append_own _ rfl _ _ 140 rfl w.heap.size 5 i0 (.int .u8 0) 1 1 Tryz.underlying140 HI.out Z0.out Z1.out Z2.out rfl (by decide) _ _ _ rfl (HO.out.alloc _) ⟨wr.heap.size, 0, none⟩ 1 1 [.int .u8 (x % 256)] rfl rfl ?c1 ?c2 ?c3 ?c4 ?c5 ?_)
      case c1 => exact cell_one_new _ _ _
      case c2 => intro u hu; rw [List.mem_singleton] at hu; subst hu; rfl
      case c3 => unfold maxLen; omega
      case c4 => omega
      case c5 => have := hb.size; simp; omega
      intro v' w1 hown1 hgrow _
      have HO1 := Lib.hid hown1
      have hB1 : Below w.heap.size w w1 := (hb.alloc hb.size _).grown hgrow (by have := hb.size; simp; omega) (fun q hq => (HO.out.lt q hq).1)
      clear hown1 hgrow
      go_wp2_with fail
      go_roundw
      case rel =>
        refine ⟨k + 1, hlt, by go_num, ?_, hB1⟩
        have := HO1.out
        rw [show [Value.int .u8 (x % 256)] = [x % 256].map (Value.int .u8) from rfl, ← List.map_append, ← HX.out] at this
        exact this
      case measure => simp [intOf]; omega
    · obtain rfl : k = xs.length := by omega
      have hcv := conv_own HO.out
      go_wp2_with fail
      go_ret2
      exact ⟨rfl, hb⟩

end Go.Proofs.YtpgkgpecbjjifaaGreat
