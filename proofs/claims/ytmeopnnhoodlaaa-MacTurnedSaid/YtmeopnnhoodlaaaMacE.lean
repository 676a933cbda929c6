/- The contract of chapter 2's awake. -/
import Derived.Test.YtmeopnnhoodlaaaMacD
import Derived.KernelRfl
namespace Go.Proofs.Ytmeopnnhoodlaaa
open Go.RowKit Sha

theorem mac_key : mac ⟨#[107, 101, 121]⟩ ⟨#[84, 104, 101, 32, 113, 117, 105, 99, 107, 32, 98, 114, 111, 119, 110, 32, 102, 111, 120, 32, 106, 117, 109, 112, 115, 32, 111, 118, 101, 114, 32, 116, 104, 101, 32, 108, 97, 122, 121, 32, 100, 111, 103]⟩ = ⟨#[247, 188, 131, 244, 48, 83, 132, 36, 177, 50, 152, 230, 170, 111, 177, 67, 239, 77, 89, 161, 73, 70, 23, 89, 151, 71, 157, 188, 45, 26, 60, 216]⟩ := by kernel_rfl

/-- The known tag. -/
def tagKey : ByteArray := ⟨#[247, 188, 131, 244, 48, 83, 132, 36, 177, 50, 152, 230, 170, 111, 177, 67, 239, 77, 89, 161, 73, 70, 23, 89, 151, 71, 157, 188, 45, 26, 60, 216]⟩
theorem tagKey_size : (tagKey.size : Int) = 32 := by kernel_rfl
theorem tagKey_head : tagKey.extract 0 4 = ⟨#[247, 188, 131, 244]⟩ := by kernel_rfl
theorem tagKey_last : tagKey.extract 28 tagKey.size = ⟨#[45, 26, 60, 216]⟩ := by kernel_rfl
theorem tagKey_tail : (tagKey.extract 1 tagKey.size).size = 31 := by kernel_rfl

theorem macTag_key (w : World) : Calls Try.prog 17 #[.string ⟨#[107, 101, 121]⟩, .string ⟨#[84, 104, 101, 32, 113, 117, 105, 99, 107, 32, 98, 114, 111, 119, 110, 32, 102, 111, 120, 32, 106, 117, 109, 112, 115, 32, 111, 118, 101, 114, 32, 116, 104, 101, 32, 108, 97, 122, 121, 32, 100, 111, 103]⟩] w fun e w' => e = .returned (.tuple #[.string tagKey, .int .i64 0]) ∧ Below w.heap.size w w' := by
  have h : mac ⟨#[107, 101, 121]⟩ ⟨#[84, 104, 101, 32, 113, 117, 105, 99, 107, 32, 98, 114, 111, 119, 110, 32, 102, 111, 120, 32, 106, 117, 109, 112, 115, 32, 111, 118, 101, 114, 32, 116, 104, 101, 32, 108, 97, 122, 121, 32, 100, 111, 103]⟩ = tagKey := mac_key
  rw [← h]
  exact macTag_ok _ _ w (by decide) (by decide)

theorem macTag_none (w : World) : Calls Try.prog 17 #[.string ⟨#[]⟩, .string ⟨#[120]⟩] w fun e w' => e = .returned (.tuple #[.string ⟨#[]⟩, .int .i64 200]) ∧ w = w' :=
  macTag_bad _ _ w (by decide) (by decide)

theorem macMake_33 (W : World) : (Instr.makeSlice 25 (.int .i64 33) (.int .i64 33)).run Try.prog W = .ok (.slice (some ⟨W.heap.size, 0, none⟩) 33 33) (W.alloc (.cells (byts (List.replicate 33 0)) 5)) :=
  macMake_bytes 33 (by decide) W

theorem macTag_long (w : World) (u : ByteArray) (h : u.size = 33) : Calls Try.prog 17 #[.string u, .string ⟨#[120]⟩] w fun e w' => e = .returned (.tuple #[.string ⟨#[]⟩, .int .i64 200]) ∧ w = w' :=
  macTag_bad _ _ w ((secretOk_iff_not u).mpr (by omega)) (by omega)

set_option maxRecDepth 100000 in
set_option maxHeartbeats 1000000 in
theorem macAwake_calls (w : World) :
    Calls Try.prog 20 #[] w fun e w' => e = .returned (.bool true) ∧ Below w.heap.size w w' := by
  obtain ⟨Z, hZ, hz⟩ : ∃ Z : List Int, Z = List.replicate 33 0 ∧ Z.length = 33 := ⟨_, rfl, List.length_replicate⟩
  have hmk := macMake_33
  rw [← hZ] at hmk
  have hcv : ∀ W : World, (convert 25 9 (.slice (some ⟨W.heap.size, 0, none⟩) 33 33)).run Try.prog (W.alloc (.cells (byts Z) 5)) = .ok (.string (strOfNums Z)) (W.alloc (.cells (byts Z) 5)) :=
    fun W => macConv_len (w := W.alloc _) hz (heap_alloc_new _ _) (Below.refl _ _)
  have HS := Lib.hid (show (strOfNums Z).size = 33 by rw [strOfNums_size, hz])
  clear hZ hz
  generalize strOfNums Z = u at *
  obtain ⟨T, hT⟩ : ∃ T, T = tagKey := ⟨_, rfl⟩
  have t0 := tagKey_size
  have t1 := tagKey_head
  have t2 := tagKey_last
  have t3 := tagKey_tail
  have hc := macTag_key
  rw [← hT] at t0 t1 t2 t3 hc
  clear hT
  have T3 := Lib.hid t3
  have HC := Lib.hid hc
  clear t3 hc
  go_enter Try.func20, Try.ntmps20
  go_wp2_with fail
  ((with_reducible refine (HC.out _).mono ?_); rintro e w1 ⟨rfl, hb1⟩)
  go_wp2_with fail
  ((with_reducible refine (macTag_none _).mono ?_); rintro e w2 ⟨rfl, rfl⟩)
  go_wp2_with fail
  ((with_reducible refine (macTag_long _ _ HS.out).mono ?_); rintro e w3 ⟨rfl, rfl⟩)
  have hb2 := hb1.alloc hb1.size (.cells (byts Z) 5)
  clear hb1
  go_wp2_with fail
  ((with_reducible refine (lawNum_calls _ _).mono ?_); rintro e w4 ⟨rfl, rfl⟩)
  go_wp2_with fail
  ((with_reducible refine (lawNum_calls _ _).mono ?_); rintro e w4 ⟨rfl, rfl⟩)
  go_wp2_with fail
  ((with_reducible refine (lawNum_calls _ _).mono ?_); rintro e w4 ⟨rfl, rfl⟩)
  go_wp2_with fail
  ((with_reducible refine (same_self T _ (by omega)).mono ?_); rintro e w4 ⟨rfl, hb3⟩)
  have hb4 := hb2.trans (hb3.mono hb2.size)
  clear hb2 hb3
  go_wp2_with fail
  ((with_reducible refine (same_unlike T _ _ (by have := T3.out; omega)).mono ?_); rintro e w5 ⟨rfl, hb5⟩)
  go_wp2_with fail
  go_ret
  exact ⟨rfl, hb4.trans (hb5.mono hb4.size)⟩
end Go.Proofs.Ytmeopnnhoodlaaa
