/- The contract of the reference's Num: a number in so many bytes. -/
import Derived.Test.YtpgkgpecbjjifaaGreatShaE
namespace Go.Proofs.YtpgkgpecbjjifaaGreat
open Go.RowKit Sha

theorem info_u8 : (Tryz.prog.info? 5).map (fun i => (i.zero, i.size, i.bytes)) = some (some (.int .u8 0), 1, 1) := by kernel_rfl

/-- A slice of bytes of the call's own, as a text. -/
theorem conv_own {w : World} {base n : Nat} {v : Value} {l : List Int} (h : w.ownsRow base 5 1 v n (l.map (Value.int .u8))) :
    (convert 140 9 v).run Tryz.prog w = .ok (.string (strOfNums l)) w := by
  obtain ⟨hl, h⟩ := h
  have hl' : l.length = n := by simpa using hl
  rcases h with ⟨rfl, rfl⟩ | ⟨g, cap, cur, rfl, hg, hh, hn, hc, hs, ht⟩
  · have : l = [] := List.length_eq_zero_iff.1 hl'
    subst this
    exact run_convert_bytes_nil w 140 5 Tryz.underlying140 Tryz.underlying5 0 0 9 Tryz.underlying9
  · refine run_convert_bytes_arg w 140 5 Tryz.underlying140 Tryz.underlying5 g 0 n cap l hl' (fun i hi => ?_) 9 Tryz.underlying9
    rw [Nat.zero_add, cell_of_row w g i _ _ _ hh, ← Array.getElem?_toList]
    have e : (cur.toList.take (n * 1))[i]? = (l.map (Value.int .u8))[i]? := by rw [ht]
    have hil : i < l.length := by omega
    rw [List.getElem?_take, if_pos (by omega), List.getElem?_map, List.getElem?_eq_getElem hil] at e
    rw [e, List.getD_eq_getElem?_getD, List.getElem?_eq_getElem hil]
    rfl

set_option maxRecDepth 100000 in
set_option maxHeartbeats 400000 in
theorem num_calls (x : Int) (k : Nat) (w : World) (hk : k ≤ 8) :
    Calls Tryz.prog 23 #[.int .i64 x, .int .i64 k] w fun e w' => e = .returned (.string (num x k)) ∧ Below w.heap.size w w' := by
  obtain ⟨i0, hi, hz0, hz1, hz2⟩ := info_parts info_u8
  have HI := Lib.hid hi
  have Z0 := Lib.hid hz0
  have Z1 := Lib.hid hz1
  have Z2 := Lib.hid hz2
  clear hi hz0 hz1 hz2
  have hk1 : (k : Int) ≤ 8 := by omega
  have hk0 : 0 ≤ (k : Int) := by omega
  go_enter Tryz.func23, Tryz.ntmps23
  go_wp2_with fail
  go_loopw [5, 6] (fun v i wr => ∃ r : Nat, r ≤ k ∧ i = .int .i64 ((k : Int) - 1 - r) ∧ wr.ownsRow w.heap.size 5 1 v r ((numTo x k r).map (Value.int .u8)) ∧ Below w.heap.size w wr) (fun _ i _ => (intOf i + 1).toNat)
  case atStart =>
    refine ⟨0, by omega, ?_, ?_, Below.refl _ _⟩
    · simp
    · exact ⟨rfl, .inl ⟨rfl, rfl⟩⟩
  case round =>
    obtain ⟨r, hr, rfl, hown, hb⟩ := hrel
    have HO := Lib.hid hown
    clear hown
    by_cases hlt : r < k
    · have h1 : 0 ≤ (k : Int) - 1 - r := by omega
      have h2 : (k : Int) - 1 - r ≤ 7 := by omega
      have ht : ((k : Int) - 1 - r).toNat = k - 1 - r := by omega
      go_wp2_with (at_builtin; refine wpList_append_own _ rfl _ _ 140 rfl w.heap.size 5 i0 (.int .u8 0) 1 1 Tryz.underlying140 HI.out Z0.out Z1.out Z2.out rfl (by decide) _ _ _ rfl (HO.out.alloc _) ⟨wr.heap.size, 0, none⟩ 1 1 [.int .u8 (x / 2 ^ (8 * (k - 1 - r)) % 256)] rfl rfl ?c1 ?c2 ?c3 ?c4 ?c5 ?_)
      case c1 => exact cell_one_new _ _ _
      case c2 => intro u hu; rw [List.mem_singleton] at hu; subst hu; rfl
      case c3 => unfold maxLen; omega
      case c4 => omega
      case c5 => have := hb.size; simp; omega
      intro v' w1 hown1 hgrow _
      have HO1 := Lib.hid hown1
      have hB1 : Below w.heap.size w w1 := (hb.alloc hb.size _).grown hgrow (by have := hb.size; simp; omega) (fun q hq => (HO.out.lt q hq).1)
      clear hown1 hgrow
      go_wp2_with fail
      go_roundw
      case rel =>
        refine ⟨r + 1, by omega, ?_, ?_, hB1⟩
        · rw [show (k : Int) - 1 - ((r + 1 : Nat) : Int) = (k : Int) - 1 - r - 1 by omega]
        · have := HO1.out
          rw [show [Value.int .u8 (x / 2 ^ (8 * (k - 1 - r)) % 256)] = [x / 2 ^ (8 * (k - 1 - r)) % 256].map (Value.int .u8) from rfl, ← List.map_append] at this
          exact this
      case measure => simp [intOf]; omega
    · obtain rfl : r = k := by omega
      have h1 : ¬ 0 ≤ (r : Int) - 1 - r := by omega
      have hcv := conv_own HO.out
      go_wp2_with fail
      go_ret
      exact ⟨rfl, hb⟩
end Go.Proofs.YtpgkgpecbjjifaaGreat
