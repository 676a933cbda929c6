/- The contract of the reference's block. -/
import Derived.Test.YtpgkgpecbjjifaaGreatShaH
import Derived.Deep.AppendLies
import Derived.Deep.RegionLaw
namespace Go.Proofs.YtpgkgpecbjjifaaGreat
open Go.RowKit Sha

theorem cell_new_at (w : World) (n j : Nat) (c : Array Value) (t : TypeId) (h : n = w.heap.size) : (w.alloc (.cells c t)).cell? ⟨n, j, none⟩ = c[j]? := by
  subst h
  exact cell_of_row _ _ j _ _ _ (heap_alloc_new w _)

/-- A call's end: a slice of eight words in memory of its own; what was there stands. -/
def Eight (L : List Int) (w : World) (en : Ending) (w' : World) : Prop :=
  ∃ b' c', en = .returned (.slice (some ⟨b', 0, none⟩) 8 c') ∧ (∀ j, j < 8 → w'.cell? ⟨b', j, none⟩ = some (.int .u32 (L.getD j 0))) ∧ Below w.heap.size w w'

theorem one_mem (k : IntKind) (n : Int) : ∀ u ∈ [Value.int k n], u.oneCell' = true := by
  intro u hu
  rw [List.mem_singleton] at hu
  subst hu
  rfl

theorem addTo_all' (v x : List Int) (h : v.length = 8) : addTo v x 8 = sumTo v x 8 := by
  have := addTo_all v x
  rwa [h] at this

theorem info_u32 : (Tryz.prog.info? 215).map (fun i => (i.zero, i.size, i.bytes)) = some (some (.int .u32 0), 1, 4) := by kernel_rfl

set_option maxRecDepth 100000 in
set_option maxHeartbeats 4000000 in
theorem block_calls (H : List Int) (s : ByteArray) (b c : Nat) (w : World) (hH : H.length = 8) (hs : s.size = 64) (hb : b < w.heap.size)
    (hc : ∀ j, j < 8 → w.cell? ⟨b, j, none⟩ = some (.int .u32 (H.getD j 0))) :
    Calls Tryz.prog 146 #[.slice (some ⟨b, 0, none⟩) 8 c, .string s] w
      (Eight (mixL H s) w) := by
  have HC := Lib.hid hc
  have Hs := Lib.hid hs
  have HH := Lib.hid hH
  clear hc hs hH
  have hmk : ∀ w, (Instr.makeSlice 216 (.int .i64 64) (.int .i64 64)).run Tryz.prog w = .ok (.slice (some ⟨w.heap.size, 0, none⟩) 64 64) (w.alloc (.cells (cells s 0) 215)) := fun w => by kernel_rfl
  go_enter Tryz.func146, Tryz.ntmps146
  go_wp2_with fail
  go_loopw [6] (fun i wr => ∃ k : Nat, k ≤ 16 ∧ i = .int .i64 k ∧ wr.heap[w.heap.size]? = some (.cells (cells s k) 215 (0, 0)) ∧ Below w.heap.size w wr) (fun i _ => 16 - (intOf i).toNat)
  case atStart => exact ⟨0, by omega, rfl, by rw [heap_alloc_new], (Below.refl _ _).alloc (Nat.le_refl _) _⟩
  case round =>
    obtain ⟨k, hk, rfl, q0, hb0⟩ := hrel
    have Q0 := Lib.hid q0
    clear q0
    by_cases hlt : k < 16
    · have hlt1 : (k : Int) < 16 := by omega
      have m1 : IntKind.i64.wrap (4 * (k : Int)) = 4 * (k : Int) := IntWalk.i64_in _ (by omega)
      have m2 : IntKind.i64.wrap (4 * (k : Int) + 1) = 4 * (k : Int) + 1 := IntWalk.i64_in _ (by omega)
      have m3 : IntKind.i64.wrap (4 * (k : Int) + 2) = 4 * (k : Int) + 2 := IntWalk.i64_in _ (by omega)
      have m4 : IntKind.i64.wrap (4 * (k : Int) + 3) = 4 * (k : Int) + 3 := IntWalk.i64_in _ (by omega)
      have g0 : 4 * (k : Int) < (s.size : Int) := by rw [Hs.out]; omega
      have g1 : 4 * (k : Int) + 1 < (s.size : Int) := by rw [Hs.out]; omega
      have g2 : 4 * (k : Int) + 2 < (s.size : Int) := by rw [Hs.out]; omega
      have g3 : 4 * (k : Int) + 3 < (s.size : Int) := by rw [Hs.out]; omega
      have n0 : 0 ≤ 4 * (k : Int) := by omega
      have n1 : 0 ≤ 4 * (k : Int) + 1 := by omega
      have n2 : 0 ≤ 4 * (k : Int) + 2 := by omega
      have n3 : 0 ≤ 4 * (k : Int) + 3 := by omega
      have hlt2 : (k : Int) < 64 := by omega
      have hcell : wr.cell? ⟨w.heap.size, k, none⟩ = some (.int .u32 0) := by rw [cell_of_row wr _ k _ _ _ Q0.out, cells_at s k (by omega)]
      have hfr : wr.frozen? ⟨w.heap.size, k, none⟩ = false := frozen_of_row wr _ k _ _ Q0.out
      go_wp2_with fail
      refine region_tail 32 (by kernel_rfl) (by kernel_rfl) ?_
      simp only [List.take_succ_cons, List.take_zero, List.drop_succ_cons, List.drop_zero]
      repeat still_step
      refine wpStill_nil ?_
      go_wp2_with fail
      go_roundw
      case rel =>
        refine ⟨k + 1, by omega, by go_num, ?_, (hb0.drew).setCell (Nat.le_refl _) _⟩
        refine (heap_setCell_same wr _ k _ _ _ Q0.out).trans ?_
        rw [cells_set s k (by omega) _ ?_]
        rw [if_pos hlt]
        exact word_eq s (4 * k) (by have := Hs.out; omega) (by have := Hs.out; omega) (by have := Hs.out; omega) (by have := Hs.out; omega)
      case measure => simp [intOf]; omega
    · obtain rfl : k = 16 := by omega
      rw [show (((16 : Nat) : Int)) = 16 from rfl]
      go_wp2_with fail
      go_loopw [7, 8, 9] (fun i _ _ wr => ∃ k : Nat, 16 ≤ k ∧ k ≤ 64 ∧ i = .int .i64 k ∧ wr.heap[w.heap.size]? = some (.cells (cells s k) 215 (0, 0)) ∧ Below w.heap.size w wr) (fun i _ _ _ => 64 - (intOf i).toNat)
      case atStart => exact ⟨16, by omega, by omega, rfl, Q0.out, hb0⟩
      case round =>
        obtain ⟨k, hk16, hk64, rfl, q1, hb1⟩ := hrel
        have Q1 := Lib.hid q1
        clear q1 Q0
        by_cases hlt6 : k < 64
        · have hlt1 : (k : Int) < 64 := by omega
          have x15 : IntKind.i64.wrap ((k : Int) - 15) = (k : Int) - 15 := IntWalk.i64_in _ (by omega)
          have x2 : IntKind.i64.wrap ((k : Int) - 2) = (k : Int) - 2 := IntWalk.i64_in _ (by omega)
          have x16 : IntKind.i64.wrap ((k : Int) - 16) = (k : Int) - 16 := IntWalk.i64_in _ (by omega)
          have x7 : IntKind.i64.wrap ((k : Int) - 7) = (k : Int) - 7 := IntWalk.i64_in _ (by omega)
          have y15 : (0 : Int) ≤ (k : Int) - 15 := by omega
          have y2 : (0 : Int) ≤ (k : Int) - 2 := by omega
          have y16 : (0 : Int) ≤ (k : Int) - 16 := by omega
          have y7 : (0 : Int) ≤ (k : Int) - 7 := by omega
          have v7 : (7 : Int) ≤ (k : Int) := by omega
          have v16 : (16 : Int) ≤ (k : Int) := by omega
          have v15 : (15 : Int) ≤ (k : Int) := by omega
          have v2 : (2 : Int) ≤ (k : Int) := by omega
          have t7 : (k : Int) < 71 := by omega
          have t16 : (k : Int) < 80 := by omega
          have t15 : (k : Int) < 79 := by omega
          have t2 : (k : Int) < 66 := by omega
          have z15 : (k : Int) - 15 < 64 := by omega
          have z2 : (k : Int) - 2 < 64 := by omega
          have z16 : (k : Int) - 16 < 64 := by omega
          have z7 : (k : Int) - 7 < 64 := by omega
          have e16 : ((k : Int) - 16).toNat = k - 16 := by omega
          have e7 : ((k : Int) - 7).toNat = k - 7 := by omega
          have e15 : ((k : Int) - 15).toNat = k - 15 := by omega
          have e2 : ((k : Int) - 2).toNat = k - 2 := by omega
          have hget : ∀ j, j < k → wr.cell? ⟨w.heap.size, j, none⟩ = some (.int .u32 ((sched s k).getD j 0)) := fun j h => by rw [cell_of_row wr _ j _ _ _ Q1.out, cells_get s k j h]
          have c15 := hget (k - 15) (by omega)
          have c2 := hget (k - 2) (by omega)
          have c16 := hget (k - 16) (by omega)
          have c7 := hget (k - 7) (by omega)
          clear hget
          have hcell : wr.cell? ⟨w.heap.size, k, none⟩ = some (.int .u32 0) := by rw [cell_of_row wr _ k _ _ _ Q1.out, cells_at s k (by omega)]
          have hfr : wr.frozen? ⟨w.heap.size, k, none⟩ = false := frozen_of_row wr _ k _ _ Q1.out
          go_wp2_with fail
          go_quiet ((go_at_call 209; exact drew_first (fun W => rot_calls _ _ W (by decide) (by decide))))
          go_wp2_with fail
          go_quiet ((go_at_call 209; exact drew_later (fun W => rot_calls _ _ W (by decide) (by decide))))
          go_wp2_with fail
          refine region_tail 18 (by kernel_rfl) (by kernel_rfl) ?_
          simp only [List.take_succ_cons, List.take_zero, List.drop_succ_cons, List.drop_zero]
          repeat still_step
          refine wpStill_nil ?_
          go_wp2_with fail
          go_roundw
          case rel =>
            refine ⟨k + 1, by omega, by omega, by go_num, ?_, (below_drewN hb1 _).drew.setCell (Nat.le_refl _) _⟩
            refine (heap_setCell_same wr _ k _ _ _ Q1.out).trans ?_
            rw [cells_set s k (by omega) _ (by rw [if_neg (by omega)]; rfl)]
          case measure => simp [intOf]; omega
        · obtain rfl : k = 64 := by omega
          rw [show (((64 : Nat) : Int)) = 64 from rfl]
          go_wp2_with fail
          ((with_reducible refine (rounds_calls _).mono ?_); rintro e w2 ⟨rfl, hw2⟩)
          have q2 : w2.heap[w.heap.size]? = some (.cells (cells s 64) 215 (0, 0)) := by
            rw [← hw2, Below.heap_alloc _ _ _ (Array.getElem?_eq_some_iff.1 Q1.out).1]; exact Q1.out
          have k2 : w2.heap[wr.heap.size]? = some (.cells (ints K) 215 (0, 0)) := by rw [← hw2, heap_alloc_new]
          have hb2 : Below w.heap.size w w2 := by rw [← hw2]; exact hb1.alloc hb1.size _
          have hz2 : w.heap.size < wr.heap.size := (Array.getElem?_eq_some_iff.1 Q1.out).1
          have hz3 : wr.heap.size < w2.heap.size := (Array.getElem?_eq_some_iff.1 k2).1
          clear hw2
          obtain ⟨KB, hKB⟩ : ∃ KB, KB = wr.heap.size := ⟨_, rfl⟩
          rw [← hKB] at k2 hz2 hz3 ⊢
          have Q2 := Lib.hid q2
          have K2 := Lib.hid k2
          clear hKB q2 k2 Q1 hb1
          obtain ⟨i0, hi, hz0, hz1, hz2'⟩ := info_parts info_u32
          have HI := Lib.hid hi
          have Z0 := Lib.hid hz0
          have Z1 := Lib.hid hz1
          have Z2 := Lib.hid hz2'
          clear hi hz0 hz1 hz2'
          have hown0 : (w2.alloc (.cells #[] 215)).ownsRow w.heap.size 215 1 (.slice (some ⟨w2.heap.size, 0, none⟩) 0 0) 0 [] :=
            ⟨rfl, .inr ⟨w2.heap.size, 0, #[], rfl, hb2.size, heap_alloc_new _ _, Nat.le_refl _, Nat.zero_le _, rfl, rfl⟩⟩
          have hnews : ∀ j u, (H.map (Value.int .u32))[j]? = some u → (w2.alloc (.cells #[] 215)).cell? ((⟨b, 0, none⟩ : Addr).add j) = some u := by
            intro j u hj
            have hadd : (⟨b, 0, none⟩ : Addr).add j = ⟨b, j, none⟩ := by unfold Addr.add; split <;> simp_all
            have hj8 : j < H.length := by
              rcases Nat.lt_or_ge j H.length with h | h
              · exact h
              · rw [List.getElem?_eq_none (by simpa using h)] at hj; cases hj
            rw [hadd, (hb2.alloc hb2.size _).cell (p := ⟨b, j, none⟩) hb, HC.out j (by have := HH.out; omega)]
            rw [List.getElem?_map, List.getElem?_eq_getElem hj8] at hj
            rw [List.getD_eq_getElem?_getD, List.getElem?_eq_getElem hj8]
            exact hj
          have HO0 := Lib.hid hown0
          have HNW := Lib.hid hnews
          clear hown0 hnews
          go_wp2_with (at_builtin; refine wpList_append_own _ rfl _ _ 216 rfl w.heap.size 215 i0 (.int .u32 0) 1 4 Tryz.underlying216 HI.out Z0.out Z1.out Z2.out rfl (by decide) _ _ _ rfl HO0.out ⟨b, 0, none⟩ 8 c (H.map (Value.int .u32)) rfl ?c0 HNW.out ?c2 ?c3 ?c4 ?c5 ?_)
          case c0 => rw [List.length_map, HH.out]
          case c2 => intro u hu; rw [List.mem_map] at hu; obtain ⟨x, _, rfl⟩ := hu; rfl
          case c3 => unfold maxLen; omega
          case c4 => omega
          case c5 => have := hb2.size; simp; omega
          intro v' w3 hown3 hgrow _
          have hgt : ∃ g cap, v' = .slice (some ⟨g, 0, none⟩) 8 cap := by
            obtain ⟨_, h | ⟨g, cap, cur, h, _⟩⟩ := hown3
            · exact absurd h.2 (by decide)
            · exact ⟨g, cap, h⟩
          obtain ⟨g, cap, hv⟩ := hgt
          have hcl := hown3.cells (g := g) (by rw [hv]; rfl)
          have hb3 : Below w.heap.size w w3 := (hb2.alloc hb2.size _).grown hgrow (by have := hb2.size; simp; omega) (fun q hq => by have := Option.some.inj hq; subst this; exact hb2.size)
          have q3 : w3.heap[w.heap.size]? = some (.cells (cells s 64) 215 (0, 0)) := by
            rw [hgrow.block _ (by simp; omega) (by intro h; have := Option.some.inj h; simp at this; omega), Below.heap_alloc _ _ _ (by omega)]; exact Q2.out
          have k3 : w3.heap[KB]? = some (.cells (ints K) 215 (0, 0)) := by
            rw [hgrow.block _ (by simp; omega) (by intro h; have := Option.some.inj h; simp at this; omega), Below.heap_alloc _ _ _ (by omega)]; exact K2.out
          have hcl' : ∀ j u, (ints H)[j]? = some u → w3.cell? ⟨g, j, none⟩ = some u := by
            intro j u hj
            have hadd : (⟨g, 0, none⟩ : Addr).add j = ⟨g, j, none⟩ := by unfold Addr.add; split <;> simp_all
            rw [← hadd]
            exact hcl j u (by simpa [ints] using hj)
          rw [hv]
          have Q3 := Lib.hid q3
          have K3 := Lib.hid k3
          have CL := Lib.hid hcl'
          clear hv hcl hown3 hgrow q3 k3 hcl' HO0 HNW Q2 K2 hb2
          go_wp2_with fail
          go_loopw [11, 12, 13, 14, 15, 16] (fun v i _ _ _ _ wr => ∃ (k g c' : Nat), k ≤ 64 ∧ i = .int .i64 k ∧ v = .slice (some ⟨g, 0, none⟩) 8 c'
              ∧ (∀ j u, (ints (rnds (sched s 64) H k))[j]? = some u → wr.cell? ⟨g, j, none⟩ = some u)
              ∧ wr.heap[w.heap.size]? = some (.cells (cells s 64) 215 (0, 0)) ∧ wr.heap[KB]? = some (.cells (ints K) 215 (0, 0)) ∧ Below w.heap.size w wr) (fun _ i _ _ _ _ _ => 64 - (intOf i).toNat)
          case atStart =>
            exact ⟨0, g, cap, by omega, rfl, rfl, CL.out, Q3.out, K3.out, hb3⟩
          case round =>
            obtain ⟨k, g, c', hk, rfl, rfl, hcl, q4, k4, hb4⟩ := hrel
            obtain ⟨a, b', c0, d, e, f, g', p, hrn⟩ := of_eight (rnds_length (sched s 64) H k HH.out)
            rw [hrn] at hcl
            have RN := Lib.hid hrn
            have Q4 := Lib.hid q4
            have K4 := Lib.hid k4
            by_cases hlt3 : k < 64
            · have hlt1 : (k : Int) < 64 := by omega
              have x0 : wr.cell? ⟨g, 0, none⟩ = some (.int .u32 a) := hcl 0 _ rfl
              have x1 : wr.cell? ⟨g, 1, none⟩ = some (.int .u32 b') := hcl 1 _ rfl
              have x2 : wr.cell? ⟨g, 2, none⟩ = some (.int .u32 c0) := hcl 2 _ rfl
              have x3 : wr.cell? ⟨g, 3, none⟩ = some (.int .u32 d) := hcl 3 _ rfl
              have x4 : wr.cell? ⟨g, 4, none⟩ = some (.int .u32 e) := hcl 4 _ rfl
              have x5 : wr.cell? ⟨g, 5, none⟩ = some (.int .u32 f) := hcl 5 _ rfl
              have x6 : wr.cell? ⟨g, 6, none⟩ = some (.int .u32 g') := hcl 6 _ rfl
              have x7 : wr.cell? ⟨g, 7, none⟩ = some (.int .u32 p) := hcl 7 _ rfl
              have xw : wr.cell? ⟨w.heap.size, k, none⟩ = some (.int .u32 ((sched s 64).getD k 0)) := by rw [cell_of_row wr _ k _ _ _ Q4.out, cells_get s 64 k hlt3]
              have xk : wr.cell? ⟨KB, k, none⟩ = some (.int .u32 (K.getD k 0)) := by rw [cell_of_row wr _ k _ _ _ K4.out, ints_get K k hlt3]
              clear hcl hrn q4 k4 CL Q3 K3 hb3
              go_wp2_with fail
              go_quiet ((go_at_call 209; exact drew_first (fun W => rot_calls _ _ W (by decide) (by decide))))
              go_wp2_with fail
              go_quiet (fail)
              go_wp2_with fail
              go_quiet ((go_at_call 209; exact drew_later (fun W => rot_calls _ _ W (by decide) (by decide))))
              go_wp2_with fail
              go_quiet (fail)
              go_wp2_with fail
              refine region_tail 26 (by kernel_rfl) (by kernel_rfl) ?_
              simp only [List.take_succ_cons, List.take_zero, List.drop_succ_cons, List.drop_zero]
              repeat still_step
              refine wpStill_nil ?_
              go_wp2_with fail
              go_roundw
              case rel =>
                refine ⟨k + 1, wr.heap.size, 8, hlt3, by go_num, rfl, ?_, ?_, ?_, (below_drewN hb4 _).alloc hb4.size _⟩
                · intro j u hj
                  refine (cell_new_at (wr.drewN _) _ j _ _ rfl).trans ?_
                  have hj' : (ints (rnd (K.getD k 0) ((sched s 64).getD k 0) (rnds (sched s 64) H k)))[j]? = some u := hj
                  rw [RN.out] at hj'
                  exact hj'
                · exact (Below.heap_alloc (wr.drewN _) _ _ (Array.getElem?_eq_some_iff.1 Q4.out).1).trans Q4.out
                · exact (Below.heap_alloc (wr.drewN _) _ _ (Array.getElem?_eq_some_iff.1 K4.out).1).trans K4.out
              case measure => simp [intOf]; omega
            · obtain rfl : k = 64 := by omega
              rw [show (((64 : Nat) : Int)) = 64 from rfl]
              obtain ⟨X, hX⟩ : ∃ X : List Int, X = [a, b', c0, d, e, f, g', p] := ⟨_, rfl⟩
              have hXl : X.length = 8 := by rw [hX]; rfl
              rw [← hX] at hcl
              have HX := Lib.hid hX
              have XL := Lib.hid hXl
              have CX := Lib.hid hcl
              clear hX hXl hcl hrn q4 k4 CL Q3 K3 hb3 Q4 K4
              obtain ⟨wo, hwo⟩ : ∃ wo : World, wo = wr := ⟨_, rfl⟩
              have hbo : Below w.heap.size w wo := by rw [hwo]; exact hb4
              have hgo : ∀ j u, (ints X)[j]? = some u → wo.cell? ⟨g, j, none⟩ = some u := by rw [hwo]; exact CX.out
              have hgl : g < wo.heap.size := block_lt_of_cell (hgo 0 _ (ints_get X 0 (by rw [XL.out]; omega)))
              rw [← hwo]
              have CO := Lib.hid hgo
              clear hwo hb4 CX hgo
              go_wp2_with fail
              go_loopw [17, 18] (fun v i ws => ∃ j : Nat, j ≤ 8 ∧ i = .int .i64 j ∧ ws.ownsRow wo.heap.size 215 1 v j ((sumTo H X j).map (Value.int .u32)) ∧ Below wo.heap.size wo ws) (fun _ i _ => 8 - (intOf i).toNat)
              case atStart => exact ⟨0, by omega, rfl, ⟨rfl, .inl ⟨rfl, rfl⟩⟩, Below.refl _ _⟩
              case round =>
                obtain ⟨j, hj, rfl, hown, hb5⟩ := hrel
                have HO := Lib.hid hown
                clear hown
                by_cases hlt8 : j < 8
                · have hlt1 : (j : Int) < 8 := by omega
                  have xh : wr.cell? ⟨b, j, none⟩ = some (.int .u32 (H.getD j 0)) := by
                    rw [hb5.cell (p := ⟨b, j, none⟩) (Nat.lt_of_lt_of_le hb hbo.size), hbo.cell (p := ⟨b, j, none⟩) hb]; exact HC.out j hlt8
                  have xx : wr.cell? ⟨g, j, none⟩ = some (.int .u32 (X.getD j 0)) := by
                    rw [hb5.cell (p := ⟨g, j, none⟩) hgl]; exact CO.out j _ (ints_get X j (by rw [XL.out]; exact hlt8))
                  go_wp2_with fail
                  have hj63 : j + 1 ≤ maxLen := by unfold maxLen; omega
                  have hjb : (j + 1) * 4 ≤ 140737488355328 := by omega
                  have hbs : ∀ o : Obj, wo.heap.size ≤ (wr.alloc o).drew.heap.size := fun o => by have := hb5.size; simp; omega
                  have HBS := Lib.hid hbs
                  clear hbs
                  go_region_law (first | (refine step_append_lies _ rfl _ _ 216 rfl wo.heap.size 215 i0 (.int .u32 0) 1 4 Tryz.underlying216 HI.out Z0.out Z1.out Z2.out rfl (by decide) _ _ _ rfl ((HO.out.alloc _).drew) ⟨wr.heap.size, 0, none⟩ 1 1 [.int .u32 ((H.getD j 0 + X.getD j 0) % 4294967296)] rfl rfl (cells_new wr [.int .u32 ((H.getD j 0 + X.getD j 0) % 4294967296)] 215) (one_mem _ _) Nat.zero_lt_one hj63 hjb (HBS.out _) _ rfl ?_; intro g2 cap2 w4 hown1 hgrow hat hlt4))
                  all_goals
                    have HO1 := Lib.hid hown1
                    have hB1 : Below wo.heap.size wo w4 := ((hb5.alloc hb5.size _).drew).grown hgrow (HBS.out _) (fun q hq => (HO.out.lt q hq).1)
                    clear hown1 hgrow hat hlt4
                    go_wp2_with fail
                    go_roundw
                    case rel =>
                      refine ⟨j + 1, by omega, by go_num, ?_, hB1⟩
                      have := HO1.out
                      rw [sumTo, List.map_append]
                      exact this
                    case measure => simp [intOf]; omega
                · have hge : ¬ (j : Int) < 8 := by omega
                  obtain rfl : j = 8 := by omega
                  go_wp2_with fail
                  go_ret
                  obtain ⟨hl8, hcase⟩ := HO.out
                  rcases hcase with hc | ⟨g2, cap2, cur, hv, hg2, hh, hn, hcp, hsz, htk⟩
                  · exact absurd hc.2 (by decide)
                  · refine ⟨g2, cap2, by rw [hv]; rfl, fun i hi => ?_, hbo.trans (hb5.mono hbo.size)⟩
                    have hm : mixL H s = sumTo H X 8 := by
                      rw [mixL, RN.out, ← HX.out, ← addTo_all' H X HH.out]
                    have e1 : (cur.toList.take (8 * 1))[i]? = ((sumTo H X 8).map (Value.int .u32))[i]? := by rw [htk]
                    have hil : i < (sumTo H X 8).length := by rw [sumTo_length]; exact hi
                    rw [cell_of_row wr _ i _ _ _ hh, ← Array.getElem?_toList, hm]
                    rw [List.getElem?_take, if_pos (by omega), List.getElem?_map, List.getElem?_eq_getElem hil] at e1
                    rw [e1, List.getD_eq_getElem?_getD, List.getElem?_eq_getElem hil]
                    rfl
end Go.Proofs.YtpgkgpecbjjifaaGreat
