/- Contracts of the small functions of package sha and of the reference's: words that are turned, words out of bytes. -/
import Derived.Test.YtpgkgpecbjjifaaGreatRows
import Derived.Test.YtpgkgpecbjjifaaGreatShaP
import Derived.WalkKit
import Derived.WalkSpells
import Derived.WalkLawsBesides
import Derived.Deep.QuietTactic
import Derived.BigQuiet
import Derived.Lib.Hide
import Derived.IntWalk
import Derived.StillTailTactics
namespace Go.Proofs.YtpgkgpecbjjifaaGreat
open Go.RowKit Sha

/-- A region of reads with one forced tail, in the world behind its one draw, under that world's own name. -/
theorem region_tail {P : Program} {id : Nat} {Q : Exit → Act → World → Prop} {a : Act} {w : World} {l : List Oper} (n : Nat) (hm : P.follows .mixedOrders = true) (hB : Region.lexTailB .any l.toArray n = true)
    (h : wpStill P l.toArray w.drew (fun a' => wpList P l.toArray Q (l.drop n) a' w.drew) (l.take n) a) : (Code.region id l.toArray true).wp P Q a w :=
  wp_region_still_tail n hm hB h

/-- A call that at most draws, met in a region in which draws were made before: from whatever worlds its contract speaks. -/
theorem drew_first {P : Program} {f : FuncId} {args : Array Value} {w : World} {n : Nat} {v : Value} (c : ∀ W : World, Calls P f args W fun e w' => e = .returned v ∧ ∃ m, w' = W.drewN m) :
    Calls P f args (w.drewN n) fun e w'' => e = .returned v ∧ ∃ m, w'' = w.drewN m :=
  (c _).mono fun _ _ ⟨he, m, hm⟩ => ⟨he, n + m, by rw [hm, World.drewN_drewN]⟩
theorem drew_later {P : Program} {f : FuncId} {args : Array Value} {w : World} {a n : Nat} {v : Value} (c : ∀ W : World, Calls P f args W fun e w' => e = .returned v ∧ ∃ m, w' = W.drewN m) :
    Calls P f args (w.drewN (a + n)) fun e w'' => e = .returned v ∧ ∃ m, w'' = w.drewN (a + m) :=
  (c _).mono fun _ _ ⟨he, m, hm⟩ => ⟨he, n + m, by rw [hm, World.drewN_drewN, Nat.add_assoc]⟩
theorem drew_of_same {P : Program} {f : FuncId} {args : Array Value} {v : Value} (c : ∀ W : World, Calls P f args W fun e w' => e = .returned v ∧ W = w') (W : World) :
    Calls P f args W fun e w' => e = .returned v ∧ ∃ m, w' = W.drewN m :=
  (c W).mono fun _ _ ⟨he, hm⟩ => ⟨he, 0, by rw [← hm]; rfl⟩

theorem and31 (j : Int) (h0 : 0 < j) (h1 : j < 32) : bits .and .u64 (IntKind.u64.wrap (-j)) 31 = 32 - j := by
  have e : IntKind.u64.wrap (-j) = (((18446744073709551616 - j).toNat : Nat) : Int) := by
    simp [IntKind.wrap, IntKind.bits, IntKind.signed]; omega
  rw [e, show (31 : Int) = ((31 : Nat) : Int) from rfl, u64_and_nat _ _ (by omega) (by omega), nat_mask5]
  omega


set_option maxHeartbeats 400000 in
theorem rotateLeft32_calls (x j : Int) (w : World) (h0 : 0 < j) (h1 : j < 32) :
    Calls Tryz.prog 306 #[.int .u32 x, .int .i64 (-j)] w fun e w' => e = .returned (.int .u32 (ror x j)) ∧ w = w' := by
  have hb := and31 j h0 h1
  go_enter Tryz.func306, Tryz.ntmps306
  go_wp2
  go_ret
  exact ⟨by rw [show (32 : Int) - (32 - j) = j by omega]; rfl, rfl⟩

set_option maxHeartbeats 400000 in
theorem rot_calls (x j : Int) (w : World) (h0 : 0 < j) (h1 : j < 32) :
    Calls Tryz.prog 209 #[.int .u32 x, .int .i64 j] w fun e w' => e = .returned (.int .u32 (ror x j)) ∧ ∃ n, w' = w.drewN n := by
  go_enter Tryz.func209, Tryz.ntmps209
  go_wp2
  go_quiet (fail)
  go_wp2
  go_ret
  exact ⟨by rw [ror_comm]; rfl, nq, rfl⟩

set_option maxHeartbeats 400000 in
theorem four_calls (s : ByteArray) (k : Nat) (w : World) (h0 : k + 3 < s.size) (h1 : s.size ≤ 1000) :
    Calls Tryz.prog 305 #[.string s, .int .i64 k] w fun e w' => e = .returned (.int .u32 (word s k)) ∧ ∃ n, w' = w.drewN n := by
  have g0 : (k : Int) < (s.size : Int) := by omega
  have g1 : (k : Int) + 1 < (s.size : Int) := by omega
  have g2 : (k : Int) + 2 < (s.size : Int) := by omega
  have g3 : (k : Int) + 3 < (s.size : Int) := by omega
  have g4 : 0 ≤ (k : Int) + 1 := by omega
  have g5 : 0 ≤ (k : Int) + 2 := by omega
  have g6 : 0 ≤ (k : Int) + 3 := by omega
  have w1 : IntKind.i64.wrap ((k : Int) + 1) = (k : Int) + 1 := IntWalk.i64_in _ (by omega)
  have w2 : IntKind.i64.wrap ((k : Int) + 2) = (k : Int) + 2 := IntWalk.i64_in _ (by omega)
  have w3 : IntKind.i64.wrap ((k : Int) + 3) = (k : Int) + 3 := IntWalk.i64_in _ (by omega)
  clear h0 h1
  go_enter Tryz.func305, Tryz.ntmps305
  go_wp2
  go_quiet (fail)
  go_wp2
  go_ret
  exact ⟨ret_int (word_eq s k (by omega) (by omega) (by omega) (by omega)), nq, rfl⟩

set_option maxHeartbeats 400000 in
theorem shaTurned_calls (x a b c : Int) (w : World) (a0 : 0 < a) (a1 : a < 32) (b0 : 0 < b) (b1 : b < 32) (c0 : 0 < c) (c1 : c < 32) :
    Calls Tryz.prog 292 #[.int .u32 x, .int .i64 a, .int .i64 b, .int .i64 c] w fun e w' => e = .returned (.int .u32 (ror3 x a b c)) ∧ w = w' := by
  go_enter Tryz.func292, Tryz.ntmps292
  go_wp2_with (fail)
  ((with_reducible refine (rotateLeft32_calls _ _ _ a0 a1).mono ?_); rintro e w' ⟨rfl, rfl⟩)
  go_wp2_with (fail)
  ((with_reducible refine (rotateLeft32_calls _ _ _ b0 b1).mono ?_); rintro e w' ⟨rfl, rfl⟩)
  go_wp2_with (fail)
  ((with_reducible refine (rotateLeft32_calls _ _ _ c0 c1).mono ?_); rintro e w' ⟨rfl, rfl⟩)
  go_wp2_with (fail)
  go_ret
  exact ⟨rfl, rfl⟩

theorem four_at (s : ByteArray) (a : Int) (k : Nat) (ha : a = k) (w : World) (h0 : k + 3 < s.size) (h1 : s.size ≤ 1000) :
    Calls Tryz.prog 305 #[.string s, .int .i64 a] w fun e w' => e = .returned (.int .u32 (word s k)) ∧ ∃ n, w' = w.drewN n := by
  subst ha
  exact four_calls s k w h0 h1
end Go.Proofs.YtpgkgpecbjjifaaGreat
