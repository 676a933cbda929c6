/- Lists in memory. -/
import Derived.Test.YtpgkgpecbjjifaaGreatPkP
import Derived.Test.YtpgkgpecbjjifaaGreatShaG
namespace Go.Proofs.YtpgkgpecbjjifaaGreat
open Go.RowKit Sha

/-- A list's elements in a row: each element's cells. -/
def RowAt {α : Type} (enc : α → List Value) (sz : Nat) (w : World) (A : Option Addr) (xs : List α) : Prop :=
  ∀ j x, xs[j]? = some x → ∃ ad, A = some ad ∧ ∀ i v, (enc x)[i]? = some v → w.cell? ((ad.add (j * sz)).add i) = some v

theorem RowAt.below {α : Type} {enc : α → List Value} {sz : Nat} {w w' : World} {A : Option Addr} {xs : List α} (h : RowAt enc sz w A xs) (hb : Below w.heap.size w w') : RowAt enc sz w' A xs := by
  intro j x hx
  obtain ⟨ad, e, hc⟩ := h j x hx
  exact ⟨ad, e, fun i v hv => (hb.cell (World.block_lt_of_cell? w _ (hc i v hv))).trans (hc i v hv)⟩

theorem add_one (a : Addr) (n : Nat) (h : n ≠ 0) : a.add n = ⟨a.block, a.off + n, none⟩ := by
  unfold Addr.add
  rw [if_neg h]
theorem add_none (a : Addr) : a.add 0 = a := rfl

def encInt (x : Int) : List Value := [.int .i64 x]
def encLink (x : Link) : List Value := [.int .i64 x.to, .int .i64 x.cost]
def encHead (x : Head) : List Value := [.int .i64 x.router, .int .i64 x.serial, .int .i64 x.age, .int .i64 x.sum]

theorem RowAt.link {w : World} {A : Option Addr} {ls : List Link} (h : RowAt encLink 2 w A ls) (k : Nat) (hk : k < ls.length) : ∃ ad, A = some ad ∧ w.cell? (ad.add (k * 2)) = some (.int .i64 (at_ ls k).to)
    ∧ w.cell? ⟨(ad.add (k * 2)).block, (ad.add (k * 2)).off + 1, none⟩ = some (.int .i64 (at_ ls k).cost) := by
  obtain ⟨ad, e, hc⟩ := h k _ (at_get ls k hk)
  exact ⟨ad, e, hc 0 _ rfl, by rw [← add_one _ 1 (by decide)]; exact hc 1 _ rfl⟩
theorem RowAt.int {w : World} {A : Option Addr} {xs : List Int} (h : RowAt encInt 1 w A xs) (k : Nat) (hk : k < xs.length) : ∃ ad, A = some ad ∧ w.cell? (ad.add k) = some (.int .i64 (at_ xs k)) := by
  obtain ⟨ad, e, hc⟩ := h k _ (at_get xs k hk)
  have := hc 0 _ rfl
  rw [Nat.mul_one] at this
  exact ⟨ad, e, this⟩
theorem RowAt.head {w : World} {A : Option Addr} {ls : List Head} (h : RowAt encHead 4 w A ls) (k : Nat) (hk : k < ls.length) : ∃ ad, A = some ad ∧ w.cell? (ad.add (k * 4)) = some (.int .i64 (at_ ls k).router)
    ∧ w.cell? ⟨(ad.add (k * 4)).block, (ad.add (k * 4)).off + 1, none⟩ = some (.int .i64 (at_ ls k).serial)
    ∧ w.cell? ⟨(ad.add (k * 4)).block, (ad.add (k * 4)).off + 2, none⟩ = some (.int .i64 (at_ ls k).age)
    ∧ w.cell? ⟨(ad.add (k * 4)).block, (ad.add (k * 4)).off + 3, none⟩ = some (.int .i64 (at_ ls k).sum) := by
  obtain ⟨ad, e, hc⟩ := h k _ (at_get ls k hk)
  exact ⟨ad, e, hc 0 _ rfl, by rw [← add_one _ 1 (by decide)]; exact hc 1 _ rfl, by rw [← add_one _ 2 (by decide)]; exact hc 2 _ rfl, by rw [← add_one _ 3 (by decide)]; exact hc 3 _ rfl⟩
end Go.Proofs.YtpgkgpecbjjifaaGreat
