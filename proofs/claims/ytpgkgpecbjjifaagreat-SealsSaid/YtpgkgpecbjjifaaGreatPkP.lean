/- Plain words on packets: what they are of, which may be. -/
import Derived.Test.YtpgkgpecbjjifaaGreatShaQ
namespace Go.Proofs.YtpgkgpecbjjifaaGreat.Sha

structure Link where
  to : Int
  cost : Int
structure Lsa where
  router : Int
  serial : Int
  age : Int
  links : List Link
structure Head where
  router : Int
  serial : Int
  age : Int
  sum : Int
structure Packet where
  kind : Int
  router : Int
  heard : List Int
  lsas : List Lsa
  heads : List Head
structure Key where
  id : Int
  secret : ByteArray
  sf : Int
  st : Int
  af : Int
  ak : Int

instance : Inhabited Link := ⟨⟨0, 0⟩⟩
instance : Inhabited Lsa := ⟨⟨0, 0, 0, []⟩⟩
instance : Inhabited Head := ⟨⟨0, 0, 0, 0⟩⟩

/-- An element of a list. -/
def at_ {α : Type} [Inhabited α] (xs : List α) (k : Nat) : α := xs.getD k default
theorem at_get {α : Type} [Inhabited α] (xs : List α) (k : Nat) (h : k < xs.length) : xs[k]? = some (at_ xs k) := by
  rw [at_, List.getD_eq_getElem?_getD, List.getElem?_eq_getElem h]
  rfl

def routerOk (x : Int) : Bool := decide (1 ≤ x) && decide (x ≤ 4)
def serialOk (x : Int) : Bool := decide (1 ≤ x) && decide (x ≤ 2147483647)
def ageOk (x : Int) : Bool := decide (0 ≤ x) && decide (x ≤ 60)
theorem routerOk_iff (x : Int) : routerOk x = true ↔ 1 ≤ x ∧ x ≤ 4 := by simp [routerOk]
theorem serialOk_iff (x : Int) : serialOk x = true ↔ 1 ≤ x ∧ x ≤ 2147483647 := by simp [serialOk]
theorem ageOk_iff (x : Int) : ageOk x = true ↔ 0 ≤ x ∧ x ≤ 60 := by simp [ageOk]

/-- All of a list's places, of which none is bad. -/
def noneBad {α : Type} (f : List α → Nat → Bool) (xs : List α) : Bool := (List.range xs.length).all fun k => !f xs k
theorem noneBad_false {α : Type} (f : List α → Nat → Bool) (xs : List α) (k : Nat) (h : k < xs.length) (hn : f xs k = true) : noneBad f xs = false := by
  rw [noneBad, List.all_eq_false]
  exact ⟨k, List.mem_range.mpr h, by rw [hn]; decide⟩
theorem noneBad_true {α : Type} (f : List α → Nat → Bool) (xs : List α) (h : ∀ k, k < xs.length → f xs k = false) : noneBad f xs = true := by
  rw [noneBad, List.all_eq_true]
  intro k hk
  rw [h k (List.mem_range.mp hk)]
  rfl
theorem noneBad_at {α : Type} (f : List α → Nat → Bool) (xs : List α) (h : noneBad f xs = true) (k : Nat) (hk : k < xs.length) : f xs k = false := by
  rw [noneBad, List.all_eq_true] at h
  have := h k (List.mem_range.mpr hk)
  simpa using this

/-- May a link not be the one at its place? -/
def linkBad (r : Int) (ls : List Link) (k : Nat) : Bool :=
  !routerOk (at_ ls k).to || ((at_ ls k).to == r) || decide ((at_ ls k).cost < 1) || decide (65535 < (at_ ls k).cost) || (decide (0 < k) && decide ((at_ ls k).to ≤ (at_ ls (k - 1)).to))
def linksMay (r : Int) (ls : List Link) : Bool := noneBad (linkBad r) ls

/-- What rises, and whose numbers are routers', has at most four. -/
theorem rising_four {α : Type} [Inhabited α] (f : List α → Nat → Bool) (g : α → Int) (xs : List α) (h1 : ∀ k, f xs k = false → 1 ≤ g (at_ xs k) ∧ g (at_ xs k) ≤ 4)
    (h2 : ∀ k, f xs k = false → 0 < k → g (at_ xs (k - 1)) < g (at_ xs k)) (h : noneBad f xs = true) : xs.length ≤ 4 := by
  have h' := noneBad_at f xs h
  have key : ∀ k, k < xs.length → (k : Int) + 1 ≤ g (at_ xs k) := by
    intro k
    induction k with
    | zero => intro hk; have := h1 0 (h' 0 hk); omega
    | succ k ih =>
      intro hk
      have a := ih (by omega)
      have b := h2 (k + 1) (h' (k + 1) hk) (by omega)
      rw [Nat.add_sub_cancel] at b
      omega
  by_cases c : xs.length ≤ 4
  · exact c
  · have a := key 4 (by omega)
    have b := h1 4 (h' 4 (by omega))
    omega
theorem links_four (r : Int) (ls : List Link) (h : linksMay r ls = true) : ls.length ≤ 4 := by
  refine rising_four (linkBad r) Link.to ls (fun k hk => ?_) (fun k hk h0 => ?_) h
  · simp [linkBad] at hk
    exact (routerOk_iff _).mp hk.1.1.1.1
  · simp [linkBad] at hk
    have := hk.2 h0
    omega
end Go.Proofs.YtpgkgpecbjjifaaGreat.Sha
