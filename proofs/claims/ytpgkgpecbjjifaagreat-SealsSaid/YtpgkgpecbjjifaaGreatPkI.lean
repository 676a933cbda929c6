/- Lists of Lsas in memory; update.May and the document's UpdateMay. -/
import Derived.Test.YtpgkgpecbjjifaaGreatPkH
namespace Go.Proofs.YtpgkgpecbjjifaaGreat
open Go.RowKit Sha
set_option linter.unusedSimpArgs false

theorem RowAt.drew {α : Type} {enc : α → List Value} {sz : Nat} {w : World} {A : Option Addr} {xs : List α} (h : RowAt enc sz w A xs) : RowAt enc sz w.drew A xs := h

/-- A list of Lsas in a row. -/
def LsasAt (w : World) (A : Option Addr) (xs : List Lsa) : Prop :=
  ∀ j x, xs[j]? = some x → ∃ ad B c, A = some ad ∧ w.cell? (ad.add (j * 4)) = some (.int .i64 x.router) ∧ w.cell? ⟨(ad.add (j * 4)).block, (ad.add (j * 4)).off + 1, none⟩ = some (.int .i64 x.serial)
    ∧ w.cell? ⟨(ad.add (j * 4)).block, (ad.add (j * 4)).off + 2, none⟩ = some (.int .i64 x.age) ∧ w.cell? ⟨(ad.add (j * 4)).block, (ad.add (j * 4)).off + 3, none⟩ = some (.slice B x.links.length c)
    ∧ RowAt encLink 2 w B x.links ∧ x.links.length ≤ 140737488355328 ∧ (B = none → c = 0)
theorem LsasAt.below {w w' : World} {A : Option Addr} {xs : List Lsa} (h : LsasAt w A xs) (hb : Below w.heap.size w w') : LsasAt w' A xs := by
  intro j x hx
  obtain ⟨ad, B, c, e, c0, c1, c2, c3, hr, hl, hz⟩ := h j x hx
  exact ⟨ad, B, c, e, cell_later hb c0, cell_later hb c1, cell_later hb c2, cell_later hb c3, hr.below hb, hl, hz⟩

/-- May an Lsa not be the one at its place? -/
def updateBad (xs : List Lsa) (k : Nat) : Bool := !lsaMay (at_ xs k) || (decide (0 < k) && decide ((at_ xs k).router ≤ (at_ xs (k - 1)).router))
def updateMay (xs : List Lsa) : Bool := noneBad updateBad xs
theorem lsaMay_router (a : Lsa) (h : lsaMay a = true) : 1 ≤ a.router ∧ a.router ≤ 4 := by
  refine (routerOk_iff _).mp ?_
  rw [lsaMay] at h
  revert h
  cases routerOk a.router
  · intro h; cases h
  · exact fun _ => rfl
theorem update_four (xs : List Lsa) (h : updateMay xs = true) : xs.length ≤ 4 := by
  refine rising_four updateBad Lsa.router xs (fun k hk => ?_) (fun k hk h0 => ?_) h
  · simp [updateBad] at hk
    exact lsaMay_router _ hk.1
  · simp [updateBad] at hk
    have := hk.2 h0
    omega

set_option maxRecDepth 100000 in
set_option maxHeartbeats 2000000 in
theorem updateMay_calls (A : Option Addr) (c : Nat) (xs : List Lsa) (w : World) (hA : LsasAt w A xs) (hl : xs.length ≤ 140737488355328) :
    Calls Tryz.prog 165 #[.slice A xs.length c] w fun e w' => e = .returned (.bool (updateMay xs)) ∧ Below w.heap.size w w' := by
  have h0 : (0 : Int) ≤ (xs.length : Int) := by omega
  have h1 : (xs.length : Int) ≤ 140737488355328 := by omega
  have HA := Lib.hid hA
  clear hA
  go_enter Tryz.func165, Tryz.ntmps165
  go_wp2_with fail
  go_loopw [7] (fun i wr => ∃ k : Nat, k ≤ xs.length ∧ i = .int .i64 k ∧ (∀ j, j < k → updateBad xs j = false) ∧ Below w.heap.size w wr) (fun i _ => xs.length - (intOf i).toNat)
  case atStart => exact ⟨0, Nat.zero_le _, rfl, fun j hj => absurd hj (Nat.not_lt_zero _), Below.refl _ _⟩
  case round =>
    obtain ⟨k, hk, rfl, hj, hb⟩ := hrel
    have HJ := Lib.hid hj
    clear hj
    by_cases hlt : k < xs.length
    · have hlt1 : (k : Int) < (xs.length : Int) := by omega
      obtain ⟨ad, B, cb, rfl, c0, c1, c2, c3, hr, hlk, -⟩ := (HA.out.below hb) k _ (at_get xs k hlt)
      have hw1 : IntKind.i64.wrap ((k : Int) - 1) = (k : Int) - 1 := IntWalk.i64_in _ (by omega)
      have HX := Lib.hid (show updateBad xs k = (!lsaMay (at_ xs k) || (decide (0 < k) && decide ((at_ xs k).router ≤ (at_ xs (k - 1)).router))) from rfl)
      obtain ⟨v1, e1⟩ : ∃ v, lsaMay (at_ xs k) = v := ⟨_, rfl⟩
      obtain ⟨v5, e5⟩ : ∃ v, decide (0 < k) = v := ⟨_, rfl⟩
      obtain ⟨v6, e6⟩ : ∃ v, decide ((at_ xs k).router ≤ (at_ xs (k - 1)).router) = v := ⟨_, rfl⟩
      have e5' : decide ((0 : Int) < (k : Int)) = v5 := by rw [← e5]; exact decide_eq_decide.mpr (by omega)
      have hk1 : v5 = true → (1 : Int) ≤ (k : Int) := fun h => by have := of_decide_eq_true (e5.trans h); omega
      have HB : Below w.heap.size w (wr.alloc (.cells #[.int .i64 (at_ xs k).router, .int .i64 (at_ xs k).serial, .int .i64 (at_ xs k).age, .slice B (at_ xs k).links.length cb] 91)) := hb.alloc hb.size _
      have hr1 := hr.below ((Below.refl wr.heap.size wr).alloc (Nat.le_refl _) (.cells #[.int .i64 (at_ xs k).router, .int .i64 (at_ xs k).serial, .int .i64 (at_ xs k).age, .slice B (at_ xs k).links.length cb] 91))
      have f0 : (wr.alloc (.cells #[.int .i64 (at_ xs k).router, .int .i64 (at_ xs k).serial, .int .i64 (at_ xs k).age, .slice B (at_ xs k).links.length cb] 91)).cell? ⟨wr.heap.size, 0, none⟩ = some (.int .i64 (at_ xs k).router) := cell_new wr #[.int .i64 (at_ xs k).router, .int .i64 (at_ xs k).serial, .int .i64 (at_ xs k).age, .slice B (at_ xs k).links.length cb] 91 0
      have f1 : (wr.alloc (.cells #[.int .i64 (at_ xs k).router, .int .i64 (at_ xs k).serial, .int .i64 (at_ xs k).age, .slice B (at_ xs k).links.length cb] 91)).cell? ⟨wr.heap.size, 1, none⟩ = some (.int .i64 (at_ xs k).serial) := cell_new wr #[.int .i64 (at_ xs k).router, .int .i64 (at_ xs k).serial, .int .i64 (at_ xs k).age, .slice B (at_ xs k).links.length cb] 91 1
      have f2 : (wr.alloc (.cells #[.int .i64 (at_ xs k).router, .int .i64 (at_ xs k).serial, .int .i64 (at_ xs k).age, .slice B (at_ xs k).links.length cb] 91)).cell? ⟨wr.heap.size, 2, none⟩ = some (.int .i64 (at_ xs k).age) := cell_new wr #[.int .i64 (at_ xs k).router, .int .i64 (at_ xs k).serial, .int .i64 (at_ xs k).age, .slice B (at_ xs k).links.length cb] 91 2
      have f3 : (wr.alloc (.cells #[.int .i64 (at_ xs k).router, .int .i64 (at_ xs k).serial, .int .i64 (at_ xs k).age, .slice B (at_ xs k).links.length cb] 91)).cell? ⟨wr.heap.size, 3, none⟩ = some (.slice B (at_ xs k).links.length cb) := cell_new wr #[.int .i64 (at_ xs k).router, .int .i64 (at_ xs k).serial, .int .i64 (at_ xs k).age, .slice B (at_ xs k).links.length cb] 91 3
      have f4 : v5 = true → (wr.alloc (.cells #[.int .i64 (at_ xs k).router, .int .i64 (at_ xs k).serial, .int .i64 (at_ xs k).age, .slice B (at_ xs k).links.length cb] 91)).cell? (ad.add ((k - 1) * 4)) = some (.int .i64 (at_ xs (k - 1)).router) := fun h => by
        have h' := of_decide_eq_true (e5.trans h)
        obtain ⟨_, _, _, e, d, _⟩ := (HA.out.below HB) (k - 1) _ (at_get xs (k - 1) (by omega))
        cases e
        exact d
      have HM := fun W => Lib.hid (lsaMay_calls (at_ xs k) B cb W v1 e1)
      have HL := Lib.hid hlk
      rw [e1, e5, e6] at HX
      go_wp2_with fail
      generalize wr.alloc (.cells #[.int .i64 (at_ xs k).router, .int .i64 (at_ xs k).serial, .int .i64 (at_ xs k).age, .slice B (at_ xs k).links.length cb] 91) = W1 at *
      clear c0 c1 c2 c3 hr hlk e1
      generalize (at_ xs k).router = x at *
      generalize (at_ xs k).serial = x2 at *
      generalize (at_ xs k).age = x3 at *
      generalize (at_ xs k).links = ls at *
      generalize (at_ xs (k - 1)).router = z at *
      rcases or2 v1 v5 v6 with rfl | ⟨rfl, rfl⟩ | ⟨rfl, rfl, rfl⟩ | ⟨rfl, rfl, rfl⟩
      · skip
        refine wp_region_any (by kernel_rfl) ?_
        try (change wpAny _ _ _ _ _ _ _ (World.drew _))
        refine wpAny_ready (rs := [0]) (by kernel_rfl) (by simp) ?_
        refine AllReady.cons rfl (fun K hK => ?_) AllReady.nil
        go_simp
        refine hK _ _ ?_
        clear hK K
        (try simp only [Act.put, List.setIfInBounds_toArray, List.set_cons_zero, List.set_cons_succ, List.getElem_toArray, List.getElem_cons_succ, List.getElem_cons_zero])
        refine wpAny_ready (rs := [1]) (by kernel_rfl) (by simp) ?_
        refine AllReady.cons rfl (fun K hK => ?_) AllReady.nil
        go_simp
        go_wp2_with (first | (go_simp; go_at_call 104; (with_reducible refine ((HM _).out hr1.drew HL.out).mono ?_); rintro e w1 ⟨rfl, hb1⟩; first | (replace f0 := cell_later hb1 f0; replace f1 := cell_later hb1 f1; replace f2 := cell_later hb1 f2; replace f3 := cell_later hb1 f3; replace HB := HB.trans (hb1.mono HB.size)) | (replace f0 := cell_drew hb1 f0; replace f1 := cell_drew hb1 f1; replace f2 := cell_drew hb1 f2; replace f3 := cell_drew hb1 f3; replace HB := HB.drew.trans (hb1.mono HB.drew.size)); clear hb1) | (go_simp; go_at_call 104; (with_reducible refine ((HM _).out hr1 HL.out).mono ?_); rintro e w1 ⟨rfl, hb1⟩; first | (replace f0 := cell_later hb1 f0; replace f1 := cell_later hb1 f1; replace f2 := cell_later hb1 f2; replace f3 := cell_later hb1 f3; replace HB := HB.trans (hb1.mono HB.size)) | (replace f0 := cell_drew hb1 f0; replace f1 := cell_drew hb1 f1; replace f2 := cell_drew hb1 f2; replace f3 := cell_drew hb1 f3; replace HB := HB.drew.trans (hb1.mono HB.drew.size)); clear hb1))
        try (refine hK _ _ ?_; clear hK K)
        (try simp only [Act.put, List.setIfInBounds_toArray, List.set_cons_zero, List.set_cons_succ, List.getElem_toArray, List.getElem_cons_succ, List.getElem_cons_zero])
        refine wpAny_take (i := 2) (v := ?_) rfl (by kernel_rfl) (by kernel_rfl) (by kernel_rfl) (fun _ _ _ h => h) (Or.inl ⟨by rfl, ?_⟩) ?_
        rotate_left
        · intro w; go_simp; try (with_reducible rfl)
        (try simp only [Act.put, List.setIfInBounds_toArray, List.set_cons_zero, List.set_cons_succ, List.getElem_toArray, List.getElem_cons_succ, List.getElem_cons_zero])
        refine wpAny_take (i := 3) (v := ?_) rfl (by kernel_rfl) (by kernel_rfl) (by kernel_rfl) (fun _ _ _ h => h) (Or.inl ⟨by rfl, ?_⟩) ?_
        rotate_left
        · intro w; go_simp; try (with_reducible rfl)
        (try simp only [Act.put, List.setIfInBounds_toArray, List.set_cons_zero, List.set_cons_succ, List.getElem_toArray, List.getElem_cons_succ, List.getElem_cons_zero])
        refine wpAny_take (i := 4) (v := undef) rfl (by kernel_rfl) (by kernel_rfl) (by kernel_rfl) (fun _ _ _ h => h) (Or.inr ⟨by kernel_rfl, rfl⟩) ?_
        (try simp only [Act.put, List.setIfInBounds_toArray, List.set_cons_zero, List.set_cons_succ, List.getElem_toArray, List.getElem_cons_succ, List.getElem_cons_zero])
        refine wpAny_take (i := 5) (v := undef) rfl (by kernel_rfl) (by kernel_rfl) (by kernel_rfl) (fun _ _ _ h => h) (Or.inr ⟨by kernel_rfl, rfl⟩) ?_
        (try simp only [Act.put, List.setIfInBounds_toArray, List.set_cons_zero, List.set_cons_succ, List.getElem_toArray, List.getElem_cons_succ, List.getElem_cons_zero])
        refine wpAny_take (i := 6) (v := undef) rfl (by kernel_rfl) (by kernel_rfl) (by kernel_rfl) (fun _ _ _ h => h) (Or.inr ⟨by kernel_rfl, rfl⟩) ?_
        (try simp only [Act.put, List.setIfInBounds_toArray, List.set_cons_zero, List.set_cons_succ, List.getElem_toArray, List.getElem_cons_succ, List.getElem_cons_zero])
        refine wpAny_take (i := 7) (v := undef) rfl (by kernel_rfl) (by kernel_rfl) (by kernel_rfl) (fun _ _ _ h => h) (Or.inr ⟨by kernel_rfl, rfl⟩) ?_
        (try simp only [Act.put, List.setIfInBounds_toArray, List.set_cons_zero, List.set_cons_succ, List.getElem_toArray, List.getElem_cons_succ, List.getElem_cons_zero])
        refine wpAny_take (i := 8) (v := undef) rfl (by kernel_rfl) (by kernel_rfl) (by kernel_rfl) (fun _ _ _ h => h) (Or.inr ⟨by kernel_rfl, rfl⟩) ?_
        (try simp only [Act.put, List.setIfInBounds_toArray, List.set_cons_zero, List.set_cons_succ, List.getElem_toArray, List.getElem_cons_succ, List.getElem_cons_zero])
        refine wpAny_take (i := 9) (v := undef) rfl (by kernel_rfl) (by kernel_rfl) (by kernel_rfl) (fun _ _ _ h => h) (Or.inr ⟨by kernel_rfl, rfl⟩) ?_
        (try simp only [Act.put, List.setIfInBounds_toArray, List.set_cons_zero, List.set_cons_succ, List.getElem_toArray, List.getElem_cons_succ, List.getElem_cons_zero])
        refine wpAny_take (i := 10) (v := undef) rfl (by kernel_rfl) (by kernel_rfl) (by kernel_rfl) (fun _ _ _ h => h) (Or.inr ⟨by kernel_rfl, rfl⟩) ?_
        (try simp only [Act.put, List.setIfInBounds_toArray, List.set_cons_zero, List.set_cons_succ, List.getElem_toArray, List.getElem_cons_succ, List.getElem_cons_zero])
        refine wpAny_take (i := 11) (v := undef) rfl (by kernel_rfl) (by kernel_rfl) (by kernel_rfl) (fun _ _ _ h => h) (Or.inr ⟨by kernel_rfl, rfl⟩) ?_
        (try simp only [Act.put, List.setIfInBounds_toArray, List.set_cons_zero, List.set_cons_succ, List.getElem_toArray, List.getElem_cons_succ, List.getElem_cons_zero])
        refine wpAny_take (i := 12) (v := undef) rfl (by kernel_rfl) (by kernel_rfl) (by kernel_rfl) (fun _ _ _ h => h) (Or.inr ⟨by kernel_rfl, rfl⟩) ?_
        (try simp only [Act.put, List.setIfInBounds_toArray, List.set_cons_zero, List.set_cons_succ, List.getElem_toArray, List.getElem_cons_succ, List.getElem_cons_zero])
        refine wpAny_take (i := 13) (v := undef) rfl (by kernel_rfl) (by kernel_rfl) (by kernel_rfl) (fun _ _ _ h => h) (Or.inr ⟨by kernel_rfl, rfl⟩) ?_
        (try simp only [Act.put, List.setIfInBounds_toArray, List.set_cons_zero, List.set_cons_succ, List.getElem_toArray, List.getElem_cons_succ, List.getElem_cons_zero])
        refine wpAny_take (i := 14) (v := undef) rfl (by kernel_rfl) (by kernel_rfl) (by kernel_rfl) (fun _ _ _ h => h) (Or.inr ⟨by kernel_rfl, rfl⟩) ?_
        (try simp only [Act.put, List.setIfInBounds_toArray, List.set_cons_zero, List.set_cons_succ, List.getElem_toArray, List.getElem_cons_succ, List.getElem_cons_zero])
        refine wpAny_take (i := 15) (v := undef) rfl (by kernel_rfl) (by kernel_rfl) (by kernel_rfl) (fun _ _ _ h => h) (Or.inr ⟨by kernel_rfl, rfl⟩) ?_
        (try simp only [Act.put, List.setIfInBounds_toArray, List.set_cons_zero, List.set_cons_succ, List.getElem_toArray, List.getElem_cons_succ, List.getElem_cons_zero])
        refine wpAny_take (i := 16) (v := undef) rfl (by kernel_rfl) (by kernel_rfl) (by kernel_rfl) (fun _ _ _ h => h) (Or.inr ⟨by kernel_rfl, rfl⟩) ?_
        (try simp only [Act.put, List.setIfInBounds_toArray, List.set_cons_zero, List.set_cons_succ, List.getElem_toArray, List.getElem_cons_succ, List.getElem_cons_zero])
        refine wpAny_take (i := 17) (v := ?_) rfl (by kernel_rfl) (by kernel_rfl) (by kernel_rfl) (fun _ _ _ h => h) (Or.inl ⟨by rfl, ?_⟩) ?_
        rotate_left
        · intro w; go_simp; try (with_reducible rfl)
        (try simp only [Act.put, List.setIfInBounds_toArray, List.set_cons_zero, List.set_cons_succ, List.getElem_toArray, List.getElem_cons_succ, List.getElem_cons_zero])
        refine wpAny_done (by kernel_rfl) ?_ _
        go_wp2_with fail
        go_ret
        exact ⟨by rw [updateMay, noneBad_false _ xs k hlt (by rw [HX.out]; rfl)]; rfl, HB⟩
      · skip
        refine wp_region_any (by kernel_rfl) ?_
        try (change wpAny _ _ _ _ _ _ _ (World.drew _))
        refine wpAny_ready (rs := [0]) (by kernel_rfl) (by simp) ?_
        refine AllReady.cons rfl (fun K hK => ?_) AllReady.nil
        go_simp
        refine hK _ _ ?_
        clear hK K
        (try simp only [Act.put, List.setIfInBounds_toArray, List.set_cons_zero, List.set_cons_succ, List.getElem_toArray, List.getElem_cons_succ, List.getElem_cons_zero])
        refine wpAny_ready (rs := [1]) (by kernel_rfl) (by simp) ?_
        refine AllReady.cons rfl (fun K hK => ?_) AllReady.nil
        go_simp
        go_wp2_with (first | (go_simp; go_at_call 104; (with_reducible refine ((HM _).out hr1.drew HL.out).mono ?_); rintro e w1 ⟨rfl, hb1⟩; first | (replace f0 := cell_later hb1 f0; replace f1 := cell_later hb1 f1; replace f2 := cell_later hb1 f2; replace f3 := cell_later hb1 f3; replace HB := HB.trans (hb1.mono HB.size)) | (replace f0 := cell_drew hb1 f0; replace f1 := cell_drew hb1 f1; replace f2 := cell_drew hb1 f2; replace f3 := cell_drew hb1 f3; replace HB := HB.drew.trans (hb1.mono HB.drew.size)); clear hb1) | (go_simp; go_at_call 104; (with_reducible refine ((HM _).out hr1 HL.out).mono ?_); rintro e w1 ⟨rfl, hb1⟩; first | (replace f0 := cell_later hb1 f0; replace f1 := cell_later hb1 f1; replace f2 := cell_later hb1 f2; replace f3 := cell_later hb1 f3; replace HB := HB.trans (hb1.mono HB.size)) | (replace f0 := cell_drew hb1 f0; replace f1 := cell_drew hb1 f1; replace f2 := cell_drew hb1 f2; replace f3 := cell_drew hb1 f3; replace HB := HB.drew.trans (hb1.mono HB.drew.size)); clear hb1))
        try (refine hK _ _ ?_; clear hK K)
        (try simp only [Act.put, List.setIfInBounds_toArray, List.set_cons_zero, List.set_cons_succ, List.getElem_toArray, List.getElem_cons_succ, List.getElem_cons_zero])
        refine wpAny_take (i := 2) (v := ?_) rfl (by kernel_rfl) (by kernel_rfl) (by kernel_rfl) (fun _ _ _ h => h) (Or.inl ⟨by rfl, ?_⟩) ?_
        rotate_left
        · intro w; go_simp; try (with_reducible rfl)
        (try simp only [Act.put, List.setIfInBounds_toArray, List.set_cons_zero, List.set_cons_succ, List.getElem_toArray, List.getElem_cons_succ, List.getElem_cons_zero])
        refine wpAny_take (i := 3) (v := ?_) rfl (by kernel_rfl) (by kernel_rfl) (by kernel_rfl) (fun _ _ _ h => h) (Or.inl ⟨by rfl, ?_⟩) ?_
        rotate_left
        · intro w; go_simp; try (with_reducible rfl)
        (try simp only [Act.put, List.setIfInBounds_toArray, List.set_cons_zero, List.set_cons_succ, List.getElem_toArray, List.getElem_cons_succ, List.getElem_cons_zero])
        refine wpAny_take (i := 4) (v := ?_) rfl (by kernel_rfl) (by kernel_rfl) (by kernel_rfl) (fun _ _ _ h => h) (Or.inl ⟨by rfl, ?_⟩) ?_
        rotate_left
        · intro w; go_simp; try (with_reducible rfl)
        (try simp only [Act.put, List.setIfInBounds_toArray, List.set_cons_zero, List.set_cons_succ, List.getElem_toArray, List.getElem_cons_succ, List.getElem_cons_zero])
        refine wpAny_take (i := 5) (v := ?_) rfl (by kernel_rfl) (by kernel_rfl) (by kernel_rfl) (fun _ _ _ h => h) (Or.inl ⟨by rfl, ?_⟩) ?_
        rotate_left
        · intro w; go_simp; try (with_reducible rfl)
        (try simp only [Act.put, List.setIfInBounds_toArray, List.set_cons_zero, List.set_cons_succ, List.getElem_toArray, List.getElem_cons_succ, List.getElem_cons_zero])
        refine wpAny_take (i := 6) (v := ?_) rfl (by kernel_rfl) (by kernel_rfl) (by kernel_rfl) (fun _ _ _ h => h) (Or.inl ⟨by rfl, ?_⟩) ?_
        rotate_left
        · intro w; go_simp; try (with_reducible rfl)
        (try simp only [Act.put, List.setIfInBounds_toArray, List.set_cons_zero, List.set_cons_succ, List.getElem_toArray, List.getElem_cons_succ, List.getElem_cons_zero])
        refine wpAny_take (i := 7) (v := undef) rfl (by kernel_rfl) (by kernel_rfl) (by kernel_rfl) (fun _ _ _ h => h) (Or.inr ⟨by kernel_rfl, rfl⟩) ?_
        (try simp only [Act.put, List.setIfInBounds_toArray, List.set_cons_zero, List.set_cons_succ, List.getElem_toArray, List.getElem_cons_succ, List.getElem_cons_zero])
        refine wpAny_take (i := 8) (v := undef) rfl (by kernel_rfl) (by kernel_rfl) (by kernel_rfl) (fun _ _ _ h => h) (Or.inr ⟨by kernel_rfl, rfl⟩) ?_
        (try simp only [Act.put, List.setIfInBounds_toArray, List.set_cons_zero, List.set_cons_succ, List.getElem_toArray, List.getElem_cons_succ, List.getElem_cons_zero])
        refine wpAny_take (i := 9) (v := undef) rfl (by kernel_rfl) (by kernel_rfl) (by kernel_rfl) (fun _ _ _ h => h) (Or.inr ⟨by kernel_rfl, rfl⟩) ?_
        (try simp only [Act.put, List.setIfInBounds_toArray, List.set_cons_zero, List.set_cons_succ, List.getElem_toArray, List.getElem_cons_succ, List.getElem_cons_zero])
        refine wpAny_take (i := 10) (v := undef) rfl (by kernel_rfl) (by kernel_rfl) (by kernel_rfl) (fun _ _ _ h => h) (Or.inr ⟨by kernel_rfl, rfl⟩) ?_
        (try simp only [Act.put, List.setIfInBounds_toArray, List.set_cons_zero, List.set_cons_succ, List.getElem_toArray, List.getElem_cons_succ, List.getElem_cons_zero])
        refine wpAny_take (i := 11) (v := undef) rfl (by kernel_rfl) (by kernel_rfl) (by kernel_rfl) (fun _ _ _ h => h) (Or.inr ⟨by kernel_rfl, rfl⟩) ?_
        (try simp only [Act.put, List.setIfInBounds_toArray, List.set_cons_zero, List.set_cons_succ, List.getElem_toArray, List.getElem_cons_succ, List.getElem_cons_zero])
        refine wpAny_take (i := 12) (v := undef) rfl (by kernel_rfl) (by kernel_rfl) (by kernel_rfl) (fun _ _ _ h => h) (Or.inr ⟨by kernel_rfl, rfl⟩) ?_
        (try simp only [Act.put, List.setIfInBounds_toArray, List.set_cons_zero, List.set_cons_succ, List.getElem_toArray, List.getElem_cons_succ, List.getElem_cons_zero])
        refine wpAny_take (i := 13) (v := undef) rfl (by kernel_rfl) (by kernel_rfl) (by kernel_rfl) (fun _ _ _ h => h) (Or.inr ⟨by kernel_rfl, rfl⟩) ?_
        (try simp only [Act.put, List.setIfInBounds_toArray, List.set_cons_zero, List.set_cons_succ, List.getElem_toArray, List.getElem_cons_succ, List.getElem_cons_zero])
        refine wpAny_take (i := 14) (v := undef) rfl (by kernel_rfl) (by kernel_rfl) (by kernel_rfl) (fun _ _ _ h => h) (Or.inr ⟨by kernel_rfl, rfl⟩) ?_
        (try simp only [Act.put, List.setIfInBounds_toArray, List.set_cons_zero, List.set_cons_succ, List.getElem_toArray, List.getElem_cons_succ, List.getElem_cons_zero])
        refine wpAny_take (i := 15) (v := undef) rfl (by kernel_rfl) (by kernel_rfl) (by kernel_rfl) (fun _ _ _ h => h) (Or.inr ⟨by kernel_rfl, rfl⟩) ?_
        (try simp only [Act.put, List.setIfInBounds_toArray, List.set_cons_zero, List.set_cons_succ, List.getElem_toArray, List.getElem_cons_succ, List.getElem_cons_zero])
        refine wpAny_take (i := 16) (v := ?_) rfl (by kernel_rfl) (by kernel_rfl) (by kernel_rfl) (fun _ _ _ h => h) (Or.inl ⟨by rfl, ?_⟩) ?_
        rotate_left
        · intro w; go_simp; try (with_reducible rfl)
        (try simp only [Act.put, List.setIfInBounds_toArray, List.set_cons_zero, List.set_cons_succ, List.getElem_toArray, List.getElem_cons_succ, List.getElem_cons_zero])
        refine wpAny_take (i := 17) (v := ?_) rfl (by kernel_rfl) (by kernel_rfl) (by kernel_rfl) (fun _ _ _ h => h) (Or.inl ⟨by rfl, ?_⟩) ?_
        rotate_left
        · intro w; go_simp; try (with_reducible rfl)
        (try simp only [Act.put, List.setIfInBounds_toArray, List.set_cons_zero, List.set_cons_succ, List.getElem_toArray, List.getElem_cons_succ, List.getElem_cons_zero])
        refine wpAny_done (by kernel_rfl) ?_ _
        go_wp2_with fail
        go_roundw
        case rel => exact ⟨k + 1, hlt, by go_num, none_succ HJ.out HX.out, HB⟩
        case measure => simp [intOf]; omega
      · replace hk1 := hk1 rfl
        replace f4 := f4 rfl
        have hk3 : (0 : Int) ≤ (k : Int) - 1 := by omega
        have hk4 : (k : Int) - 1 < (xs.length : Int) := by omega
        first | (go_region_held3 (fun w' => w'.cell? ⟨wr.heap.size, 0, none⟩ = some (.int .i64 x) ∧ w'.cell? ⟨wr.heap.size, 1, none⟩ = some (.int .i64 x2) ∧ w'.cell? ⟨wr.heap.size, 2, none⟩ = some (.int .i64 x3) ∧ w'.cell? ⟨wr.heap.size, 3, none⟩ = some (.slice B ls.length cb) ∧ w'.cell? (ad.add ((k - 1) * 4)) = some (.int .i64 z)) (first | exact ⟨f0, f1, f2, f3, f4⟩) (first | (go_simp; go_at_call 104; (with_reducible refine ((HM _).out hr1.drew HL.out).mono ?_); rintro e w1 ⟨rfl, hb1⟩; first | (replace f0 := cell_later hb1 f0; replace f1 := cell_later hb1 f1; replace f2 := cell_later hb1 f2; replace f3 := cell_later hb1 f3; replace f4 := cell_later hb1 f4; replace HB := HB.trans (hb1.mono HB.size)) | (replace f0 := cell_drew hb1 f0; replace f1 := cell_drew hb1 f1; replace f2 := cell_drew hb1 f2; replace f3 := cell_drew hb1 f3; replace f4 := cell_drew hb1 f4; replace HB := HB.drew.trans (hb1.mono HB.drew.size)); clear hb1) | (go_simp; go_at_call 104; (with_reducible refine ((HM _).out hr1 HL.out).mono ?_); rintro e w1 ⟨rfl, hb1⟩; first | (replace f0 := cell_later hb1 f0; replace f1 := cell_later hb1 f1; replace f2 := cell_later hb1 f2; replace f3 := cell_later hb1 f3; replace f4 := cell_later hb1 f4; replace HB := HB.trans (hb1.mono HB.size)) | (replace f0 := cell_drew hb1 f0; replace f1 := cell_drew hb1 f1; replace f2 := cell_drew hb1 f2; replace f3 := cell_drew hb1 f3; replace f4 := cell_drew hb1 f4; replace HB := HB.drew.trans (hb1.mono HB.drew.size)); clear hb1))) | (fail)
        go_wp2_with fail
        go_ret
        exact ⟨by rw [updateMay, noneBad_false _ xs k hlt (by rw [HX.out]; rfl)]; rfl, HB⟩
      · replace hk1 := hk1 rfl
        replace f4 := f4 rfl
        have hk3 : (0 : Int) ≤ (k : Int) - 1 := by omega
        have hk4 : (k : Int) - 1 < (xs.length : Int) := by omega
        first | (go_region_held3 (fun w' => w'.cell? ⟨wr.heap.size, 0, none⟩ = some (.int .i64 x) ∧ w'.cell? ⟨wr.heap.size, 1, none⟩ = some (.int .i64 x2) ∧ w'.cell? ⟨wr.heap.size, 2, none⟩ = some (.int .i64 x3) ∧ w'.cell? ⟨wr.heap.size, 3, none⟩ = some (.slice B ls.length cb) ∧ w'.cell? (ad.add ((k - 1) * 4)) = some (.int .i64 z)) (first | exact ⟨f0, f1, f2, f3, f4⟩) (first | (go_simp; go_at_call 104; (with_reducible refine ((HM _).out hr1.drew HL.out).mono ?_); rintro e w1 ⟨rfl, hb1⟩; first | (replace f0 := cell_later hb1 f0; replace f1 := cell_later hb1 f1; replace f2 := cell_later hb1 f2; replace f3 := cell_later hb1 f3; replace f4 := cell_later hb1 f4; replace HB := HB.trans (hb1.mono HB.size)) | (replace f0 := cell_drew hb1 f0; replace f1 := cell_drew hb1 f1; replace f2 := cell_drew hb1 f2; replace f3 := cell_drew hb1 f3; replace f4 := cell_drew hb1 f4; replace HB := HB.drew.trans (hb1.mono HB.drew.size)); clear hb1) | (go_simp; go_at_call 104; (with_reducible refine ((HM _).out hr1 HL.out).mono ?_); rintro e w1 ⟨rfl, hb1⟩; first | (replace f0 := cell_later hb1 f0; replace f1 := cell_later hb1 f1; replace f2 := cell_later hb1 f2; replace f3 := cell_later hb1 f3; replace f4 := cell_later hb1 f4; replace HB := HB.trans (hb1.mono HB.size)) | (replace f0 := cell_drew hb1 f0; replace f1 := cell_drew hb1 f1; replace f2 := cell_drew hb1 f2; replace f3 := cell_drew hb1 f3; replace f4 := cell_drew hb1 f4; replace HB := HB.drew.trans (hb1.mono HB.drew.size)); clear hb1))) | (fail)
        go_wp2_with fail
        go_roundw
        case rel => exact ⟨k + 1, hlt, by go_num, none_succ HJ.out HX.out, HB⟩
        case measure => simp [intOf]; omega
    · obtain rfl : k = xs.length := by omega
      have ht := noneBad_true updateBad xs HJ.out
      go_wp2_with fail
      go_ret
      exact ⟨by rw [updateMay, ht]; rfl, hb⟩

end Go.Proofs.YtpgkgpecbjjifaaGreat
