/- Copies of Lsas, of packets. -/
import Derived.Test.YtpgkgpecbjjifaaGreatPkT
import Derived.Test.YtpgkgpecbjjifaaGreatPkI
namespace Go.Proofs.YtpgkgpecbjjifaaGreat
open Go.RowKit Sha
set_option linter.unusedSimpArgs false


theorem info_link : (Tryz.prog.info? 179).map (fun i => (i.zero, i.size, i.bytes)) = some (some (.agg #[.int .i64 0, .int .i64 0]), 2, 16) := by kernel_rfl
theorem cell_old {W : World} {o : Obj} {a : Addr} {v : Value} (h : W.cell? a = some v) : (W.alloc o).cell? a = some v := cell_later ((Below.refl _ _).alloc (Nat.le_refl _) o) h
theorem cell_fresh {W : World} {cs : Array Value} {T : TypeId} {b i : Nat} {v : Value} (hb : b = W.heap.size) (h : cs[i]? = some v) : (W.alloc (.cells cs T)).cell? ⟨b, i, none⟩ = some v := by
  rw [hb, cell_new, h]
theorem frozen_later {W W' : World} {a : Addr} (hb : Below W.heap.size W W') (ha : a.block < W.heap.size) (h : W.frozen? a = false) : W'.frozen? a = false := (hb.frozen ha).trans h
theorem frozen_old {W : World} {o : Obj} {a : Addr} (hb : a.block < W.heap.size) (h : W.frozen? a = false) : (W.alloc o).frozen? a = false :=
  frozen_later ((Below.refl W.heap.size W).alloc (Nat.le_refl _) o) hb h
theorem frozen_fresh {W : World} {cs : Array Value} {T : TypeId} {b i : Nat} (hb : b = W.heap.size) : (W.alloc (.cells cs T)).frozen? ⟨b, i, none⟩ = false := by
  rw [hb]
  simp only [World.frozen?, heap_alloc_new]
  simp
theorem results_cell {P : Program} {fn : Func} {p : Tmp} {ty : TypeId} (h : fn.results = #[.cell p ty]) (tmps : Array Value) (w : World) (a : Addr) (v : Value) (hp : tmps.getD p undef = .pointer (some a)) (hl : (loadVar ty a).run P w = .ok v w) :
    (results fn tmps).run P w = .ok v w := by
  have hp' : tmps[p]?.getD undef = .pointer (some a) := by simpa using hp
  simp [results, h, hp', asAddr, hl]
theorem RowAt.set {α : Type} {f : α → List Value} {k : Nat} {w : World} {A : Option Addr} {xs : List α} {p : Addr} (u : Value) (h : RowAt f k w A xs) (hp : ∀ ad, A = some ad → xs ≠ [] → ad.block ≠ p.block) : RowAt f k (w.setCell p u) A xs := by
  intro j x hx
  obtain ⟨ad, e, hc⟩ := h j x hx
  refine ⟨ad, e, fun i v hv => (World.cell?_of_block (Below.heap_setCell w p u _ ?_)).trans (hc i v hv)⟩
  rw [add_twice]
  have := hp ad e (fun h => by rw [h] at hx; simp at hx)
  unfold Addr.add
  split <;> exact this
theorem own_block {w : World} {base n : Nat} {e : TypeId} {size : Nat} {A : Option Addr} {m c : Nat} {xs : List Value} (h : w.ownsRow base e size (.slice A m c) n xs) : ∀ ad, A = some ad → base ≤ ad.block ∧ ad.block < w.heap.size := by
  intro ad e
  subst e
  exact h.lt ad.block rfl
theorem Copied.far {α : Type} {f : α → List Value} {size : Nat} {e : TypeId} {b : Option Addr} {xs : List α} {w : World} {A : Option Addr} {c : Nat} {w' : World} (h : Copied f size e b xs w A c w') : ∀ ad, A = some ad → xs ≠ [] → w.heap.size ≤ ad.block :=
  fun ad ha hx => (own_block (h.own hx) ad ha).1

/-- What copying an Lsa gives. -/
def LsaCopied (a : Lsa) (w : World) (e : Ending) (w' : World) : Prop := ∃ A c, e = .returned (.agg #[.int .i64 a.router, .int .i64 a.serial, .int .i64 a.age, .slice A a.links.length c]) ∧ RowAt encLink 2 w' A a.links ∧ (A = none → c = 0)
  ∧ (∀ ad, A = some ad → a.links ≠ [] → w.heap.size ≤ ad.block) ∧ Below w.heap.size w w'

set_option maxRecDepth 100000 in
set_option maxHeartbeats 2000000 in
theorem copyLsa_calls (a : Lsa) (A : Option Addr) (c : Nat) (w : World) (hA : RowAt encLink 2 w A a.links) (hz : A = none → c = 0) (hl : a.links.length * 16 ≤ 140737488355328) :
    Calls Tryz.prog 152 #[.agg #[.int .i64 a.router, .int .i64 a.serial, .int .i64 a.age, .slice A a.links.length c]] w (LsaCopied a w) := by
  obtain ⟨i0, hi, hz0, hz1, hz2⟩ := info_parts info_link
  have HI := Lib.hid hi
  have Z0 := Lib.hid hz0
  have Z1 := Lib.hid hz1
  have Z2 := Lib.hid hz2
  clear hi hz0 hz1 hz2
  have HZ := Lib.hid hz
  have HL := Lib.hid hl
  obtain ⟨W3, hW3⟩ : ∃ W3, W3 = ((w.alloc (.cells #[.int .i64 a.router, .int .i64 a.serial, .int .i64 a.age, .slice A a.links.length c] 91)).alloc (.cells #[.int .i64 0, .int .i64 0, .int .i64 0, .slice none 0 0] 91)).alloc (.cells #[] 179) := ⟨_, rfl⟩
  have HB : Below w.heap.size w W3 := by rw [hW3]; exact (((Below.refl _ _).alloc (Nat.le_refl _) _).alloc (by simp) _).alloc (by simp; omega) _
  have hsz : w.heap.size + 2 < W3.heap.size := by rw [hW3]; simp
  have HR := Lib.hid (hA.below HB)
  clear hA hz hl
  have b0 : W3.cell? ⟨w.heap.size, 0, none⟩ = some (.int .i64 a.router) := by rw [hW3]; exact cell_old (cell_old (cell_fresh rfl rfl))
  have b1 : W3.cell? ⟨w.heap.size, 1, none⟩ = some (.int .i64 a.serial) := by rw [hW3]; exact cell_old (cell_old (cell_fresh rfl rfl))
  have b2 : W3.cell? ⟨w.heap.size, 2, none⟩ = some (.int .i64 a.age) := by rw [hW3]; exact cell_old (cell_old (cell_fresh rfl rfl))
  have b3 : W3.cell? ⟨w.heap.size, 3, none⟩ = some (.slice A a.links.length c) := by rw [hW3]; exact cell_old (cell_old (cell_fresh rfl rfl))
  have f0 : W3.frozen? ⟨w.heap.size, 3, none⟩ = false := by rw [hW3]; exact frozen_old (by simp; omega) (frozen_old (by simp) (frozen_fresh rfl))
  have r0 : W3.cell? ⟨w.heap.size + 1, 0, none⟩ = some (.int .i64 0) := by rw [hW3]; exact cell_old (cell_fresh (by simp) rfl)
  have r1 : W3.cell? ⟨w.heap.size + 1, 1, none⟩ = some (.int .i64 0) := by rw [hW3]; exact cell_old (cell_fresh (by simp) rfl)
  have r2 : W3.cell? ⟨w.heap.size + 1, 2, none⟩ = some (.int .i64 0) := by rw [hW3]; exact cell_old (cell_fresh (by simp) rfl)
  have r3 : W3.cell? ⟨w.heap.size + 1, 3, none⟩ = some (.slice none 0 0) := by rw [hW3]; exact cell_old (cell_fresh (by simp) rfl)
  have g0 : W3.frozen? ⟨w.heap.size + 1, 0, none⟩ = false := by rw [hW3]; exact frozen_old (by simp) (frozen_fresh (by simp))
  have g1 : W3.frozen? ⟨w.heap.size + 1, 1, none⟩ = false := by rw [hW3]; exact frozen_old (by simp) (frozen_fresh (by simp))
  have g2 : W3.frozen? ⟨w.heap.size + 1, 2, none⟩ = false := by rw [hW3]; exact frozen_old (by simp) (frozen_fresh (by simp))
  have g3 : W3.frozen? ⟨w.heap.size + 1, 3, none⟩ = false := by rw [hW3]; exact frozen_old (by simp) (frozen_fresh (by simp))
  have HW3 := Lib.hid hW3
  clear hW3
  go_enter Tryz.func152, Tryz.ntmps152
  go_wp2_with (at_builtin; rw [← HW3.out]; refine wpList_copy _ rfl _ _ 75 rfl 179 i0 _ 2 16 Tryz.underlying75 HI.out Z0.out Z1.out Z2.out rfl encLink (fun _ => rfl) _ rfl A a.links c rfl HR.out HZ.out ?c1 ?c2 ?_)
  case c1 => have := HL.out; unfold maxLen; omega
  case c2 => exact HL.out
  intro A' c' w1 hC
  have HC := Lib.hid hC
  have HB1 := HB.trans (hC.below.mono HB.size)
  replace b0 := cell_later hC.below b0
  replace b1 := cell_later hC.below b1
  replace b2 := cell_later hC.below b2
  replace b3 := cell_later hC.below b3
  replace r0 := cell_later hC.below r0
  replace r1 := cell_later hC.below r1
  replace r2 := cell_later hC.below r2
  replace r3 := cell_later hC.below r3
  replace f0 := frozen_later hC.below (by show w.heap.size < _; omega) f0
  replace g0 := frozen_later hC.below (by show w.heap.size + 1 < _; omega) g0
  replace g1 := frozen_later hC.below (by show w.heap.size + 1 < _; omega) g1
  replace g2 := frozen_later hC.below (by show w.heap.size + 1 < _; omega) g2
  replace g3 := frozen_later hC.below (by show w.heap.size + 1 < _; omega) g3
  clear hC
  go_wp2_with fail
  have hfar := HC.out.far
  refine bodyPost_ret (v := .agg #[.int .i64 a.router, .int .i64 a.serial, .int .i64 a.age, .slice A' a.links.length c']) (results_cell rfl _ _ ⟨w.heap.size + 1, 0, none⟩ _ rfl (by go_simp)) rfl ⟨A', c', rfl, ?_, HC.out.none, ?_, ?_⟩
  · refine RowAt.set _ (RowAt.set _ (RowAt.set _ (RowAt.set _ (RowAt.set _ HC.out.row ?_) ?_) ?_) ?_) ?_
    all_goals
      intro ad e h
      have := hfar ad e h
      simp
      omega
  · intro ad e h
    have := hfar ad e h
    omega
  · exact ((((HB1.setCell (Nat.le_refl _) _).setCell (Nat.le_succ _) _).setCell (Nat.le_succ _) _).setCell (Nat.le_succ _) _).setCell (Nat.le_succ _) _

theorem info_lsa : (Tryz.prog.info? 91).map (fun i => (i.zero, i.size, i.bytes)) = some (some (.agg #[.int .i64 0, .int .i64 0, .int .i64 0, .slice none 0 0]), 4, 48) := by kernel_rfl
/-- An Lsa with the place of its links. -/
structure LsaV where
  x : Lsa
  B : Option Addr
  c : Nat
def encLsaV (z : LsaV) : List Value := [.int .i64 z.x.router, .int .i64 z.x.serial, .int .i64 z.x.age, .slice z.B z.x.links.length z.c]
/-- The links of all, none of them in the row o, all from the block b on. -/
def LinksIn (b : Nat) (w : World) (o : Option Nat) (zs : List LsaV) : Prop := ∀ z ∈ zs, RowAt encLink 2 w z.B z.x.links ∧ (z.B = none → z.c = 0) ∧ ∀ ad, z.B = some ad → z.x.links ≠ [] → some ad.block ≠ o ∧ b ≤ ad.block
theorem LinksIn.nil {b : Nat} {w : World} {o : Option Nat} : LinksIn b w o [] := fun z hz => by cases hz
/-- From the block b on all is alike. -/
def Above (b : Nat) (w w' : World) : Prop := ∀ k, b ≤ k → k < w.heap.size → w'.heap[k]? = w.heap[k]?
theorem Above.refl (b : Nat) (w : World) : Above b w w := fun _ _ _ => rfl
theorem Above.of {b : Nat} {w w' : World} (h : Below w.heap.size w w') : Above b w w' := fun k _ hk => h.block k hk
theorem Above.set {b : Nat} {w w' : World} {p : Addr} (h : Above b w w') (hp : p.block < b) (u : Value) : Above b w (w'.setCell p u) := fun k hk hk2 => (Below.heap_setCell w' p u k (by omega)).trans (h k hk hk2)
theorem RowAt.above {α : Type} {f : α → List Value} {size b : Nat} {w w' : World} {A : Option Addr} {xs : List α} (h : RowAt f size w A xs) (hn : ∀ ad, A = some ad → xs ≠ [] → b ≤ ad.block) (ha : Above b w w') : RowAt f size w' A xs := by
  intro j x hx
  obtain ⟨ad, e, hc⟩ := h j x hx
  refine ⟨ad, e, fun i v hv => (World.cell?_of_block (ha _ ?_ (World.block_lt_of_cell? w _ (hc i v hv)))).trans (hc i v hv)⟩
  have hb : ((ad.add (j * size)).add i).block = ad.block := by
    rw [add_twice]
    unfold Addr.add
    split <;> rfl
  rw [hb]
  exact hn ad e (fun h => by rw [h] at hx; simp at hx)

theorem links_step {b : Nat} {wr w1 w2 : World} {v v' : Value} {zs : List LsaV} {z : LsaV} {o : Obj} (hL : LinksIn b wr v.ownBlock zs) (hbw : b ≤ wr.heap.size) (hb1 : Below wr.heap.size wr w1) (hz : RowAt encLink 2 w1 z.B z.x.links) (hn : z.B = none → z.c = 0)
    (hfar : ∀ ad, z.B = some ad → z.x.links ≠ [] → wr.heap.size ≤ ad.block) (hv : ∀ k, v.ownBlock = some k → k < wr.heap.size) (hg : (w1.alloc o).grownBy w2 v.ownBlock)
    (hat : v'.ownBlock = v.ownBlock ∨ v'.ownBlock = some (w1.heap.size + 1)) : LinksIn b w2 v'.ownBlock (zs ++ [z]) := by
  have hsz : (w1.alloc o).heap.size = w1.heap.size + 1 := by simp
  have hal : Below w1.heap.size w1 (w1.alloc o) := (Below.refl _ _).alloc (Nat.le_refl _) _
  have key : ∀ y : LsaV, RowAt encLink 2 w1 y.B y.x.links → (∀ ad, y.B = some ad → y.x.links ≠ [] → some ad.block ≠ v.ownBlock ∧ b ≤ ad.block) →
      RowAt encLink 2 w2 y.B y.x.links ∧ ∀ ad, y.B = some ad → y.x.links ≠ [] → some ad.block ≠ v'.ownBlock ∧ b ≤ ad.block := by
    intro y hy hne
    refine ⟨(hy.below hal).grown hg (fun ad e hl => (hne ad e hl).1), fun ad e hl => ⟨?_, (hne ad e hl).2⟩⟩
    rcases hat with h | h
    · rw [h]
      exact (hne ad e hl).1
    · rw [h]
      rw [e] at hy
      have := RowAt.lt (f := encLink) (size := 2) (fun _ => rfl) (by decide) hy hl
      simp only [ne_eq, Option.some.injEq]
      omega
  intro y hy
  rcases List.mem_append.mp hy with h | h
  · obtain ⟨h1, h2, h3⟩ := hL y h
    obtain ⟨k1, k2⟩ := key y (h1.below hb1) h3
    exact ⟨k1, h2, k2⟩
  · obtain rfl := List.mem_singleton.mp h
    obtain ⟨k1, k2⟩ := key y hz (fun ad e hl => ⟨fun h => by
      have h1 := hfar ad e hl
      have h2 := hv _ h.symm
      omega, Nat.le_trans hbw (hfar ad e hl)⟩)
    exact ⟨k1, hn, k2⟩

theorem LsasAt.ofV {b : Nat} {w : World} {o : Option Nat} {A : Option Addr} {zs : List LsaV} (h : RowAt encLsaV 4 w A zs) (hL : LinksIn b w o zs) (hs : ∀ z ∈ zs, z.x.links.length ≤ 140737488355328) : LsasAt w A (zs.map LsaV.x) := by
  intro j x hx
  rw [List.getElem?_map] at hx
  cases hz : zs[j]? with
  | none => rw [hz] at hx; cases hx
  | some z =>
    rw [hz] at hx
    simp at hx
    subst hx
    obtain ⟨ad, e, hc⟩ := h j z hz
    have hm := List.mem_of_getElem? hz
    obtain ⟨h1, h2, _⟩ := hL z hm
    exact ⟨ad, z.B, z.c, e, hc 0 _ rfl, by rw [← add_one _ 1 (by decide)]; exact hc 1 _ rfl, by rw [← add_one _ 2 (by decide)]; exact hc 2 _ rfl, by rw [← add_one _ 3 (by decide)]; exact hc 3 _ rfl, h1, hs z hm, h2⟩
theorem take_succ_at {α : Type} [Inhabited α] (xs : List α) (k : Nat) (h : k < xs.length) : xs.take (k + 1) = xs.take k ++ [at_ xs k] := by
  rw [List.take_add_one, at_get xs k h]
  rfl
def LsasCopied (xs : List Lsa) (w : World) (e : Ending) (w' : World) : Prop := ∃ A c, e = .returned (.slice A xs.length c) ∧ (∀ W, Above w.heap.size w' W → LsasAt W A xs) ∧ (A = none → c = 0) ∧ Below w.heap.size w w'

set_option maxRecDepth 100000 in
set_option maxHeartbeats 2000000 in
theorem copyLsas_calls (A : Option Addr) (c : Nat) (xs : List Lsa) (w : World) (hA : LsasAt w A xs) (hl : xs.length * 48 ≤ 140737488355328) (hls : ∀ a ∈ xs, a.links.length * 16 ≤ 140737488355328) :
    Calls Tryz.prog 79 #[.slice A xs.length c] w (LsasCopied xs w) := by
  obtain ⟨i0, hi, hz0, hz1, hz2⟩ := info_parts info_lsa
  have HI := Lib.hid hi
  have Z0 := Lib.hid hz0
  have Z1 := Lib.hid hz1
  have Z2 := Lib.hid hz2
  clear hi hz0 hz1 hz2
  have h0 : (0 : Int) ≤ (xs.length : Int) := by omega
  have h1 : (xs.length : Int) ≤ 140737488355328 := by omega
  have HA := Lib.hid hA
  have HLS := Lib.hid hls
  have HN := Lib.hid hl
  clear hA hls hl
  go_enter Tryz.func79, Tryz.ntmps79
  go_wp2_with fail
  go_loopw [3, 4] (fun v i wr => ∃ (k : Nat) (zs : List LsaV), k ≤ xs.length ∧ i = .int .i64 k ∧ Hid (zs.length = k) ∧ Hid (zs.map LsaV.x = xs.take k) ∧ Hid (wr.ownsRow w.heap.size 91 4 v k (zs.flatMap encLsaV)) ∧ Hid (LinksIn w.heap.size wr v.ownBlock zs) ∧ Below w.heap.size w wr) (fun _ i _ => xs.length - (intOf i).toNat)
  case atStart => exact ⟨0, [], Nat.zero_le _, rfl, rfl, rfl, World.ownsRow_nil _ _ _ _, LinksIn.nil, Below.refl _ _⟩
  case round =>
    obtain ⟨k, zs, hk, rfl, HZ, HX, HO, HK, HB⟩ := hrel
    by_cases hlt : k < xs.length
    · have hlt1 : (k : Int) < (xs.length : Int) := by omega
      obtain ⟨ad, B, cb, rfl, c0, c1, c2, c3, hr, -, hnil⟩ := (HA.out.below HB) k _ (at_get xs k hlt)
      have hm : at_ xs k ∈ xs := List.mem_of_getElem? (at_get xs k hlt)
      have HC := Lib.hid (copyLsa_calls (at_ xs k) B cb wr hr hnil (HLS.out _ hm))
      have HT := Lib.hid (take_succ_at xs k hlt)
      clear hnil hm hr
      generalize at_ xs k = a at *
      go_wp2_with fail
      ((with_reducible refine HC.out.mono ?_); rintro e w1 ⟨A', c', rfl, hr', hn', hfar, hb1⟩)
      have HR1 := Lib.hid hr'
      have HN1 := Lib.hid hn'
      have HF1 := Lib.hid hfar
      clear hr' hn' hfar
      have HO1 := Lib.hid (World.ownsRow.below HO.out hb1)
      have hlt2 := HO.out.lt
      have HW := HB.trans (hb1.mono HB.size)
      have HB1 := Lib.hid hb1
      have HLT := Lib.hid hlt2
      clear hb1 hlt2 c0 c1 c2 c3 HC
      go_wp2_with (at_builtin; refine wpList_append_own_at _ rfl _ _ 46 rfl w.heap.size 91 i0 _ 4 48 Tryz.underlying46 HI.out Z0.out Z1.out Z2.out rfl (by decide) _ _ _ rfl (HO1.out.alloc _) ⟨w1.heap.size, 0, none⟩ 1 1 (encLsaV ⟨a, A', c'⟩) rfl rfl ?c1 ?c2 ?c3 ?c4 ?c5 ?_)
      case c1 => exact World.news_of_block (heap_alloc_new _ _)
      case c2 =>
        intro u hu
        simp [encLsaV] at hu
        rcases hu with rfl | rfl | rfl | rfl <;> rfl
      case c3 => have := HN.out; unfold maxLen; omega
      case c4 => have := HN.out; omega
      case c5 => have := HW.size; simp; omega
      intro v' w2 hown2 hgrow hnil2 hat
      have HK2 := Lib.hid (links_step HK.out HB.size HB1.out (z := ⟨a, A', c'⟩) HR1.out HN1.out HF1.out (fun q hq => (HLT.out q hq).2) hgrow hat)
      have HO2 := Lib.hid hown2
      have HW2 : Below w.heap.size w w2 := (HW.alloc HW.size _).grown hgrow (by have := HW.size; simp; omega) (fun q hq => (HLT.out q hq).1)
      clear hown2 hgrow hat hnil2
      go_wp2_with fail
      go_roundw
      case rel =>
        refine ⟨k + 1, zs ++ [⟨a, A', c'⟩], hlt, by go_num, ?_, ?_, ?_, HK2, HW2⟩
        · show (zs ++ [_]).length = k + 1
          rw [List.length_append, HZ.out]
          rfl
        · show (zs ++ [_]).map LsaV.x = xs.take (k + 1)
          rw [HT.out, List.map_append, HX.out]
          rfl
        · show World.ownsRow _ _ _ _ _ _ _
          rw [List.flatMap_append]
          simpa using HO2.out
      case measure => simp [intOf]; omega
    · obtain rfl : k = xs.length := by omega
      go_wp2_with fail
      have hlen := HZ.out
      have hmap := HX.out
      rw [List.take_length] at hmap
      have hown := HO.out
      rw [← hlen] at hown
      obtain ⟨A', c', rfl, hr, hn⟩ := RowAt.owned (f := encLsaV) (fun _ => rfl) hown
      have hat : ∀ W, Above w.heap.size wr W → LsasAt W A' xs := fun W ha => by
        have h := LsasAt.ofV (b := w.heap.size) (o := (Value.slice A' zs.length c').ownBlock) (hr.above (fun ad e _ => (own_block hown ad e).1) ha) (fun z hz => ⟨(HK.out z hz).1.above (fun ad e h => ((HK.out z hz).2.2 ad e h).2) ha, (HK.out z hz).2⟩) (fun z hz => by
          have := HLS.out z.x (by rw [← hmap]; exact List.mem_map.mpr ⟨z, hz, rfl⟩)
          omega)
        rw [hmap] at h
        exact h
      go_ret
      exact ⟨A', c', by rw [hlen]; rfl, hat, hn, HB⟩

end Go.Proofs.YtpgkgpecbjjifaaGreat
