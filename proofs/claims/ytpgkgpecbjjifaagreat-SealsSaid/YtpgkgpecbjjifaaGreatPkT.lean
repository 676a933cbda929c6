/- Lists of the call's own, and copies of lists. -/
import Derived.Test.YtpgkgpecbjjifaaGreatPkM
import Derived.Deep.AppendLies
import Derived.Laws.AppendOwnNone
namespace Go.Proofs.YtpgkgpecbjjifaaGreat
open Go.RowKit Sha

theorem flatMap_at {α : Type} (f : α → List Value) (size : Nat) (hf : ∀ x, (f x).length = size) : ∀ (xs : List α) (j i : Nat) (x : α), xs[j]? = some x → i < size → (xs.flatMap f)[j * size + i]? = (f x)[i]?
  | [], j, i, x, h, _ => by simp at h
  | y :: ys, 0, i, x, h, hi => by
    simp at h
    subst h
    rw [List.flatMap_cons, Nat.zero_mul, Nat.zero_add, List.getElem?_append_left (by rw [hf]; exact hi)]
  | y :: ys, j + 1, i, x, h, hi => by
    rw [List.flatMap_cons, List.getElem?_append_right (by rw [hf, Nat.add_mul]; omega), hf, show (j + 1) * size + i - size = j * size + i by rw [Nat.add_mul]; omega]
    exact flatMap_at f size hf ys j i x (by simpa using h) hi
theorem flatMap_len {α : Type} (f : α → List Value) (size : Nat) (hf : ∀ x, (f x).length = size) : ∀ xs : List α, (xs.flatMap f).length = xs.length * size
  | [] => by simp
  | y :: ys => by rw [List.flatMap_cons, List.length_append, hf, flatMap_len f size hf ys, List.length_cons, Nat.add_mul]; omega
theorem flatMap_all {α : Type} {f : α → List Value} {p : Value → Prop} (h1 : ∀ x, ∀ u ∈ f x, p u) (xs : List α) : ∀ u ∈ xs.flatMap f, p u := by
  intro u hu
  obtain ⟨x, _, hx⟩ := List.mem_flatMap.mp hu
  exact h1 x u hx

theorem addr_add (g i j : Nat) : ((⟨g, 0, none⟩ : Addr).add i).add j = ⟨g, i + j, none⟩ := by
  by_cases hi : i = 0
  · subst hi
    by_cases hj : j = 0
    · subst hj; rfl
    · rw [add_none, add_one _ _ hj]
  · rw [add_one _ _ hi]
    by_cases hj : j = 0
    · subst hj; rw [add_none]; simp
    · rw [add_one _ _ hj]; simp
theorem add_twice (a : Addr) (i j : Nat) : (a.add i).add j = a.add (i + j) := by
  by_cases hi : i = 0
  · subst hi
    rw [add_none, Nat.zero_add]
  · by_cases hj : j = 0
    · subst hj; rw [add_none, Nat.add_zero]
    · rw [add_one _ _ hi, add_one _ _ hj, add_one a (i + j) (by omega)]
      simp [Nat.add_assoc]

/-- A list's cells one by one. -/
theorem RowAt.flat {α : Type} {f : α → List Value} {size : Nat} {w : World} {ad : Addr} {xs : List α} (hf : ∀ x, (f x).length = size) (h : RowAt f size w (some ad) xs) : ∀ j u, (xs.flatMap f)[j]? = some u → w.cell? (ad.add j) = some u := by
  intro j u hu
  have hj : j < xs.length * size := by
    rcases Nat.lt_or_ge j (xs.length * size) with h | h
    · exact h
    · rw [List.getElem?_eq_none (by rw [flatMap_len f size hf]; exact h)] at hu
      cases hu
  have hs : 0 < size := by
    rcases Nat.eq_zero_or_pos size with h0 | h0
    · rw [h0, Nat.mul_zero] at hj; omega
    · exact h0
  have hq : j / size < xs.length := Nat.div_lt_of_lt_mul (by rw [Nat.mul_comm]; exact hj)
  have hr : j % size < size := Nat.mod_lt _ hs
  have hjq : j = j / size * size + j % size := by rw [Nat.mul_comm]; exact (Nat.div_add_mod j size).symm
  have hx : xs[j / size]? = some (xs[j / size]'hq) := List.getElem?_eq_getElem hq
  obtain ⟨a, e, hc⟩ := h _ _ hx
  cases e
  rw [hjq, flatMap_at f size hf xs _ _ _ hx hr] at hu
  have := hc _ _ hu
  rw [add_twice] at this
  rw [hjq]
  exact this

/-- A list that the call owns lies in memory. -/
theorem RowAt.owned {α : Type} {f : α → List Value} {size : Nat} {w : World} {base : Nat} {e : TypeId} {v : Value} {xs : List α} (hf : ∀ x, (f x).length = size) (h : w.ownsRow base e size v xs.length (xs.flatMap f)) :
    ∃ A c, v = .slice A xs.length c ∧ RowAt f size w A xs ∧ (A = none → c = 0) := by
  rcases h.2 with ⟨rfl, h0⟩ | ⟨g, cap, cur, rfl, _, hg, _, _, _, ht⟩
  · have : xs = [] := List.eq_nil_of_length_eq_zero h0
    subst this
    exact ⟨none, 0, rfl, fun j x hx => by simp at hx, fun _ => rfl⟩
  · refine ⟨some ⟨g, 0, none⟩, cap, rfl, fun j x hx => ⟨_, rfl, fun i u hu => ?_⟩, fun h => by cases h⟩
    have hi : i < size := by
      rcases Nat.lt_or_ge i size with h | h
      · exact h
      · rw [List.getElem?_eq_none (by rw [hf]; exact h)] at hu; cases hu
    have hj : j < xs.length := by
      rcases Nat.lt_or_ge j xs.length with h | h
      · exact h
      · rw [List.getElem?_eq_none h] at hx; cases hx
    have h1 := flatMap_at f size hf xs j i x hx hi
    rw [hu, ← ht, List.getElem?_take] at h1
    rw [addr_add, cell_of_row w g _ cur e _ hg]
    split at h1
    · simpa using h1
    · cases h1

theorem World.ownsRow.below {w w' : World} {base : Nat} {e : TypeId} {size : Nat} {v : Value} {n : Nat} {xs : List Value} (h : w.ownsRow base e size v n xs) (hb : Below w.heap.size w w') : w'.ownsRow base e size v n xs := by
  refine ⟨h.1, ?_⟩
  rcases h.2 with h0 | ⟨g, cap, cur, hv, hbg, hg, rest⟩
  · exact .inl h0
  · refine .inr ⟨g, cap, cur, hv, hbg, ?_, rest⟩
    have hlt : g < w.heap.size := by
      rcases Nat.lt_or_ge g w.heap.size with h | h
      · exact h
      · rw [Array.getElem?_eq_none h] at hg; cases hg
    rw [hb.block g hlt, hg]

theorem RowAt.empty {α : Type} {f : α → List Value} {size : Nat} {w : World} {A : Option Addr} : RowAt f size w A ([] : List α) := fun j x hx => by simp at hx

/-- What a copy is: another list of the same elements, in new memory, if there are any. -/
structure Copied {α : Type} (f : α → List Value) (size : Nat) (e : TypeId) (b : Option Addr) (xs : List α) (w : World) (A : Option Addr) (c : Nat) (w' : World) : Prop where
  row : RowAt f size w' A xs
  none : A = .none → c = 0
  below : Below w.heap.size w w'
  own : xs ≠ [] → w'.ownsRow w.heap.size e size (.slice A xs.length c) xs.length (xs.flatMap f)
  nil : xs = [] → A = b ∧ c = 0

section
variable {P : Program}
/-- 'append(l, xs...)', l without a place: a copy. -/
theorem run_copy (w : World) (t ty e : TypeId) (i : TypeInfo) (z : Value) (size bytes : Nat) (ht : P.underlying t = some (.slice e)) (hi : P.info? e = some i) (hz : i.zero = some z)
    (hsize : i.size = size) (hby : i.bytes = bytes) (hzs : z.cells.size = size)
    {α : Type} (f : α → List Value) (hf : ∀ x, (f x).length = size) (b : Option Addr)
    (A : Option Addr) (xs : List α) (c : Nat) (hA : RowAt f size w A xs) (hc : A = none → c = 0) (h63 : xs.length ≤ maxLen) (hbytes : xs.length * bytes ≤ 140737488355328) :
    ∃ A' c' w', (Builtin.append_ #[t, t] ty #[.slice b 0 0, .slice A xs.length c]).run P w = .ok (.slice A' xs.length c') w' ∧ Copied f size e b xs w A' c' w' := by
  subst hsize
  subst hby
  by_cases hx : xs = []
  · subst hx
    refine ⟨b, 0, w, ?_, RowAt.empty, fun _ => rfl, Below.refl _ _, fun h => absurd rfl h, fun _ => ⟨rfl, rfl⟩⟩
    cases A with
    | none =>
      have := hc rfl
      subst this
      cases b <;> simp [Builtin.append_, run_underlying ht, sizeOf, typeInfo, hi, Builtin.lenOf, Builtin.firstCells, storeCells]
    | some ad => cases b <;> simp [Builtin.append_, run_underlying ht, sizeOf, typeInfo, hi, Builtin.lenOf, Builtin.firstCells, storeCells, loadCells, loadCellsFrom]
  · have hn : 0 < xs.length := List.length_pos_iff.mpr hx
    cases A with
    | none =>
      obtain ⟨_, e, _⟩ := hA 0 _ (List.getElem?_eq_getElem hn)
      cases e
    | some ad =>
      have hl := flatMap_len f i.size hf xs
      have hsm : (xs.length : Int) ≤ 9223372036854775807 := by unfold maxLen at h63; omega
      have hge := grownCap_ge w xs.length 0 e
      have hcm := grownCap_le_maxLen w xs.length 0 e h63
      have hown : (w.drew.alloc (.cells ((xs.flatMap f).toArray ++ Builtin.zeroCells z.cells (grownCap w xs.length 0 e - xs.length)) e)).ownsRow w.heap.size e i.size
          (.slice (some ⟨w.heap.size, 0, none⟩) xs.length (grownCap w xs.length 0 e)) xs.length (xs.flatMap f) := by
        refine ⟨hl, .inr ⟨w.heap.size, _, _, rfl, Nat.le_refl _, heap_alloc_new w.drew _, hge, hcm, ?_, ?_⟩⟩
        · simp only [Array.size_append, List.size_toArray, size_zeroCells, hzs, hl, ← Nat.add_mul]
          congr 1
          omega
        · simp only [Array.toList_append]
          rw [← hl]
          exact List.take_left
      obtain ⟨_, _, hv, hr, _⟩ := RowAt.owned hf hown
      have hbl : Below w.heap.size w (w.drew.alloc (.cells ((xs.flatMap f).toArray ++ Builtin.zeroCells z.cells (grownCap w xs.length 0 e - xs.length)) e)) :=
        (Below.refl _ _).drew.alloc (Nat.le_refl _) _
      have hC : Copied f i.size e b xs w (some ⟨w.heap.size, 0, none⟩) (grownCap w xs.length 0 e) (w.drew.alloc (.cells ((xs.flatMap f).toArray ++ Builtin.zeroCells z.cells (grownCap w xs.length 0 e - xs.length)) e)) := by
        refine ⟨?_, (fun h => by cases h), hbl, fun _ => hown, fun h => absurd h hx⟩
        simp only [Value.slice.injEq] at hv
        obtain ⟨rfl, _, rfl⟩ := hv
        exact hr
      refine ⟨_, _, _, ?_, hC⟩
      cases b with
      | none => exact run_append_nil (P := P) w t ty e i z ht hi hz ad xs.length c _ hl (hA.flat hf) hn hsm (by omega)
      | some bd =>
        have := run_append_grow (P := P) w t ty e i z ht hi hz bd 0 0 [] (by simp) (by simp) ad xs.length c _ hl (hA.flat hf) (by omega) (by simpa using hsm) (growslice_fits (by omega) (by simpa using hbytes))
        simpa using this

/-- At the operation. -/
theorem wp_copy {o : Oper} {a : Act} {K : Act → World → Prop} {Q : Exit → Act → World → Prop} (w : World) (s x : Operand) (t : TypeId) (ho : o.op = .call { callee := .builtin .append, args := #[s, x], argTypes := #[t, t] })
    (e : TypeId) (i : TypeInfo) (z : Value) (size bytes : Nat) (ht : P.underlying t = some (.slice e)) (hi : P.info? e = some i) (hz : i.zero = some z)
    (hsize : i.size = size) (hby : i.bytes = bytes) (hzs : z.cells.size = size)
    {α : Type} (f : α → List Value) (hf : ∀ x, (f x).length = size) (b : Option Addr) (hs : a.eval s = .slice b 0 0)
    (A : Option Addr) (xs : List α) (c : Nat) (hx : a.eval x = .slice A xs.length c) (hA : RowAt f size w A xs) (hc : A = none → c = 0) (h63 : xs.length ≤ maxLen) (hbytes : xs.length * bytes ≤ 140737488355328)
    (h : ∀ A' c' w', Copied f size e b xs w A' c' w' → K (a.put o.dst (.slice A' xs.length c')) w') : o.wp P a w K Q := by
  obtain ⟨A', c', w', hr, h2⟩ := run_copy (P := P) w t o.type e i z size bytes ht hi hz hsize hby hzs f hf b A xs c hA hc h63 hbytes
  unfold Oper.wp execOp
  simp only [ho, resolve, invoke, builtin, Sem.run_bind, Sem.run_pure, Result.andThen_ok, List.map_toArray, List.map_cons, List.map_nil, hs, hx, hr]
  exact h A' c' w' h2
theorem wpList_copy {ops : Array Oper} {rest : List Oper} {o : Oper} {a : Act} {Q : Exit → Act → World → Prop} (w : World) (hgd : o.guard = none) (s x : Operand) (t : TypeId) (ho : o.op = .call { callee := .builtin .append, args := #[s, x], argTypes := #[t, t] })
    (e : TypeId) (i : TypeInfo) (z : Value) (size bytes : Nat) (ht : P.underlying t = some (.slice e)) (hi : P.info? e = some i) (hz : i.zero = some z)
    (hsize : i.size = size) (hby : i.bytes = bytes) (hzs : z.cells.size = size)
    {α : Type} (f : α → List Value) (hf : ∀ x, (f x).length = size) (b : Option Addr) (hs : a.eval s = .slice b 0 0)
    (A : Option Addr) (xs : List α) (c : Nat) (hx : a.eval x = .slice A xs.length c) (hA : RowAt f size w A xs) (hc : A = none → c = 0) (h63 : xs.length ≤ maxLen) (hbytes : xs.length * bytes ≤ 140737488355328)
    (h : ∀ A' c' w', Copied f size e b xs w A' c' w' → wpList P ops Q rest (a.put o.dst (.slice A' xs.length c')) w') : wpList P ops Q (o :: rest) a w :=
  wpList_plain hgd fun _ hK => wp_copy w s x t ho e i z size bytes ht hi hz hsize hby hzs f hf b hs A xs c hx hA hc h63 hbytes fun A' c' w' h2 => hK _ _ (h A' c' w' h2)
theorem step_copy {ops : Array Oper} {o : Oper} {a : Act} {K : Act → World → Prop} {Q : Exit → Act → World → Prop} {E : Prop} (w : World) (hgd : o.guard = none) (s x : Operand) (t : TypeId) (ho : o.op = .call { callee := .builtin .append, args := #[s, x], argTypes := #[t, t] })
    (e : TypeId) (i : TypeInfo) (z : Value) (size bytes : Nat) (ht : P.underlying t = some (.slice e)) (hi : P.info? e = some i) (hz : i.zero = some z)
    (hsize : i.size = size) (hby : i.bytes = bytes) (hzs : z.cells.size = size)
    {α : Type} (f : α → List Value) (hf : ∀ x, (f x).length = size) (b : Option Addr) (hs : a.eval s = .slice b 0 0)
    (A : Option Addr) (xs : List α) (c : Nat) (hx : a.eval x = .slice A xs.length c) (hA : RowAt f size w A xs) (hc : A = none → c = 0) (h63 : xs.length ≤ maxLen) (hbytes : xs.length * bytes ≤ 140737488355328)
    (h : ∀ A' c' w', Copied f size e b xs w A' c' w' → K (a.put o.dst (.slice A' xs.length c')) w') :
    if Region.wanted o (yielded ops a.tmps) = true then Oper.wp P o a w K Q else E := by
  have hw : Region.wanted o (yielded ops a.tmps) = true := by simp [Region.wanted, hgd]
  rw [if_pos hw]
  exact wp_copy w s x t ho e i z size bytes ht hi hz hsize hby hzs f hf b hs A xs c hx hA hc h63 hbytes h
end

/-- A row that isn't the one grown lies on. -/
theorem RowAt.grown {α : Type} {f : α → List Value} {size : Nat} {w w' : World} {row : Option Nat} {A : Option Addr} {xs : List α} (h : RowAt f size w A xs) (hg : w.grownBy w' row) (hn : ∀ ad, A = some ad → xs ≠ [] → some ad.block ≠ row) : RowAt f size w' A xs := by
  intro j x hx
  obtain ⟨ad, e, hc⟩ := h j x hx
  refine ⟨ad, e, fun i v hv => (World.cell?_of_block (hg.block _ (World.block_lt_of_cell? w _ (hc i v hv)) ?_)).trans (hc i v hv)⟩
  have hb : ((ad.add (j * size)).add i).block = ad.block := by
    rw [add_twice]
    unfold Addr.add
    split <;> rfl
  rw [hb]
  exact hn ad e (fun h => by rw [h] at hx; simp at hx)
theorem RowAt.lt {α : Type} {f : α → List Value} {size : Nat} {w : World} {ad : Addr} {xs : List α} (hf : ∀ x, (f x).length = size) (hs : 0 < size) (h : RowAt f size w (some ad) xs) (hx : xs ≠ []) : ad.block < w.heap.size := by
  have hn : 0 < xs.length := List.length_pos_iff.mpr hx
  obtain ⟨a, e, hc⟩ := h 0 _ (List.getElem?_eq_getElem hn)
  cases e
  have := World.block_lt_of_cell? w _ (hc 0 _ (List.getElem?_eq_getElem (by rw [hf]; exact hs)))
  rw [add_twice] at this
  revert this
  unfold Addr.add
  split <;> exact id
end Go.Proofs.YtpgkgpecbjjifaaGreat
