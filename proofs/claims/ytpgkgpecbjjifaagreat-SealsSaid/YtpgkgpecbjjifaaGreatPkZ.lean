/- An argument's lists and structs, read: their cells, their sizes. -/
import Derived.Test.YtpgkgpecbjjifaaGreatPkR
import Derived.ProofKit
import Derived.OpenShut
import Derived.ShutString
import Derived.SizedLaws
import Derived.Deep.Fields
import Derived.ChangeSame
namespace Go.Proofs.YtpgkgpecbjjifaaGreat
open Go.RowKit Sha
open Go.ChangeShapes Go.WideShapes Go.Deep
set_option linter.unusedVariables false


theorem list_of {α : Type} (Q : Nat → α → Prop) : ∀ n, (∀ i, i < n → ∃ x, Q i x) → ∃ xs : List α, xs.length = n ∧ ∀ i x, xs[i]? = some x → Q i x
  | 0, _ => ⟨[], rfl, fun i x h => by simp at h⟩
  | n + 1, h => by
    obtain ⟨xs, hl, hq⟩ := list_of Q n (fun i hi => h i (by omega))
    obtain ⟨x, hx⟩ := h n (by omega)
    refine ⟨xs ++ [x], by simp [hl], fun i y hy => ?_⟩
    by_cases hi : i < xs.length
    · rw [List.getElem?_append_left hi] at hy
      exact hq i y hy
    · rw [List.getElem?_append_right (by omega)] at hy
      by_cases h0 : i - xs.length = 0
      · rw [h0] at hy
        simp at hy
        obtain rfl : i = n := by omega
        rw [← hy]
        exact hx
      · have : (([x] : List α)[i - xs.length]?) = none := List.getElem?_eq_none (by simp; omega)
        rw [this] at hy
        cases hy

section
variable {H : Type} {enc : TypeId × Value → H} {P : Program} {w : World} {base : Nat} {spare : Nat → Bool} {held : Bool}

/-- No part of a datum weighs more than the reach. -/
def Fit (P : Program) (t : TypeId) (d : DataW H) : Prop := ∀ n ∈ d.weights P t, n ≤ reachBytes

theorem mem_weightsAll {e : TypeId} {n : Nat} : ∀ {ds : List (DataW H)} {d : DataW H}, d ∈ ds → n ∈ d.weights P e → n ∈ DataW.weightsAll P e ds
  | x :: ds, d, hd, hn => by
    simp only [DataW.weightsAll, List.mem_append]
    rcases List.mem_cons.mp hd with rfl | h
    · exact .inl hn
    · exact .inr (mem_weightsAll h hn)

theorem Fit.arg {ts : List TypeId} {ds : List (DataW H)} (h : (DataW.weightsEach P ts ds).all (· ≤ reachBytes) = true) (j : Nat) {t : TypeId} {d : DataW H} (ht : ts[j]? = some t) (hd : ds[j]? = some d) : Fit P t d := by
  intro n hn
  have := List.all_eq_true.1 h _ (DataW.weights_mem_each ht hd n hn)
  simpa using this

theorem Fit.field {t : TypeId} {fs : Array Field} {parts : List (DataW H)} (h : Fit P t (.agg parts)) (ht : P.underlying t = some (.struct fs)) (j : Nat) {f : Field} {d : DataW H} (hf : fs[j]? = some f) (hd : parts[j]? = some d) : Fit P f.type d := by
  intro n hn
  refine h n ?_
  simp only [DataW.weights, ht]
  refine DataW.weights_mem_each (j := j) ?_ hd n hn
  rw [List.getElem?_map, Array.getElem?_toList, hf]
  rfl

/-- A list's elements, each read by its own rule. -/
theorem read_row {α : Type} {t e : TypeId} {fuel k B : Nat} {v : Value} {y : DataW H × List MemPlace} (Q : α → List Value → Prop) (ht : P.underlying t = some (.slice e)) (hC : P.cellsOf e = k) (hB : P.bytesOf e = B)
    (hel : ∀ n cs d, DataW.trod enc P w base spare held n e cs = some d → Fit P e d.1 → ∃ x, Q x cs)
    (h : DataW.trod enc P w base spare held fuel t [v] = some y) (hf : Fit P t y.1) :
    ∃ (A : Option Addr) (xs : List α) (c : Nat), v = .slice A xs.length c ∧ (A = none → c = 0) ∧ xs.length * B ≤ reachBytes ∧
      ∀ j x, xs[j]? = some x → ∃ ad cs, A = some ad ∧ Q x cs ∧ ∀ i u, cs[i]? = some u → w.cell? ((ad.add (j * k)).add i) = some u := by
  rcases open_slice ht h with ⟨hv, _⟩ | ⟨a, len, cap, m, n, D, Pl, hv, _, hl, _, hm, hy, hi⟩
  · simp at hv
    exact ⟨none, [], 0, hv, fun _ => rfl, by simp, fun j x hx => by simp at hx⟩
  · have hlm : len ≤ m := by rw [hm]; split <;> omega
    subst hy
    have hw : (((List.range len).map D).length + ((List.range (m - len)).map fun j => D (len + j)).length) * P.bytesOf e ≤ reachBytes := hf _ (by simp [DataW.weights, ht])
    obtain ⟨xs, hxl, hxs⟩ := list_of (fun j (x : α) => ∃ cs, Q x cs ∧ ∀ i u, cs[i]? = some u → w.cell? ((a.add (j * k)).add i) = some u) len (fun j hj => by
      obtain ⟨cs', hc, ht'⟩ := hi j (by omega)
      obtain ⟨x, hx⟩ := hel n cs' _ ht' (fun n' hn' => hf n' (by
        simp only [DataW.weights, ht]
        refine List.mem_cons_of_mem _ (List.mem_append_left _ (mem_weightsAll (d := D j) ?_ hn'))
        exact List.mem_map.mpr ⟨j, List.mem_range.mpr hj, rfl⟩))
      obtain ⟨_, hcl, hat⟩ := World.cells?_some hc
      rw [hC] at hcl hat
      refine ⟨x, cs', hx, fun i u hu => ?_⟩
      have hik : i < k := by
        by_cases h : i < k
        · exact h
        · rw [List.getElem?_eq_none (by omega)] at hu
          cases hu
      rw [← hu]
      exact hat i hik)
    simp at hv
    refine ⟨some a, xs, cap, by rw [hv, hxl], (fun h => by cases h), ?_, fun j x hx => ?_⟩
    · rw [hB] at hw
      simp at hw
      rw [hxl]
      refine Nat.le_trans (Nat.mul_le_mul_right _ ?_) hw
      omega
    · obtain ⟨cs, hq, hc⟩ := hxs j x hx
      exact ⟨a, cs, rfl, hq, hc⟩

theorem trod_fields2 {t : TypeId} {f0 f1 : Field} {fuel : Nat} {cs : List Value} {x : DataW H × List MemPlace} (ht : P.underlying t = some (.struct #[f0, f1])) (hone : oneCellFields P #[f0, f1] = true) (hC : P.cellsOf t = 2)
    (h : DataW.trod enc P w base spare held fuel t cs = some x) :
    ∃ (v0 v1 : Value) (y0 y1 : DataW H × List MemPlace) (n : Nat), cs = [v0, v1] ∧ x.1 = .agg [y0.1, y1.1] ∧ DataW.trod enc P w base spare held n f0.type [v0] = some y0 ∧ DataW.trod enc P w base spare held n f1.type [v1] = some y1 := by
  obtain ⟨xs, n, _, hx, hl, hlen, hg⟩ := DataW.trod_struct ht h
  rw [hC] at hl
  obtain ⟨o0, k0⟩ := hone_of hone 0 f0 rfl
  obtain ⟨o1, k1⟩ := hone_of hone 1 f1 rfl
  match cs, hl, xs, hlen with
  | [c0, c1], _, [y0, y1], _ =>
    refine ⟨c0, c1, y0, y1, n, rfl, by rw [hx]; rfl, by simpa [o0, k0] using hg 0 f0 rfl, by simpa [o1, k1] using hg 1 f1 rfl⟩

theorem trod_fields4 {t : TypeId} {f0 f1 f2 f3 : Field} {fuel : Nat} {cs : List Value} {x : DataW H × List MemPlace} (ht : P.underlying t = some (.struct #[f0, f1, f2, f3])) (hone : oneCellFields P #[f0, f1, f2, f3] = true) (hC : P.cellsOf t = 4)
    (h : DataW.trod enc P w base spare held fuel t cs = some x) :
    ∃ (v0 v1 v2 v3 : Value) (y0 y1 y2 y3 : DataW H × List MemPlace) (n : Nat), cs = [v0, v1, v2, v3] ∧ x.1 = .agg [y0.1, y1.1, y2.1, y3.1] ∧ DataW.trod enc P w base spare held n f0.type [v0] = some y0 ∧ DataW.trod enc P w base spare held n f1.type [v1] = some y1 ∧ DataW.trod enc P w base spare held n f2.type [v2] = some y2 ∧ DataW.trod enc P w base spare held n f3.type [v3] = some y3 := by
  obtain ⟨xs, n, _, hx, hl, hlen, hg⟩ := DataW.trod_struct ht h
  rw [hC] at hl
  obtain ⟨o0, k0⟩ := hone_of hone 0 f0 rfl
  obtain ⟨o1, k1⟩ := hone_of hone 1 f1 rfl
  obtain ⟨o2, k2⟩ := hone_of hone 2 f2 rfl
  obtain ⟨o3, k3⟩ := hone_of hone 3 f3 rfl
  match cs, hl, xs, hlen with
  | [c0, c1, c2, c3], _, [y0, y1, y2, y3], _ =>
    refine ⟨c0, c1, c2, c3, y0, y1, y2, y3, n, rfl, by rw [hx]; rfl, by simpa [o0, k0] using hg 0 f0 rfl, by simpa [o1, k1] using hg 1 f1 rfl, by simpa [o2, k2] using hg 2 f2 rfl, by simpa [o3, k3] using hg 3 f3 rfl⟩

theorem trod_fields5 {t : TypeId} {f0 f1 f2 f3 f4 : Field} {fuel : Nat} {cs : List Value} {x : DataW H × List MemPlace} (ht : P.underlying t = some (.struct #[f0, f1, f2, f3, f4])) (hone : oneCellFields P #[f0, f1, f2, f3, f4] = true) (hC : P.cellsOf t = 5)
    (h : DataW.trod enc P w base spare held fuel t cs = some x) :
    ∃ (v0 v1 v2 v3 v4 : Value) (y0 y1 y2 y3 y4 : DataW H × List MemPlace) (n : Nat), cs = [v0, v1, v2, v3, v4] ∧ x.1 = .agg [y0.1, y1.1, y2.1, y3.1, y4.1] ∧ DataW.trod enc P w base spare held n f0.type [v0] = some y0 ∧ DataW.trod enc P w base spare held n f1.type [v1] = some y1 ∧ DataW.trod enc P w base spare held n f2.type [v2] = some y2 ∧ DataW.trod enc P w base spare held n f3.type [v3] = some y3 ∧ DataW.trod enc P w base spare held n f4.type [v4] = some y4 := by
  obtain ⟨xs, n, _, hx, hl, hlen, hg⟩ := DataW.trod_struct ht h
  rw [hC] at hl
  obtain ⟨o0, k0⟩ := hone_of hone 0 f0 rfl
  obtain ⟨o1, k1⟩ := hone_of hone 1 f1 rfl
  obtain ⟨o2, k2⟩ := hone_of hone 2 f2 rfl
  obtain ⟨o3, k3⟩ := hone_of hone 3 f3 rfl
  obtain ⟨o4, k4⟩ := hone_of hone 4 f4 rfl
  match cs, hl, xs, hlen with
  | [c0, c1, c2, c3, c4], _, [y0, y1, y2, y3, y4], _ =>
    refine ⟨c0, c1, c2, c3, c4, y0, y1, y2, y3, y4, n, rfl, by rw [hx]; rfl, by simpa [o0, k0] using hg 0 f0 rfl, by simpa [o1, k1] using hg 1 f1 rfl, by simpa [o2, k2] using hg 2 f2 rfl, by simpa [o3, k3] using hg 3 f3 rfl, by simpa [o4, k4] using hg 4 f4 rfl⟩

theorem trod_fields6 {t : TypeId} {f0 f1 f2 f3 f4 f5 : Field} {fuel : Nat} {cs : List Value} {x : DataW H × List MemPlace} (ht : P.underlying t = some (.struct #[f0, f1, f2, f3, f4, f5])) (hone : oneCellFields P #[f0, f1, f2, f3, f4, f5] = true) (hC : P.cellsOf t = 6)
    (h : DataW.trod enc P w base spare held fuel t cs = some x) :
    ∃ (v0 v1 v2 v3 v4 v5 : Value) (y0 y1 y2 y3 y4 y5 : DataW H × List MemPlace) (n : Nat), cs = [v0, v1, v2, v3, v4, v5] ∧ x.1 = .agg [y0.1, y1.1, y2.1, y3.1, y4.1, y5.1] ∧ DataW.trod enc P w base spare held n f0.type [v0] = some y0 ∧ DataW.trod enc P w base spare held n f1.type [v1] = some y1 ∧ DataW.trod enc P w base spare held n f2.type [v2] = some y2 ∧ DataW.trod enc P w base spare held n f3.type [v3] = some y3 ∧ DataW.trod enc P w base spare held n f4.type [v4] = some y4 ∧ DataW.trod enc P w base spare held n f5.type [v5] = some y5 := by
  obtain ⟨xs, n, _, hx, hl, hlen, hg⟩ := DataW.trod_struct ht h
  rw [hC] at hl
  obtain ⟨o0, k0⟩ := hone_of hone 0 f0 rfl
  obtain ⟨o1, k1⟩ := hone_of hone 1 f1 rfl
  obtain ⟨o2, k2⟩ := hone_of hone 2 f2 rfl
  obtain ⟨o3, k3⟩ := hone_of hone 3 f3 rfl
  obtain ⟨o4, k4⟩ := hone_of hone 4 f4 rfl
  obtain ⟨o5, k5⟩ := hone_of hone 5 f5 rfl
  match cs, hl, xs, hlen with
  | [c0, c1, c2, c3, c4, c5], _, [y0, y1, y2, y3, y4, y5], _ =>
    refine ⟨c0, c1, c2, c3, c4, c5, y0, y1, y2, y3, y4, y5, n, rfl, by rw [hx]; rfl, by simpa [o0, k0] using hg 0 f0 rfl, by simpa [o1, k1] using hg 1 f1 rfl, by simpa [o2, k2] using hg 2 f2 rfl, by simpa [o3, k3] using hg 3 f3 rfl, by simpa [o4, k4] using hg 4 f4 rfl, by simpa [o5, k5] using hg 5 f5 rfl⟩

theorem el_int {n : Nat} {cs : List Value} {d : DataW H × List MemPlace} (h : DataW.trod enc Tryz.prog w base spare held n 3 cs = some d) : ∃ x : Int, cs = encInt x := by
  obtain ⟨a, e0, _, _⟩ := DataW.trod_int Tryz.underlying3 h
  exact ⟨a, e0⟩
theorem one_int {n : Nat} {v : Value} {d : DataW H × List MemPlace} (h : DataW.trod enc Tryz.prog w base spare held n 3 [v] = some d) : ∃ x : Int, v = .int .i64 x := by
  obtain ⟨a, e0, _, _⟩ := DataW.trod_int Tryz.underlying3 h
  simp at e0
  exact ⟨a, e0⟩
theorem el_link {n : Nat} {cs : List Value} {d : DataW H × List MemPlace} (h : DataW.trod enc Tryz.prog w base spare held n 179 cs = some d) : ∃ x : Link, cs = encLink x := by
  obtain ⟨v0, v1, y0, y1, m, rfl, _, h0, h1⟩ := trod_fields2 Tryz.underlying179 (by kernel_rfl) (by kernel_rfl) h
  obtain ⟨a, rfl⟩ := one_int h0
  obtain ⟨b, rfl⟩ := one_int h1
  exact ⟨⟨a, b⟩, rfl⟩
theorem el_head {n : Nat} {cs : List Value} {d : DataW H × List MemPlace} (h : DataW.trod enc Tryz.prog w base spare held n 214 cs = some d) : ∃ x : Head, cs = encHead x := by
  obtain ⟨v0, v1, v2, v3, y0, y1, y2, y3, m, rfl, _, h0, h1, h2, h3⟩ := trod_fields4 Tryz.underlying214 (by kernel_rfl) (by kernel_rfl) h
  obtain ⟨a, rfl⟩ := one_int h0
  obtain ⟨b, rfl⟩ := one_int h1
  obtain ⟨c, rfl⟩ := one_int h2
  obtain ⟨e, rfl⟩ := one_int h3
  exact ⟨⟨a, b, c, e⟩, rfl⟩
theorem RowAt.of {α : Type} {f : α → List Value} {k : Nat} {A : Option Addr} {xs : List α} (h : ∀ j x, xs[j]? = some x → ∃ ad cs, A = some ad ∧ cs = f x ∧ ∀ i u, cs[i]? = some u → w.cell? ((ad.add (j * k)).add i) = some u) : RowAt f k w A xs := by
  intro j x hx
  obtain ⟨ad, cs, e, rfl, hc⟩ := h j x hx
  exact ⟨ad, e, hc⟩
/-- An Lsa's cells. -/
def LsaCells (w : World) (x : Lsa) (cs : List Value) : Prop :=
  ∃ B c, cs = [.int .i64 x.router, .int .i64 x.serial, .int .i64 x.age, .slice B x.links.length c] ∧ RowAt encLink 2 w B x.links ∧ x.links.length * 16 ≤ 140737488355328 ∧ (B = none → c = 0)
theorem el_lsa {n : Nat} {cs : List Value} {d : DataW H × List MemPlace} (h : DataW.trod enc Tryz.prog w base spare held n 91 cs = some d) (hf : Fit Tryz.prog 91 d.1) : ∃ x, LsaCells w x cs := by
  obtain ⟨v0, v1, v2, v3, y0, y1, y2, y3, m, rfl, hd, h0, h1, h2, h3⟩ := trod_fields4 Tryz.underlying91 (by kernel_rfl) (by kernel_rfl) h
  obtain ⟨a, rfl⟩ := one_int h0
  obtain ⟨b, rfl⟩ := one_int h1
  obtain ⟨c, rfl⟩ := one_int h2
  rw [hd] at hf
  obtain ⟨B, xs, k, rfl, hz, hs, hr⟩ := read_row (fun (x : Link) cs => cs = encLink x) Tryz.underlying75 (by kernel_rfl) (by kernel_rfl) (fun _ _ _ h _ => el_link h) h3 (hf.field Tryz.underlying91 3 rfl rfl)
  exact ⟨⟨a, b, c, xs⟩, B, k, rfl, RowAt.of hr, Nat.le_trans hs (by decide), hz⟩
theorem LsasAt.of {A : Option Addr} {xs : List Lsa} (h : ∀ j x, xs[j]? = some x → ∃ ad cs, A = some ad ∧ LsaCells w x cs ∧ ∀ i u, cs[i]? = some u → w.cell? ((ad.add (j * 4)).add i) = some u) : LsasAt w A xs := by
  intro j x hx
  obtain ⟨ad, cs, e, ⟨B, c, rfl, hr, hl, hz⟩, hc⟩ := h j x hx
  exact ⟨ad, B, c, e, hc 0 _ rfl, by rw [← add_one _ 1 (by decide)]; exact hc 1 _ rfl, by rw [← add_one _ 2 (by decide)]; exact hc 2 _ rfl, by rw [← add_one _ 3 (by decide)]; exact hc 3 _ rfl, hr, by omega, hz⟩
theorem LsasAt.links_of {A : Option Addr} {xs : List Lsa} (h : ∀ j x, xs[j]? = some x → ∃ ad cs, A = some ad ∧ LsaCells w x cs ∧ ∀ i u, cs[i]? = some u → w.cell? ((ad.add (j * 4)).add i) = some u) : ∀ a ∈ xs, a.links.length * 16 ≤ 140737488355328 := by
  intro a ha
  obtain ⟨j, hj⟩ := List.getElem?_of_mem ha
  obtain ⟨_, _, _, ⟨_, _, _, _, hl, _⟩, _⟩ := h j a hj
  exact hl

set_option maxRecDepth 100000 in
/-- A packet as an argument. -/
theorem read_packet {r : Reach} {b0 : Nat} {v : Value} {d : DataW H} {p : List MemPlace} (hv : Value.okWide Tryz.prog w r b0 49 v) (h : DataW.Trod enc Tryz.prog w base spare held 49 v d p) (hf : Fit Tryz.prog 49 d) :
    ∃ (q : Packet) (A1 A2 A3 : Option Addr) (k1 k2 k3 : Nat), v = .agg #[.int .i64 q.kind, .int .i64 q.router, .slice A1 q.heard.length k1, .slice A2 q.lsas.length k2, .slice A3 q.heads.length k3] ∧ PktAt w A1 A2 A3 k1 k2 k3 q := by
  obtain ⟨cs, rfl, _⟩ := okWide_struct Tryz.underlying49 hv
  obtain ⟨l⟩ := cs
  obtain ⟨fuel, h⟩ := h
  obtain ⟨v0, v1, v2, v3, v4, y0, y1, y2, y3, y4, m, hl, hd, h0, h1, h2, h3, h4⟩ := trod_fields5 Tryz.underlying49 (by kernel_rfl) (by kernel_rfl) h
  obtain rfl : l = [v0, v1, v2, v3, v4] := hl
  have hd' : d = _ := hd
  rw [hd'] at hf
  obtain ⟨a, rfl⟩ := one_int h0
  obtain ⟨b, rfl⟩ := one_int h1
  have hu := Tryz.underlying49
  obtain ⟨A1, xs, k1, rfl, z1, s1, r1⟩ := read_row (fun (x : Int) cs => cs = encInt x) Tryz.underlying22 (by kernel_rfl) (by kernel_rfl) (fun _ _ _ h _ => el_int h) h2 (hf.field hu 2 rfl rfl)
  obtain ⟨A2, ls, k2, rfl, z2, s2, r2⟩ := read_row (LsaCells w) Tryz.underlying46 (by kernel_rfl) (by kernel_rfl) (fun _ _ _ h hf => el_lsa h hf) h3 (hf.field hu 3 rfl rfl)
  obtain ⟨A3, hs, k3, rfl, z3, s3, r3⟩ := read_row (fun (x : Head) cs => cs = encHead x) Tryz.underlying47 (by kernel_rfl) (by kernel_rfl) (fun _ _ _ h _ => el_head h) h4 (hf.field hu 4 rfl rfl)
  exact ⟨⟨a, b, xs, ls, hs⟩, A1, A2, A3, k1, k2, k3, rfl, ⟨RowAt.of r1, LsasAt.of r2, RowAt.of r3, Nat.le_trans s1 (by decide), Nat.le_trans s2 (by decide), Nat.le_trans s3 (by decide), LsasAt.links_of r2, z1, z2, z3⟩⟩

set_option maxRecDepth 100000 in
/-- A key as an argument. -/
theorem read_key {r : Reach} {b0 : Nat} {v : Value} {d : DataW H} {p : List MemPlace} (hv : Value.okWide Tryz.prog w r b0 34 v) (h : DataW.Trod enc Tryz.prog w base spare held 34 v d p) (hf : Fit Tryz.prog 34 d) :
    ∃ k : Key, v = .agg #[.int .i64 k.id, .string k.secret, .int .i64 k.sf, .int .i64 k.st, .int .i64 k.af, .int .i64 k.ak] ∧ k.secret.size ≤ 140737488351232 := by
  obtain ⟨cs, rfl, _⟩ := okWide_struct Tryz.underlying34 hv
  obtain ⟨l⟩ := cs
  obtain ⟨fuel, h⟩ := h
  obtain ⟨v0, v1, v2, v3, v4, v5, y0, y1, y2, y3, y4, y5, m, hl, hd, h0, h1, h2, h3, h4, h5⟩ := trod_fields6 Tryz.underlying34 (by kernel_rfl) (by kernel_rfl) h
  obtain rfl : l = [v0, v1, v2, v3, v4, v5] := hl
  have hd' : d = _ := hd
  rw [hd'] at hf
  obtain ⟨a, rfl⟩ := one_int h0
  obtain ⟨s, e1, hy, _⟩ := DataW.trod_string Tryz.underlying9 h1
  simp at e1
  subst e1
  obtain ⟨b, rfl⟩ := one_int h2
  obtain ⟨c, rfl⟩ := one_int h3
  obtain ⟨e, rfl⟩ := one_int h4
  obtain ⟨f, rfl⟩ := one_int h5
  refine ⟨⟨a, s, b, c, e, f⟩, rfl, ?_⟩
  have hw := hf.field Tryz.underlying34 1 (d := y1.1) rfl rfl
  rw [hy] at hw
  have := hw s.size (by simp [DataW.weights])
  exact this

end

end Go.Proofs.YtpgkgpecbjjifaaGreat
