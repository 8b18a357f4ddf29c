/- Arguments opened to what they read as: slices of structs that have slices in them. Over any program. No condition. -/
import Derived.Test.YtplcflifofomjaaS4
import Derived.SizedLaws
namespace Go.Proofs.Ytplcflifofomjaa
open Go.ChangeShapes Go.WideShapes Go.ChangeAt Go.RowKit Go.Deep

section
variable {H : Type} {enc : TypeId × Value → H} {P : Program} {w : World}
/-- all that is weighed of it is within reach -/
def Light (P : Program) (t : TypeId) (d : DataW H) : Prop := ∀ z ∈ d.weights P t, z ≤ reachBytes
theorem light_at {ts : List TypeId} {ds : List (DataW H)} {j : Nat} {t : TypeId} {d : DataW H} (h : (DataW.weightsEach P ts ds).all (· ≤ reachBytes) = true) (ht : ts[j]? = some t) (hd : ds[j]? = some d) : Light P t d := fun z hz => by
  simpa using List.all_eq_true.1 h _ (DataW.weights_mem_each ht hd z hz)
theorem weights_all {e : TypeId} : ∀ {l : List (DataW H)} {d : DataW H}, d ∈ l → ∀ z ∈ d.weights P e, z ∈ DataW.weightsAll P e l
  | [], _, h, _, _ => by cases h
  | x :: l, d, h, z, hz => by
    rw [DataW.weightsAll, List.mem_append]
    rcases List.mem_cons.1 h with rfl | h
    · exact .inl hz
    · exact .inr (weights_all h z hz)
theorem light_len {T E : TypeId} {a : Option Addr} {len cap bytes : Nat} {d : DataW H} {p : List MemPlace} (ht : P.underlying T = some (.slice E)) (hb : P.bytesOf E = bytes) (h0 : 0 < bytes) (hw : Light P T d)
    (h : DataW.Trod enc P w 0 (fun _ => true) true T (.slice a len cap) d p) : len ≤ 140737488355328 := by
  obtain ⟨fuel, hf⟩ := h
  rcases open_slice ht hf with ⟨hcs, _⟩ | ⟨x, l, c, m, n, D, Pl, hcs, _, hl, hm, hmm, hx9, hc⟩
  · simp [Value.cells] at hcs
    obtain ⟨rfl, rfl, rfl⟩ := hcs
    omega
  · simp [Value.cells] at hcs
    obtain ⟨rfl, rfl, rfl⟩ := hcs
    simp only [Prod.mk.injEq] at hx9
    rw [hx9.1] at hw
    have := hw ((((List.range len).map D).length + ((List.range (m - len)).map fun j => D (len + j)).length) * P.bytesOf E) (by simp [DataW.weights, ht])
    simp only [List.length_map, List.length_range, reachBytes] at this
    rw [hb] at this
    have h1 : len * bytes ≤ (len + (m - len)) * bytes := Nat.mul_le_mul_right _ (by omega)
    have h2 : len ≤ len * bytes := Nat.le_mul_of_pos_right _ h0
    omega
theorem sls_ofD {α : Type} (f : α → List Value) (G : α → Prop) {T E : TypeId} {sz bytes : Nat} {a : Option Addr} {len cap : Nat} {d : DataW H} {p : List MemPlace} (ht : P.underlying T = some (.slice E)) (hC : P.cellsOf E = sz) (h0 : 0 < sz) (hb : P.bytesOf E = bytes) (hb0 : 0 < bytes)
    (hread : ∀ n cs y, DataW.trod enc P w 0 (fun _ => true) true n E cs = some y → Light P E y.1 → ∃ x, cs = f x ∧ G x) (hw : Light P T d)
    (h : DataW.Trod enc P w 0 (fun _ => true) true T (.slice a len cap) d p) : ∃ xs, SlS f sz w (.slice a len cap) xs ∧ ∀ x ∈ xs, G x := by
  have hsz := light_len ht hb hb0 hw h
  obtain ⟨fuel, hf⟩ := h
  rcases open_slice ht hf with ⟨hcs, _⟩ | ⟨x, l, c, m, n, D, Pl, hcs, _, hl, hm, hmm, hx9, hc⟩
  · simp [Value.cells] at hcs
    obtain ⟨rfl, rfl, rfl⟩ := hcs
    exact ⟨[], ⟨none, 0, rfl, Nat.zero_le _, ⟨fun _ => rfl, Nat.le_refl _⟩, fun j x hx => by simp at hx⟩, fun x hx => by cases hx⟩
  · simp [Value.cells] at hcs
    obtain ⟨rfl, rfl, rfl⟩ := hcs
    simp only [Prod.mk.injEq] at hx9
    have hlight : ∀ i, i < len → Light P E (D i) := fun i hi z hz => by
      rw [hx9.1] at hw
      refine hw z ?_
      simp only [DataW.weights, ht]
      refine List.mem_cons_of_mem _ (List.mem_append_left _ (weights_all (d := D i) ?_ z hz))
      exact List.mem_map.2 ⟨i, List.mem_range.2 hi, rfl⟩
    simp only [if_true] at hmm
    subst hmm
    rw [hC] at hc
    obtain ⟨xs, hlen, hx⟩ := list_of (Q := fun i y => (∀ j, j < sz → w.cell? ((x.add (i * sz)).add j) = (f y)[j]?) ∧ (f y).length = sz ∧ G y) len (fun i hi => by
      obtain ⟨cs', h1, h2⟩ := hc i (by omega)
      obtain ⟨y, hy, hg⟩ := hread n _ _ h2 (hlight i hi)
      subst hy
      obtain ⟨q1, q2, q3⟩ := World.cells?_some h1
      exact ⟨y, q3, q2, hg⟩)
    subst hlen
    refine ⟨xs, ⟨_, _, rfl, hsz, ⟨(fun h => by cases h), by simpa using hl⟩, fun j y hy => ?_⟩, fun y hy => ?_⟩
    · obtain ⟨hcell, hfl, _⟩ := hx j y hy
      obtain ⟨b, off, spot⟩ := x
      have hlen0 : 0 < xs.length := by have := (List.getElem?_eq_some_iff.1 hy).1; omega
      obtain ⟨y0, hy0⟩ := get_of_lt hlen0
      obtain ⟨hcell0, hfl0, _⟩ := hx 0 y0 hy0
      have hc0 := hcell0 0 h0
      rw [List.getElem?_eq_getElem (by omega)] at hc0
      have hspot : spot = none := by
        have := World.cell?_spot hc0
        simpa [Addr.add] using this
      subst hspot
      have hlt : b < w.heap.size := by
        have := World.block_lt_of_cell? w _ hc0
        simpa [Addr.add] using this
      refine ⟨b, off, rfl, hlt, fun i u hu => ?_⟩
      have hi : i < sz := by have := (List.getElem?_eq_some_iff.1 hu).1; omega
      have := hcell i hi
      rw [add_lit', add_lit', hu, Nat.add_assoc] at this
      exact this
    · obtain ⟨i, hi, he⟩ := List.mem_iff_getElem.1 hy
      exact (hx i y (by rw [← he]; exact List.getElem?_eq_getElem hi)).2.2
/-- a struct's fields, where the struct reads -/
theorem fieldsD {n : Nat} {t : TypeId} {fs : Array Field} {cs : List Value} {x : DataW H × List MemPlace} (ht : P.underlying t = some (.struct fs)) (h : DataW.trod enc P w 0 (fun _ => true) true n t cs = some x) (hw : Light P t x.1) :
    cs.length = P.cellsOf t ∧ ∃ m, ∀ (i : Nat) (f : Field), fs[i]? = some f → ∃ y, DataW.trod enc P w 0 (fun _ => true) true m f.type ((cs.drop f.offset).take (P.cellsOf f.type)) = some y ∧ Light P f.type y.1 := by
  obtain ⟨xs, m, _, hx, hl, hxl, hf⟩ := DataW.trod_struct ht h
  refine ⟨hl, m, fun i f hi => ?_⟩
  have hlt : i < xs.length := by have := (Array.getElem?_eq_some_iff.1 hi).1; omega
  refine ⟨xs[i], by rw [hf i f hi]; exact List.getElem?_eq_getElem hlt, fun z hz => hw z ?_⟩
  rw [hx]
  simp only [DataW.weights, ht]
  refine DataW.weights_mem_each (j := i) (t := f.type) (d := xs[i].1) ?_ ?_ z hz
  · rw [List.getElem?_map, Array.getElem?_toList, hi]; rfl
  · rw [List.getElem?_map, List.getElem?_eq_getElem hlt]; rfl
theorem field_slice {n off : Nat} {T E : TypeId} {cs : List Value} {y : DataW H × List MemPlace} (ht : P.underlying T = some (.slice E)) (h : DataW.trod enc P w 0 (fun _ => true) true n T ((cs.drop off).take 1) = some y) :
    ∃ a len cap, cs[off]? = some (.slice a len cap) ∧ DataW.Trod enc P w 0 (fun _ => true) true T (.slice a len cap) y.1 y.2 := by
  rcases open_slice ht h with ⟨hcs, hx⟩ | ⟨x, l, c, m, n', D, Pl, hcs, _⟩
  · exact ⟨none, 0, 0, one_of hcs, n, by rw [hcs] at h; simpa [Value.cells] using h⟩
  · exact ⟨some x, l, c, one_of hcs, n, by rw [hcs] at h; simpa [Value.cells] using h⟩
end
end Go.Proofs.Ytplcflifofomjaa
