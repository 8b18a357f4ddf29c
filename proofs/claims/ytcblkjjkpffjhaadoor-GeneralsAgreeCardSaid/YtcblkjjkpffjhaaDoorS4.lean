/- Arguments opened to what they read as: slices of structs. Over any program. No condition. -/
import Derived.Test.YtcblkjjkpffjhaaDoorS1
import Derived.Test.YtcblkjjkpffjhaaDoorL4
namespace Go.Proofs.YtcblkjjkpffjhaaDoor
open Go.ChangeShapes Go.WideShapes Go.ChangeAt Go.RowKit Go.Deep

section
variable {H : Type} {enc : TypeId × Value → H} {P : Program} {w : World}

theorem add_lit' (b off i : Nat) : (⟨b, off, none⟩ : Addr).add i = ⟨b, off + i, none⟩ := by unfold Addr.add; split <;> simp_all

theorem sls_of {α : Type} (f : α → List Value) (G : α → Prop) {T E : TypeId} {sz : Nat} {a : Option Addr} {len cap : Nat} {d : DataW H} {p : List MemPlace} (ht : P.underlying T = some (.slice E)) (hC : P.cellsOf E = sz) (h0 : 0 < sz)
    (hread : ∀ n cs y, DataW.trod enc P w 0 (fun _ => true) true n E cs = some y → ∃ x, cs = f x ∧ G x)
    (h : DataW.Trod enc P w 0 (fun _ => true) true T (.slice a len cap) d p) (hsz : len ≤ 140737488355328) : ∃ xs, SlS f sz w (.slice a len cap) xs ∧ ∀ x ∈ xs, G x := by
  obtain ⟨fuel, hf⟩ := h
  rcases open_slice ht hf with ⟨hcs, _⟩ | ⟨x, l, c, m, n, D, Pl, hcs, _, hl, hm, hmm, _, hc⟩
  · simp [Value.cells] at hcs
    obtain ⟨rfl, rfl, rfl⟩ := hcs
    exact ⟨[], ⟨none, 0, rfl, Nat.zero_le _, ⟨fun _ => rfl, Nat.le_refl _⟩, fun j x hx => by simp at hx⟩, fun x hx => by cases hx⟩
  · simp [Value.cells] at hcs
    obtain ⟨rfl, rfl, rfl⟩ := hcs
    simp only [if_true] at hmm
    subst hmm
    rw [hC] at hc
    obtain ⟨xs, hlen, hx⟩ := list_of (Q := fun i y => (∀ j, j < sz → w.cell? ((x.add (i * sz)).add j) = (f y)[j]?) ∧ (f y).length = sz ∧ G y) len (fun i hi => by
      obtain ⟨cs', h1, h2⟩ := hc i (by omega)
      obtain ⟨y, hy, hg⟩ := hread n _ _ h2
      subst hy
      obtain ⟨q1, q2, q3⟩ := World.cells?_some h1
      exact ⟨y, q3, q2, hg⟩)
    subst hlen
    refine ⟨xs, ⟨_, _, rfl, hsz, ⟨(fun h => by cases h), by simpa using hl⟩, fun j y hy => ?_⟩, fun y hy => ?_⟩
    · obtain ⟨hcell, hfl, _⟩ := hx j y hy
      obtain ⟨b, off, spot⟩ := x
      have hlen0 : 0 < xs.length := by have := (List.getElem?_eq_some_iff.1 hy).1; omega
      obtain ⟨y0, hy0⟩ := get_of_lt hlen0
      obtain ⟨hcell0, hfl0, _⟩ := hx 0 y0 hy0
      have hc0 := hcell0 0 h0
      rw [List.getElem?_eq_getElem (by omega)] at hc0
      have hspot : spot = none := by
        have := World.cell?_spot hc0
        simpa [Addr.add] using this
      subst hspot
      have hlt : b < w.heap.size := by
        have := World.block_lt_of_cell? w _ hc0
        simpa [Addr.add] using this
      refine ⟨b, off, rfl, hlt, fun i u hu => ?_⟩
      have hi : i < sz := by have := (List.getElem?_eq_some_iff.1 hu).1; omega
      have := hcell i hi
      rw [add_lit', add_lit', hu, Nat.add_assoc] at this
      exact this
    · obtain ⟨i, hi, he⟩ := List.mem_iff_getElem.1 hy
      exact (hx i y (by rw [← he]; exact List.getElem?_eq_getElem hi)).2.2

theorem one_of {cs : List Value} {off : Nat} {v : Value} (h : (cs.drop off).take 1 = [v]) : cs[off]? = some v := by
  have := congrArg (fun l : List Value => l[0]?) h
  simpa [List.getElem?_take, List.getElem?_drop] using this

theorem field_int {k : IntKind} {n off : Nat} {ft : TypeId} {cs : List Value} {y : DataW H × List MemPlace} (ht : P.underlying ft = some (.int k)) (h : DataW.trod enc P w 0 (fun _ => true) true n ft ((cs.drop off).take 1) = some y) :
    ∃ x, cs[off]? = some (.int k x) ∧ (Lit.int k x).wf = true := by
  obtain ⟨x, h1, _, h3⟩ := DataW.trod_int ht h
  exact ⟨x, one_of h1, h3⟩
theorem field_bool {n off : Nat} {ft : TypeId} {cs : List Value} {y : DataW H × List MemPlace} (ht : P.underlying ft = some .bool) (h : DataW.trod enc P w 0 (fun _ => true) true n ft ((cs.drop off).take 1) = some y) :
    ∃ x, cs[off]? = some (.bool x) := by
  obtain ⟨x, h1, _⟩ := DataW.trod_bool ht h
  exact ⟨x, one_of h1⟩
/-- a struct's field, where the struct reads -/
theorem fields_of {n : Nat} {t : TypeId} {fs : Array Field} {cs : List Value} {x : DataW H × List MemPlace} (ht : P.underlying t = some (.struct fs)) (h : DataW.trod enc P w 0 (fun _ => true) true n t cs = some x) :
    cs.length = P.cellsOf t ∧ ∃ m, ∀ (i : Nat) (f : Field), fs[i]? = some f → ∃ y, DataW.trod enc P w 0 (fun _ => true) true m f.type ((cs.drop f.offset).take (P.cellsOf f.type)) = some y := by
  obtain ⟨xs, m, _, _, hl, hxl, hf⟩ := DataW.trod_struct ht h
  refine ⟨hl, m, fun i f hi => ?_⟩
  have hlt : i < xs.length := by have := (Array.getElem?_eq_some_iff.1 hi).1; omega
  exact ⟨xs[i], by rw [hf i f hi]; exact List.getElem?_eq_getElem hlt⟩
end

/-- a slice's beginning -/
theorem SlS.take {α : Type} {f : α → List Value} {sz : Nat} {w : World} {a : Option Addr} {n cap : Nat} {xs : List α} (h : SlS f sz w (.slice a n cap) xs) {k : Nat} (hk : k ≤ xs.length) : SlS f sz w (.slice a k cap) (xs.take k) := by
  obtain ⟨a', cap', e, hm, hn, hc⟩ := h
  cases e
  refine ⟨a, cap, by rw [List.length_take, Nat.min_eq_left hk], by rw [List.length_take]; omega, ⟨hn.1, by rw [List.length_take]; omega⟩, fun j x hx => ?_⟩
  have : xs[j]? = some x := by
    rw [List.getElem?_take] at hx
    split at hx
    · exact hx
    · cases hx
  exact hc j x this
theorem SlS.cap {α : Type} {f : α → List Value} {sz : Nat} {w : World} {a : Option Addr} {n cap : Nat} {xs : List α} (h : SlS f sz w (.slice a n cap) xs) : n = xs.length ∧ n ≤ cap := by
  obtain ⟨a', cap', e, hm, hn, hc⟩ := h
  cases e
  exact ⟨rfl, hn.2⟩

/-- the world, of which some things are known, under a name -/
theorem wp_world {P : Program} {c : Code} {Q : Exit → Act → World → Prop} {a : Act} {w : World} (p : World → Prop) (hp : p w) (h : ∀ w', p w' → c.wp P Q a w') : c.wp P Q a w := h w hp

theorem SlS.form {α : Type} {f : α → List Value} {sz : Nat} {w : World} {v : Value} {xs : List α} (h : SlS f sz w v xs) : ∃ a cap, v = .slice a xs.length cap ∧ xs.length ≤ 140737488355328 := by
  obtain ⟨a, cap, e, hm, _⟩ := h; exact ⟨a, cap, e, hm⟩
theorem below_alloc (w : World) (o : Obj) : Below w.heap.size w (w.alloc o) := (Below.refl _ _).alloc (Nat.le_refl _) o
theorem cell_alloc_old {w : World} {o : Obj} {p : Addr} {u : Value} (hp : p.block < w.heap.size) (h : w.cell? p = some u) : (w.alloc o).cell? p = some u := ((below_alloc w o).cell hp).trans h
end Go.Proofs.YtcblkjjkpffjhaaDoor
