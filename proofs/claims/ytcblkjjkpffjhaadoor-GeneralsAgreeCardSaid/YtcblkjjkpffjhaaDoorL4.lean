/- Arguments opened to what they read as: slices of one-cell elements. Over any program. No condition. -/
import Derived.Test.YtcblkjjkpffjhaaDoorL1
import Derived.ProofKit
import Derived.OpenShut
import Derived.SizedLaws
import Derived.Deep.Slices
namespace Go.Proofs.YtcblkjjkpffjhaaDoor
open Go.ChangeShapes Go.WideShapes Go.ChangeAt Go.RowKit Go.Deep

section
variable {H : Type} {enc : TypeId × Value → H} {P : Program} {w : World} {base : Nat}

theorem list_of {α : Type} {Q : Nat → α → Prop} : ∀ (n : Nat), (∀ i, i < n → ∃ x, Q i x) → ∃ xs : List α, xs.length = n ∧ ∀ i x, xs[i]? = some x → Q i x
  | 0, _ => ⟨[], rfl, fun i x h => by simp at h⟩
  | n + 1, h => by
    obtain ⟨xs, hl, hx⟩ := list_of n (fun i hi => h i (by omega))
    obtain ⟨y, hy⟩ := h n (by omega)
    refine ⟨xs ++ [y], by simp [hl], fun i x hi => ?_⟩
    rcases Nat.lt_or_ge i xs.length with hlt | hge
    · rw [List.getElem?_append_left hlt] at hi; exact hx i x hi
    · rw [List.getElem?_append_right hge] at hi
      obtain ⟨hlt, he⟩ := List.getElem?_eq_some_iff.1 hi
      simp at hlt
      obtain rfl : i = n := by omega
      simp at he; subst he; exact hy

/-- a slice of one-cell elements, each of which reads as some f x with G x -/
theorem sl_of {α : Type} (f : α → Value) (G : α → Prop) {T E : TypeId} {a : Option Addr} {len cap : Nat} {d : DataW H} {p : List MemPlace} (ht : P.underlying T = some (.slice E)) (hC : P.cellsOf E = 1)
    (hread : ∀ n v y, DataW.trod enc P w 0 (fun _ => true) true n E [v] = some y → ∃ x, v = f x ∧ G x)
    (h : DataW.Trod enc P w 0 (fun _ => true) true T (.slice a len cap) d p) (hsz : len ≤ 140737488355328) : ∃ xs, Sl f w (.slice a len cap) xs ∧ ∀ x ∈ xs, G x := by
  obtain ⟨fuel, hf⟩ := h
  rcases open_slice1 ht hC hf with ⟨hcs, _⟩ | ⟨x, l, c, m, n, V, D, Pl, hcs, _, hl, hm, hmm, _, hc⟩
  · simp [Value.cells] at hcs
    obtain ⟨rfl, rfl, rfl⟩ := hcs
    exact ⟨[], ⟨none, 0, rfl, Nat.zero_le _, fun _ => rfl, fun j x hx => by simp at hx⟩, fun x hx => by cases hx⟩
  · simp [Value.cells] at hcs
    obtain ⟨rfl, rfl, rfl⟩ := hcs
    simp only [if_true] at hmm
    subst hmm
    obtain ⟨xs, hlen, hx⟩ := list_of (Q := fun i y => w.cell? (x.add i) = some (f y) ∧ G y) len (fun i hi => by
      obtain ⟨h1, h2⟩ := hc i (by omega)
      obtain ⟨y, hy, hg⟩ := hread n _ _ h2
      exact ⟨y, by rw [h1, hy], hg⟩)
    subst hlen
    refine ⟨xs, ⟨_, _, rfl, hsz, (fun h => by cases h), fun j y hy => ?_⟩, fun y hy => ?_⟩
    · have hcell := (hx j y hy).1
      obtain ⟨b, off, spot⟩ := x
      have hlt := World.block_lt_of_cell? w _ hcell
      have h0 : xs.length ≠ 0 := by obtain ⟨h, _⟩ := List.getElem?_eq_some_iff.1 hy; omega
      have hspot : spot = none := by
        have h0' := (hc 0 (by omega)).1
        simpa [Addr.add] using World.cell?_spot h0'
      subst hspot
      refine ⟨b, off, rfl, by simpa [Addr.add] using (by have := hlt; unfold Addr.add at this; split at this <;> exact this), ?_⟩
      have : (⟨b, off, none⟩ : Addr).add j = ⟨b, off + j, none⟩ := by unfold Addr.add; split <;> simp_all
      rw [← this]; exact hcell
    · obtain ⟨i, hi, he⟩ := List.mem_iff_getElem.1 hy
      exact (hx i y (by rw [← he]; exact List.getElem?_eq_getElem hi)).2

theorem sl_ints {k : IntKind} {T E : TypeId} {a : Option Addr} {len cap : Nat} {d : DataW H} {p : List MemPlace} (ht : P.underlying T = some (.slice E)) (hE : P.underlying E = some (.int k)) (hC : P.cellsOf E = 1)
    (h : DataW.Trod enc P w 0 (fun _ => true) true T (.slice a len cap) d p) (hsz : len ≤ 140737488355328) : ∃ xs, Sl (Value.int k) w (.slice a len cap) xs ∧ ∀ x ∈ xs, (Lit.int k x).wf = true :=
  sl_of (Value.int k) _ ht hC (fun n v y hy => by
    obtain ⟨x, h1, _, h3⟩ := DataW.trod_int hE hy
    exact ⟨x, by simpa using h1, h3⟩) h hsz

theorem sl_bools {T E : TypeId} {a : Option Addr} {len cap : Nat} {d : DataW H} {p : List MemPlace} (ht : P.underlying T = some (.slice E)) (hE : P.underlying E = some .bool) (hC : P.cellsOf E = 1)
    (h : DataW.Trod enc P w 0 (fun _ => true) true T (.slice a len cap) d p) (hsz : len ≤ 140737488355328) : ∃ xs, Sl Value.bool w (.slice a len cap) xs ∧ ∀ x ∈ xs, True :=
  sl_of Value.bool _ ht hC (fun n v y hy => by
    obtain ⟨x, h1, _⟩ := DataW.trod_bool hE hy
    exact ⟨x, by simpa using h1, trivial⟩) h hsz

/-- the length of a slice that came in, by the form's own reach -/
theorem sized_len {ts : List TypeId} {ds : List (DataW H)} {T E : TypeId} {a : Option Addr} {len cap bytes : Nat} {d : DataW H} {p : List MemPlace} {j : Nat} (ht : P.underlying T = some (.slice E)) (hb : P.bytesOf E = bytes) (h0 : 0 < bytes)
    (hts : ts[j]? = some T) (hds : ds[j]? = some d) (hsz : (DataW.weightsEach P ts ds).all (· ≤ reachBytes) = true)
    (h : DataW.Trod enc P w 0 (fun _ => true) true T (.slice a len cap) d p) : len ≤ 140737488355328 ∧ len * bytes ≤ 140737488351232 := by
  obtain ⟨fuel, hf⟩ := h
  rcases open_slice ht hf with ⟨hcs, _⟩ | ⟨x, l, c, m, n, D, Pl, hcs, _, hl, hm, hmm, hx, hc⟩
  · simp [Value.cells] at hcs
    obtain ⟨rfl, rfl, rfl⟩ := hcs
    omega
  · simp [Value.cells] at hcs
    obtain ⟨rfl, rfl, rfl⟩ := hcs
    simp only [Prod.mk.injEq] at hx
    rw [hx.1] at hds
    have := sized_slice hsz hts hds ht
    simp only [List.length_map, List.length_range, reachBytes] at this
    rw [hb] at this
    have h1 : len * bytes ≤ (len + (m - len)) * bytes := Nat.mul_le_mul_right _ (by omega)
    have h2 : len ≤ len * bytes := Nat.le_mul_of_pos_right _ h0
    omega

theorem slice_cap {T E : TypeId} {a : Option Addr} {len cap : Nat} {d : DataW H} {p : List MemPlace} (ht : P.underlying T = some (.slice E))
    (h : DataW.Trod enc P w 0 (fun _ => true) true T (.slice a len cap) d p) : len ≤ cap := by
  obtain ⟨fuel, hf⟩ := h
  rcases open_slice ht hf with ⟨hcs, _⟩ | ⟨x, l, c, m, n, D, Pl, hcs, _, hl, hm, hmm, hx, hc⟩
  · simp [Value.cells] at hcs
    obtain ⟨rfl, rfl, rfl⟩ := hcs
    omega
  · simp [Value.cells] at hcs
    obtain ⟨rfl, rfl, rfl⟩ := hcs
    simp only [if_true] at hmm
    subst hmm
    simpa using hl
end

end Go.Proofs.YtcblkjjkpffjhaaDoor
