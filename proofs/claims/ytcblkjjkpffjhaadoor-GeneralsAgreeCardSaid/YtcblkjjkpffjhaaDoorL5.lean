/- Slices of the call's own, of elements of any size, that begin anywhere in their row: what is owned, read, stored, cut and appended. Over any program. No condition. -/
import Derived.Test.YtcblkjjkpffjhaaDoorL3
import Derived.ArgAppend
namespace Go.Proofs.YtcblkjjkpffjhaaDoor
open Go.RowKit

/-- the call's own slice, elements of sz cells each, that reads as xs; its spare room may be written -/
def OwS {α : Type} (f : α → List Value) (sz : Nat) (w : World) (base : Nat) (v : Value) (xs : List α) : Prop :=
  (v = .slice none 0 0 ∧ xs = []) ∨ ∃ g o cap, v = .slice (some ⟨g, o, none⟩) xs.length cap ∧ base ≤ g ∧ g < w.heap.size ∧ xs.length ≤ cap ∧
    (∀ j, j < cap * sz → (w.cell? ⟨g, o + j, none⟩).isSome = true ∧ w.frozen? ⟨g, o + j, none⟩ = false) ∧
    (∀ j x, xs[j]? = some x → ∀ i u, (f x)[i]? = some u → w.cell? ⟨g, o + (j * sz + i), none⟩ = some u)

/-- a slice that reads as xs, elements of sz cells each -/
def SlS {α : Type} (f : α → List Value) (sz : Nat) (w : World) (v : Value) (xs : List α) : Prop :=
  ∃ a cap, v = .slice a xs.length cap ∧ xs.length ≤ 140737488355328 ∧ ((a = none → cap = 0) ∧ xs.length ≤ cap) ∧
    (∀ j x, xs[j]? = some x → ∃ b off, a = some ⟨b, off, none⟩ ∧ b < w.heap.size ∧ ∀ i u, (f x)[i]? = some u → w.cell? ⟨b, off + (j * sz + i), none⟩ = some u)

section
variable {α : Type} {f : α → List Value} {sz : Nat} {w w' : World} {base : Nat} {v : Value} {xs : List α}

theorem SlS.below (h : SlS f sz w v xs) (hb : Below w.heap.size w w') : SlS f sz w' v xs := by
  obtain ⟨a, cap, rfl, hm, hn, hc⟩ := h
  refine ⟨a, cap, rfl, hm, hn, fun j x hx => ?_⟩
  obtain ⟨b, off, rfl, hlt, hcell⟩ := hc j x hx
  exact ⟨b, off, rfl, Nat.lt_of_lt_of_le hlt hb.size, fun i u hu => (hb.cell (p := ⟨b, off + (j * sz + i), none⟩) hlt).trans (hcell i u hu)⟩

/-- what a slice reads as holds where its own block is not the one that is written -/
theorem SlS.kept {row : Option Nat} (h : SlS f sz w v xs) (hg : w.grownBy w' row) (hne : v.ownBlock = none ∨ v.ownBlock ≠ row) : SlS f sz w' v xs := by
  obtain ⟨a, cap, rfl, hm, hn, hc⟩ := h
  refine ⟨a, cap, rfl, hm, hn, fun j x hx => ?_⟩
  obtain ⟨b, off, rfl, hlt, hcell⟩ := hc j x hx
  exact ⟨b, off, rfl, Nat.lt_of_lt_of_le hlt hg.size, fun i u hu => hg.cell (hcell i u hu) (by simpa [Value.ownBlock] using hne)⟩

theorem Sl.kept {g : α → Value} {row : Option Nat} (h : Sl g w v xs) (hg : w.grownBy w' row) (hne : v.ownBlock = none ∨ v.ownBlock ≠ row) : Sl g w' v xs := by
  obtain ⟨a, cap, rfl, hm, hn, hc⟩ := h
  refine ⟨a, cap, rfl, hm, hn, fun j x hx => ?_⟩
  obtain ⟨b, off, rfl, hlt, hcell⟩ := hc j x hx
  exact ⟨b, off, rfl, Nat.lt_of_lt_of_le hlt hg.size, hg.cell hcell (by simpa [Value.ownBlock] using hne)⟩

theorem OwS.nil (w : World) (base : Nat) : OwS f sz w base (.slice none 0 0) ([] : List α) := .inl ⟨rfl, rfl⟩

theorem OwS.kept {row : Option Nat} (h : OwS f sz w base v xs) (hg : w.grownBy w' row) (hne : v.ownBlock = none ∨ v.ownBlock ≠ row) : OwS f sz w' base v xs := by
  rcases h with h | ⟨g, o, cap, rfl, hb, hlt, hc, hsp, hel⟩
  · exact .inl h
  · have hne' : some g ≠ row := by simpa [Value.ownBlock] using hne
    have hblk := hg.block g hlt hne'
    refine .inr ⟨g, o, cap, rfl, hb, Nat.lt_of_lt_of_le hlt hg.size, hc, fun j hj => ?_, fun j x hx i u hu => hg.cell (hel j x hx i u hu) hne'⟩
    rw [World.cell?_of_block (w := w) (a := ⟨g, o + j, none⟩) hblk, World.frozen?_of_block (w := w) (a := ⟨g, o + j, none⟩) hblk]
    exact hsp j hj

theorem OwS.below (h : OwS f sz w base v xs) (hb : Below w.heap.size w w') : OwS f sz w' base v xs :=
  h.kept (row := none) (Below.grownBy_none hb none) (by cases v.ownBlock <;> simp)

theorem OwS.mono {b' : Nat} (h : OwS f sz w base v xs) (hb : b' ≤ base) : OwS f sz w b' v xs := by
  rcases h with h | ⟨g, o, cap, h1, h2, r⟩
  · exact .inl h
  · exact .inr ⟨g, o, cap, h1, by omega, r⟩

theorem OwS.lt (h : OwS f sz w base v xs) : ∀ k, v.ownBlock = some k → base ≤ k ∧ k < w.heap.size := by
  intro k hk
  rcases h with ⟨rfl, _⟩ | ⟨g, o, cap, rfl, hb, hlt, _⟩
  · cases hk
  · simp [Value.ownBlock] at hk; subst hk; exact ⟨hb, hlt⟩

theorem OwS.grown_below {B : Nat} (hg : w.grownBy w' v.ownBlock) (h : OwS f sz w base v xs) (hB : B ≤ base) (hs : B ≤ w.heap.size) : Below B w w' :=
  ⟨hg.os, hg.tape, hg.output, hg.size, fun k hk => hg.block k (by omega) (fun he => by have := (h.lt k he.symm).1; omega)⟩

theorem OwS.sl (h : OwS f sz w base v xs) (hm : xs.length ≤ 140737488355328) : SlS f sz w v xs := by
  rcases h with ⟨rfl, rfl⟩ | ⟨g, o, cap, rfl, hb, hlt, hc, hsp, hel⟩
  · exact ⟨none, 0, rfl, Nat.zero_le _, ⟨fun _ => rfl, Nat.le_refl _⟩, fun j x hx => by simp at hx⟩
  · exact ⟨_, cap, rfl, hm, ⟨(fun h => by cases h), hc⟩, fun j x hx => ⟨g, o, rfl, hlt, hel j x hx⟩⟩

theorem OwS.form_ne (h : OwS f sz w base v xs) (hne : 0 < xs.length) : ∃ g o cap, v = .slice (some ⟨g, o, none⟩) xs.length cap ∧ base ≤ g ∧ g < w.heap.size ∧ xs.length ≤ cap := by
  rcases h with ⟨_, rfl⟩ | ⟨g, o, cap, h1, h2, h3, h4, _⟩
  · cases hne
  · exact ⟨g, o, cap, h1, h2, h3, h4⟩

theorem OwS.form (h : OwS f sz w base v xs) : ∃ a cap, v = .slice a xs.length cap ∧ xs.length ≤ cap := by
  rcases h with ⟨rfl, rfl⟩ | ⟨g, o, cap, h1, h2, h3, h4, _⟩
  · exact ⟨none, 0, rfl, Nat.zero_le _⟩
  · exact ⟨_, cap, h1, h4⟩

theorem OwS.cell {g o n cap : Nat} (h : OwS f sz w base (.slice (some ⟨g, o, none⟩) n cap) xs) {j i : Nat} {x : α} {u : Value} (hx : xs[j]? = some x) (hu : (f x)[i]? = some u) : w.cell? ⟨g, o + (j * sz + i), none⟩ = some u := by
  rcases h with ⟨h, _⟩ | ⟨g', o', cap', h, _, _, _, _, hel⟩
  · cases h
  · cases h; exact hel j x hx i u hu

theorem OwS.free {g o n cap : Nat} (h : OwS f sz w base (.slice (some ⟨g, o, none⟩) n cap) xs) {j : Nat} (hj : j < cap * sz) : w.frozen? ⟨g, o + j, none⟩ = false := by
  rcases h with ⟨h, _⟩ | ⟨g', o', cap', h, _, _, _, hsp, _⟩
  · cases h
  · cases h; exact (hsp j hj).2

/-- one cell of one element is written anew -/
theorem OwS.stored {g o n cap : Nat} (h : OwS f sz w base (.slice (some ⟨g, o, none⟩) n cap) xs) (hf : ∀ x, (f x).length = sz) {j i : Nat} {x y : α} {u : Value} (hx : xs[j]? = some x) (hi : i < sz) (hy : f y = (f x).set i u) :
    OwS f sz (w.setCell ⟨g, o + (j * sz + i), none⟩ u) base (.slice (some ⟨g, o, none⟩) n cap) (xs.set j y) := by
  rcases h with ⟨h, _⟩ | ⟨g', o', cap', h, hb, hlt, hc, hsp, hel⟩
  · cases h
  · cases h
    refine .inr ⟨g, o, cap, by rw [List.length_set], hb, by simpa [World.setCell] using hlt, by rw [List.length_set]; exact hc, fun l hl => ?_, fun l z hz p u' hu' => ?_⟩
    · rw [World.frozen?_setCell]
      refine ⟨?_, (hsp l hl).2⟩
      have h0 := (hsp l hl).1
      by_cases hle : (⟨g, o + l, none⟩ : Addr) = ⟨g, o + (j * sz + i), none⟩
      · rw [hle] at h0 ⊢
        obtain ⟨q, hq⟩ := Option.isSome_iff_exists.1 h0
        rw [World.cell?_setCell_same _ _ _ hq]; rfl
      · rw [World.cell?_setCell_other _ _ _ _ (fun e => hle e.symm)]; exact h0
    · have hp : p < sz := by
        have := (List.getElem?_eq_some_iff.1 hu').1
        rw [hf] at this; exact this
      rw [List.getElem?_set] at hz
      by_cases hjl : j = l
      · subst hjl
        have hlt' := (List.getElem?_eq_some_iff.1 hx).1
        rw [if_pos rfl, if_pos hlt'] at hz
        cases hz
        rw [hy, List.getElem?_set] at hu'
        by_cases hip : i = p
        · subst hip
          rw [if_pos rfl, if_pos (by rw [hf]; exact hi)] at hu'
          cases hu'
          have hw : ∃ q, (f x)[i]? = some q := ⟨_, List.getElem?_eq_getElem (by rw [hf]; exact hi)⟩
          obtain ⟨q, hq⟩ := hw
          rw [World.cell?_setCell_same _ _ _ (hel j x hx i q hq)]
        · rw [if_neg hip] at hu'
          rw [World.cell?_setCell_other _ _ _ _ (by simp <;> omega)]
          exact hel j x hx p u' hu'
      · rw [if_neg hjl] at hz
        rw [World.cell?_setCell_other _ _ _ _ ?_]
        · exact hel l z hz p u' hu'
        · simp only [ne_eq, Addr.mk.injEq, true_and, and_true]
          intro he
          rcases Nat.lt_or_gt_of_ne hjl with h | h
          · have := Nat.mul_le_mul_right sz (show j + 1 ≤ l from h)
            rw [Nat.add_mul] at this; omega
          · have := Nat.mul_le_mul_right sz (show l + 1 ≤ j from h)
            rw [Nat.add_mul] at this; omega

/-- the first element is cut off -/
theorem OwS.tail {g o n cap : Nat} {x : α} (h : OwS f sz w base (.slice (some ⟨g, o, none⟩) n cap) (x :: xs)) : OwS f sz w base (.slice (some ⟨g, o + sz, none⟩) (n - 1) (cap - 1)) xs := by
  rcases h with ⟨h, _⟩ | ⟨g', o', cap', h, hb, hlt, hc, hsp, hel⟩
  · cases h
  · cases h
    simp only [List.length_cons] at hc ⊢
    refine .inr ⟨g, o + sz, cap - 1, by simp, hb, hlt, by omega, fun j hj => ?_, fun j y hy i u hu => ?_⟩
    · have : sz + j < cap * sz := by
        obtain ⟨c, rfl⟩ : ∃ c, cap = c + 1 := ⟨cap - 1, by omega⟩
        rw [Nat.add_sub_cancel] at hj
        rw [Nat.add_mul]; omega
      rw [Nat.add_assoc]; exact hsp (sz + j) this
    · have := hel (j + 1) y (by simpa using hy) i u hu
      rw [show o + sz + (j * sz + i) = o + ((j + 1) * sz + i) by rw [Nat.add_mul]; omega]
      exact this
end

/-- what a made row owns is owned so, too -/
theorem OwS.of_row {α : Type} {f : α → List Value} {sz : Nat} {w : World} {base : Nat} {e : TypeId} {v : Value} {n : Nat} {cs : List Value} {xs : List α} (h : w.ownsRow base e sz v n cs) (hn : n = xs.length)
    (hc : ∀ j x, xs[j]? = some x → ∀ i u, (f x)[i]? = some u → cs[j * sz + i]? = some u) : OwS f sz w base v xs := by
  subst hn
  rcases h.2 with ⟨h1, h2⟩ | ⟨g, cap, cur, rfl, hb, hh, hnc, hcm, hsz, htake⟩
  · exact .inl ⟨h1, List.eq_nil_of_length_eq_zero h2⟩
  · refine .inr ⟨g, 0, cap, rfl, hb, (Array.getElem?_eq_some_iff.1 hh).1, hnc, fun j hj => ?_, fun j x hx i u hu => ?_⟩
    · rw [Nat.zero_add, cell_of_row w g j cur e (0, 0) hh, frozen_of_row w g j cur e hh]
      refine ⟨?_, rfl⟩
      rw [Option.isSome_iff_exists]
      exact ⟨cur[j], Array.getElem?_eq_getElem (by omega)⟩
    · rw [Nat.zero_add, cell_of_row w g _ cur e (0, 0) hh]
      have := hc j x hx i u hu
      rw [← htake, List.getElem?_take] at this
      split at this
      · simpa using this
      · cases this

/-- the cells of 'make([]T, n)' -/
def madeRow (z : Value) (sz n : Nat) : Array Value := madeCells z.cells (n * sz)

/-- 'make([]T, n)' -/
theorem run_mk {P : Program} {t e : TypeId} {z : Value} {sz bytes : Nat} (E : Elem P t e z sz bytes) {n : Nat} (hn : bytes * n ≤ 281474976710656) (hm : n ≤ 140737488355328) (w : World) :
    (Instr.makeSlice t (.int .i64 n) (.int .i64 n)).run P w = .ok (.slice (some ⟨w.heap.size, 0, none⟩) n n) (w.alloc (.cells (madeRow z sz n) e)) := by
  obtain ⟨hu, hinfo, hzs, hsz⟩ := E
  obtain ⟨i, hi, hz0, hz1, hz2⟩ := info_parts hinfo
  have hby : (i.bytes : Int) * (n : Int) ≤ 281474976710656 := by
    have h : ((bytes * n : Nat) : Int) ≤ 281474976710656 := by omega
    rw [hz2]; rwa [Int.natCast_mul] at h
  have := run_make (P := P) w t e i z hu hi hz0 .i64 .i64 n n (by omega) (Int.le_refl _) hby (by omega)
  rw [this, hz1]; rfl

theorem size_madeRow (z : Value) (sz n : Nat) : (madeRow z sz n).size = n * sz := by unfold madeRow; simp [madeCells]

theorem madeRow_get {z : Value} {sz n : Nat} (hz : z.cells.size = sz) {j i : Nat} (hj : j < n) (hi : i < sz) : (madeRow z sz n)[j * sz + i]? = z.cells[i]? := by
  have hlt : j * sz + i < n * sz := by
    have := Nat.mul_le_mul_right sz (show j + 1 ≤ n from hj)
    rw [Nat.add_mul] at this; omega
  unfold madeRow madeCells
  have hm : (j * sz + i) % sz = i := by rw [Nat.mul_comm, Nat.mul_add_mod]; exact Nat.mod_eq_of_lt hi
  have hi' : i < z.cells.size := by omega
  rw [Array.getElem?_map, Array.getElem?_range, if_pos hlt]
  simp only [Option.map_some]
  rw [hz, hm, getElem!_pos z.cells i hi', Array.getElem?_eq_getElem hi']

theorem OwS.made {α : Type} {f : α → List Value} {sz : Nat} {e : TypeId} {z : Value} (w : World) (base n : Nat) (d : α) (hf : ∀ x, (f x).length = sz) (hd : z.cells.toList = f d) (hb : base ≤ w.heap.size) :
    OwS f sz (w.alloc (.cells (madeRow z sz n) e)) base (.slice (some ⟨w.heap.size, 0, none⟩) n n) (List.replicate n d) := by
  have hz : z.cells.size = sz := by rw [← Array.length_toList, hd, hf]
  have hh : (w.alloc (.cells (madeRow z sz n) e)).heap[w.heap.size]? = some (.cells (madeRow z sz n) e) := heap_alloc_new w _
  refine .inr ⟨w.heap.size, 0, n, by simp, hb, by simp, by simp, fun j hj => ?_, fun j x hx i u hu => ?_⟩
  · rw [Nat.zero_add, cell_of_row _ _ j _ e (0, 0) hh, frozen_of_row _ _ j _ e hh]
    refine ⟨?_, rfl⟩
    rw [Option.isSome_iff_exists]
    exact ⟨_, Array.getElem?_eq_getElem (by rw [size_madeRow]; exact hj)⟩
  · have hjn : j < n := by have := (List.getElem?_eq_some_iff.1 hx).1; simpa using this
    rw [List.getElem?_replicate, if_pos hjn] at hx
    cases hx
    have hi : i < sz := by have := (List.getElem?_eq_some_iff.1 hu).1; rw [hf] at this; exact this
    rw [Nat.zero_add, cell_of_row _ _ _ _ e (0, 0) hh, madeRow_get hz hjn hi, ← Array.getElem?_toList, hd]
    exact hu

section
variable {α : Type} {p : α → Value} {w : World} {base g n cap : Nat} {xs : List α}
theorem OwS.cell1 (h : OwS (fun x => [p x]) 1 w base (.slice (some ⟨g, 0, none⟩) n cap) xs) {j : Nat} {x : α} (hx : xs[j]? = some x) : w.cell? ⟨g, j, none⟩ = some (p x) := by
  have := h.cell (j := j) (i := 0) (u := p x) hx rfl
  simpa using this
theorem OwS.free1 (h : OwS (fun x => [p x]) 1 w base (.slice (some ⟨g, 0, none⟩) n cap) xs) {j : Nat} (hj : j < cap) : w.frozen? ⟨g, j, none⟩ = false := by
  have := h.free (j := j) (by omega)
  simpa using this
theorem OwS.stored1 (h : OwS (fun x => [p x]) 1 w base (.slice (some ⟨g, 0, none⟩) n cap) xs) {j : Nat} (hj : j < xs.length) (y : α) : OwS (fun x => [p x]) 1 (w.setCell ⟨g, j, none⟩ (p y)) base (.slice (some ⟨g, 0, none⟩) n cap) (xs.set j y) := by
  obtain ⟨x, hx⟩ := get_of_lt hj
  have := h.stored (fun _ => rfl) (i := 0) (u := p y) (y := y) hx (by decide) rfl
  simpa using this
end

theorem grownBy_setCell (w : World) (a : Addr) (u : Value) : w.grownBy (w.setCell a u) (some a.block) :=
  ⟨rfl, rfl, rfl, by simp [World.setCell], fun k _ hk => Below.heap_setCell _ _ _ _ (fun e => hk (by rw [e]))⟩

/-- a list that is filled from the front -/
def fill {β : Type} (g : Nat → β) (d : β) (n m : Nat) : List β := (List.range n).map fun j => if j < m then g j else d
theorem fill_len {β : Type} (g : Nat → β) (d : β) (n m : Nat) : (fill g d n m).length = n := by simp [fill]
theorem fill_zero {β : Type} (g : Nat → β) (d : β) (n : Nat) : fill g d n 0 = List.replicate n d := by
  refine List.ext_getElem? fun j => ?_
  unfold fill
  rw [List.getElem?_map, List.getElem?_replicate]
  by_cases h : j < n
  · rw [List.getElem?_range h, if_pos h]; simp
  · rw [if_neg h, List.getElem?_eq_none (by simpa using h)]; rfl
theorem fill_all {β : Type} (g : Nat → β) (d : β) (n : Nat) : fill g d n n = (List.range n).map g := by
  unfold fill
  exact List.map_congr_left fun j hj => by rw [if_pos (List.mem_range.1 hj)]
theorem fill_set {β : Type} (g : Nat → β) (d : β) {n m : Nat} (_h : m < n) : (fill g d n m).set m (g m) = fill g d n (m + 1) := by
  refine List.ext_getElem? fun j => ?_
  unfold fill
  rw [List.getElem?_set, List.getElem?_map, List.getElem?_map]
  by_cases hj : j < n
  · rw [List.getElem?_range hj]
    by_cases hm : m = j
    · subst hm; simp [hj]
    · rw [if_neg hm]; simp only [Option.map_some]
      by_cases h1 : j < m
      · rw [if_pos h1, if_pos (by omega)]
      · rw [if_neg h1, if_neg (by omega)]
  · rw [if_neg (by omega), List.getElem?_eq_none (show (List.range n).length ≤ j by simpa using hj)]; rfl
theorem fill_get {β : Type} (g : Nat → β) (d : β) {n m j : Nat} (hj : j < n) : (fill g d n m)[j]? = some (if j < m then g j else d) := by
  unfold fill
  rw [List.getElem?_map, List.getElem?_range hj]; rfl

theorem SlS.one {α : Type} {g : α → Value} {w : World} {v : Value} {xs : List α} (h : SlS (fun x => [g x]) 1 w v xs) : Sl g w v xs := by
  obtain ⟨a, cap, rfl, hm, hn, hc⟩ := h
  refine ⟨a, cap, rfl, hm, hn.1, fun j x hx => ?_⟩
  obtain ⟨b, off, rfl, hlt, hcell⟩ := hc j x hx
  exact ⟨b, off, rfl, hlt, by have := hcell 0 (g x) rfl; simpa using this⟩

theorem Sl.map {α β : Type} {f : α → Value} {g : β → α} {w : World} {v : Value} {ys : List β} (h : Sl (fun b => f (g b)) w v ys) : Sl f w v (ys.map g) := by
  obtain ⟨a, cap, rfl, hm, hn, hc⟩ := h
  refine ⟨a, cap, by simp, by simpa using hm, hn, fun j x hx => ?_⟩
  rw [List.getElem?_map] at hx
  cases hy : ys[j]? with
  | none => rw [hy] at hx; cases hx
  | some y => rw [hy] at hx; cases hx; exact hc j y hy

theorem size_setCells (b : Nat) : ∀ (vs : List Value) (o : Nat) (w : World), (w.setCells b o vs).heap.size = w.heap.size
  | [], _, _ => rfl
  | v :: r, o, w => by rw [World.setCells, size_setCells b r]; simp [World.setCell]
theorem os_setCells (b : Nat) : ∀ (vs : List Value) (o : Nat) (w : World), (w.setCells b o vs).os = w.os
  | [], _, _ => rfl
  | v :: r, o, w => by rw [World.setCells, os_setCells b r]; rfl
theorem tape_setCells (b : Nat) : ∀ (vs : List Value) (o : Nat) (w : World), (w.setCells b o vs).tape = w.tape
  | [], _, _ => rfl
  | v :: r, o, w => by rw [World.setCells, tape_setCells b r]; rfl
theorem output_setCells (b : Nat) : ∀ (vs : List Value) (o : Nat) (w : World), (w.setCells b o vs).output = w.output
  | [], _, _ => rfl
  | v :: r, o, w => by rw [World.setCells, output_setCells b r]; rfl
theorem block_setCells (b : Nat) : ∀ (vs : List Value) (o : Nat) (w : World) (k : Nat), k ≠ b → (w.setCells b o vs).heap[k]? = w.heap[k]?
  | [], _, _, _, _ => rfl
  | v :: r, o, w, k, h => by rw [World.setCells, block_setCells b r _ _ _ h, Below.heap_setCell _ _ _ _ h]

/-- 'append(out, y)': the element lies in a block of its own -/
theorem wpList_pushS {α : Type} {P : Program} (w : World) {ops : Array Oper} {rest : List Oper} {o : Oper} {a : Act} {Q : Exit → Act → World → Prop} (hgd : o.guard = none) (s x : Operand) (t : TypeId)
    (ho : o.op = .call { callee := .builtin .append, args := #[s, x], argTypes := #[t, t] }) {e : TypeId} {z : Value} {sz bytes : Nat} (E : Elem P t e z sz bytes)
    (base : Nat) {v : Value} (f : α → List Value) (hf : ∀ x, (f x).length = sz) (h1 : ∀ x u, u ∈ f x → u.oneCell' = true) {xs : List α} (y : α) (hown : OwS f sz w base v xs) (hs : a.eval s = v)
    (b0 : Nat) (hx : a.eval x = .slice (some ⟨b0, 0, none⟩) 1 1) (hnew : ∀ i u, (f y)[i]? = some u → w.cell? ⟨b0, i, none⟩ = some u)
    (hlen : (xs.length + 1) * bytes ≤ 140737488355328) (hm : xs.length + 1 ≤ 140737488355328) (hbase : base ≤ w.heap.size)
    (h : ∀ v' w', OwS f sz w' base v' (xs ++ [y]) → w.grownBy w' v.ownBlock → (v'.ownBlock = v.ownBlock ∨ ∃ g, v'.ownBlock = some g ∧ w.heap.size ≤ g) → wpList P ops Q rest (a.put o.dst v') w') :
    wpList P ops Q (o :: rest) a w := by
  obtain ⟨hu, hinfo, hzs, hsz⟩ := E
  obtain ⟨i, hi, hz0, hz1, hz2⟩ := info_parts hinfo
  have hc : ∀ j u, (f y)[j]? = some u → w.cell? ((⟨b0, 0, none⟩ : Addr).add j) = some u := fun j u hj => by
    have := hnew j u hj
    have e : (⟨b0, 0, none⟩ : Addr).add j = ⟨b0, j, none⟩ := by unfold Addr.add; split <;> simp_all
    rw [e]; exact this
  have hidx : ∀ {cs : List Value}, cs.length = xs.length * sz → (∀ j x, xs[j]? = some x → ∀ i u, (f x)[i]? = some u → cs[j * sz + i]? = some u) →
      ∀ j x, (xs ++ [y])[j]? = some x → ∀ i u, (f x)[i]? = some u → (cs ++ f y)[j * sz + i]? = some u := fun {cs} hcs hold j x' hx' p u hu' => by
    rcases Nat.lt_or_ge j xs.length with hlt | hge
    · rw [List.getElem?_append_left hlt] at hx'
      have h2 := hold j x' hx' p u hu'
      rw [List.getElem?_append_left (List.getElem?_eq_some_iff.1 h2).1]; exact h2
    · rw [List.getElem?_append_right hge] at hx'
      have hj0 := (List.getElem?_eq_some_iff.1 hx').1
      simp at hj0
      obtain rfl : j = xs.length := by omega
      simp at hx'; subst hx'
      rw [List.getElem?_append_right (by omega), hcs, show xs.length * sz + p - xs.length * sz = p by omega]
      exact hu'
  -- what the old elements' cells are
  obtain ⟨olds, hol, hoc⟩ : ∃ olds : List Value, olds.length = xs.length * sz ∧ ∀ j x, xs[j]? = some x → ∀ i u, (f x)[i]? = some u → olds[j * sz + i]? = some u := by
    refine ⟨xs.flatMap f, ?_, ?_⟩
    · clear hown h hlen hm hidx
      induction xs with
      | nil => simp
      | cons x xs ih => rw [List.flatMap_cons, List.length_append, hf, ih, List.length_cons, Nat.add_mul]; omega
    · clear hown h hlen hm hidx
      induction xs with
      | nil => intro j x hx; simp at hx
      | cons x xs ih =>
        intro j x' hx' p u hu'
        have hp : p < sz := by have := (List.getElem?_eq_some_iff.1 hu').1; rw [hf] at this; exact this
        cases j with
        | zero =>
          simp at hx'; subst hx'
          rw [List.flatMap_cons, Nat.zero_mul, Nat.zero_add, List.getElem?_append_left (by rw [hf]; exact hp)]; exact hu'
        | succ j =>
          rw [List.flatMap_cons, List.getElem?_append_right (by rw [hf, Nat.add_mul]; omega), hf, show (j + 1) * sz + p - sz = j * sz + p by rw [Nat.add_mul]; omega]
          exact ih j x' (by simpa using hx') p u hu'
  rcases hown with ⟨rfl, rfl⟩ | ⟨g, off, cap, rfl, hb, hlt, hcap, hsp, hel⟩
  · refine wpList_append_grows w hgd s x t ho e i z sz bytes hu hi hz0 hz1 hz2 hzs hsz none 0 0 [] hs (fun _ => ⟨rfl, rfl⟩) (by simp) (fun b hb => by cases hb) ⟨b0, 0, none⟩ 1 1 (f y) hx (by rw [hf]; omega) hc (h1 y) (by omega) (by unfold maxLen; omega) (by simpa using hlen) fun v' w' hr hg => ?_
    have ho' : OwS f sz w' w.heap.size v' ([] ++ [y]) := OwS.of_row hr (by simp) (hidx (by simp) (fun j x hx => by simp at hx))
    refine h v' w' (ho'.mono hbase) hg ?_
    right
    rcases ho' with ⟨_, h2⟩ | ⟨g, o', c', rfl, hb', _⟩
    · simp at h2
    · exact ⟨g, rfl, hb'⟩
  · have hcells : ∀ j u, olds[j]? = some u → w.cell? ⟨g, off + j, none⟩ = some u := fun j u hj => by
      have hjl := (List.getElem?_eq_some_iff.1 hj).1
      rw [hol] at hjl
      have hq : j / sz < xs.length := Nat.div_lt_of_lt_mul (by rw [Nat.mul_comm]; exact hjl)
      obtain ⟨x', hx'⟩ := get_of_lt hq
      have hr : j % sz < sz := Nat.mod_lt _ hsz
      obtain ⟨q, hq'⟩ : ∃ q, (f x')[j % sz]? = some q := ⟨_, List.getElem?_eq_getElem (by rw [hf]; exact hr)⟩
      have e : j / sz * sz + j % sz = j := by rw [Nat.mul_comm]; exact Nat.div_add_mod j sz
      have h2 := hoc _ _ hx' _ _ hq'
      rw [e, hj] at h2
      cases h2
      have h3 := hel _ _ hx' _ _ hq'
      rw [e] at h3; exact h3
    refine wpList_append_arg w hgd s x t ho e i z sz bytes hu hi hz0 hz1 hz2 hzs hsz g off xs.length cap olds hs hol hcells ⟨b0, 0, none⟩ 1 1 (f y) hx (by rw [hf]; omega) hc (h1 y) ?_ (by unfold maxLen; omega) hlen ?_ ?_
    · intro hr j hj
      rw [hf] at hj
      have : xs.length * sz + j < cap * sz := by
        have := Nat.mul_le_mul_right sz hr
        rw [Nat.add_mul] at this; omega
      have := hsp (xs.length * sz + j) this
      rw [Nat.add_assoc]; exact this
    · intro hr
      have hspn : ∀ j, j < (f y).length → (w.cell? ⟨g, off + xs.length * sz + j, none⟩).isSome = true := fun j hj => by
        rw [hf] at hj
        have : xs.length * sz + j < cap * sz := by
          have := Nat.mul_le_mul_right sz hr
          rw [Nat.add_mul] at this; omega
        have := (hsp (xs.length * sz + j) this).1
        rw [Nat.add_assoc]; exact this
      refine h _ _ (.inr ⟨g, off, cap, by simp, hb, ?_, by simpa using hr, fun j hj => ?_, fun j x' hx' p u hu' => ?_⟩) ⟨?_, ?_, ?_, ?_, ?_⟩ (.inl rfl)
      · rw [size_setCells]; exact hlt
      · rw [World.frozen?_setCells]
        refine ⟨?_, (hsp j hj).2⟩
        by_cases hin : xs.length * sz ≤ j ∧ j < xs.length * sz + (f y).length
        · have := World.cell?_setCells_in g (f y) (off + xs.length * sz) w hspn (j - xs.length * sz) (by omega)
          rw [show off + xs.length * sz + (j - xs.length * sz) = off + j by omega] at this
          rw [this]; rfl
        · rw [World.cell?_setCells_out g (f y) (off + xs.length * sz) w ⟨g, off + j, none⟩ (fun _ _ => by show off + j < _ ∨ _ ≤ off + j; omega)]
          exact (hsp j hj).1
      · have hp : p < sz := by have := (List.getElem?_eq_some_iff.1 hu').1; rw [hf] at this; exact this
        rcases Nat.lt_or_ge j xs.length with hjl | hge
        · rw [List.getElem?_append_left hjl] at hx'
          have h3 : j * sz + p < xs.length * sz := by
            have := Nat.mul_le_mul_right sz (show j + 1 ≤ xs.length from hjl)
            rw [Nat.add_mul] at this; omega
          rw [World.cell?_setCells_out g (f y) (off + xs.length * sz) w _ (fun _ _ => by left; show off + (j * sz + p) < _; omega)]
          exact hel j x' hx' p u hu'
        · rw [List.getElem?_append_right hge] at hx'
          have hj0 := (List.getElem?_eq_some_iff.1 hx').1
          simp at hj0
          obtain rfl : j = xs.length := by omega
          simp at hx'; subst hx'
          have := World.cell?_setCells_in g (f y) (off + xs.length * sz) w hspn p (by rw [hf]; exact hp)
          rw [show off + (xs.length * sz + p) = off + xs.length * sz + p by omega, this]
          rw [List.getElem?_eq_getElem (by rw [hf]; exact hp)] at hu'; exact hu'
      · exact os_setCells _ _ _ _
      · exact tape_setCells _ _ _ _
      · exact output_setCells _ _ _ _
      · rw [size_setCells]; exact Nat.le_refl _
      · intro k hk hne
        exact block_setCells _ _ _ _ _ (fun e => hne (by simp [Value.ownBlock, e]))
    · intro hr v' w' hrow hg
      have ho' : OwS f sz w' w.heap.size v' (xs ++ [y]) := OwS.of_row hrow (by simp) (hidx hol hoc)
      refine h v' w' (ho'.mono hbase) ⟨hg.os, hg.tape, hg.output, hg.size, fun k hk _ => hg.block k hk (by simp)⟩ ?_
      right
      rcases ho' with ⟨_, h2⟩ | ⟨g', o', c', rfl, hb', _⟩
      · simp at h2
      · exact ⟨g', rfl, hb'⟩

end Go.Proofs.YtcblkjjkpffjhaaDoor
