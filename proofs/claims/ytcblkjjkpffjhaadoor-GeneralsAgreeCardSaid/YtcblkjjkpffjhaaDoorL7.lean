/- Records in memory, elements' fields, and what a call keeps beside what it owns. Over any program. No condition. -/
import Derived.Test.YtcblkjjkpffjhaaDoorL5
namespace Go.Proofs.YtcblkjjkpffjhaaDoor
open Go.RowKit

/-- nothing but the blocks of F is written -/
structure Kept (F : Nat → Prop) (w w' : World) : Prop where
  os : w'.os = w.os
  tape : w'.tape = w.tape
  output : w'.output = w.output
  size : w.heap.size ≤ w'.heap.size
  block : ∀ k, k < w.heap.size → ¬ F k → w'.heap[k]? = w.heap[k]?

/-- what F' has below n, F has -/
def Sub (n : Nat) (F F' : Nat → Prop) : Prop := ∀ k, k < n → F' k → F k

theorem Sub.refl (n : Nat) (F : Nat → Prop) : Sub n F F := fun _ _ h => h
theorem Sub.trans {n m : Nat} {F G H : Nat → Prop} (h : Sub n F G) (h' : Sub m G H) (hm : n ≤ m) : Sub n F H := fun k hk hh => h k hk (h' k (by omega) hh)

theorem Kept.refl (F : Nat → Prop) (w : World) : Kept F w w := ⟨rfl, rfl, rfl, Nat.le_refl _, fun _ _ _ => rfl⟩
theorem Kept.trans {F G : Nat → Prop} {w w1 w2 : World} (h : Kept F w w1) (h' : Kept G w1 w2) (hs : Sub w.heap.size F G) : Kept F w w2 :=
  ⟨h'.os.trans h.os, h'.tape.trans h.tape, h'.output.trans h.output, Nat.le_trans h.size h'.size,
    fun k hk hn => (h'.block k (Nat.lt_of_lt_of_le hk h.size) (fun hg => hn (hs k hk hg))).trans (h.block k hk hn)⟩
theorem Kept.mono {F G : Nat → Prop} {w w' : World} (h : Kept F w w') (hs : Sub w.heap.size G F) : Kept G w w' :=
  ⟨h.os, h.tape, h.output, h.size, fun k hk hn => h.block k hk (fun hf => hn (hs k hk hf))⟩
theorem Kept.below {F : Nat → Prop} {w w' : World} {B : Nat} (h : Kept F w w') (hF : ∀ k, F k → B ≤ k) (hB : B ≤ w.heap.size) : Below B w w' :=
  ⟨h.os, h.tape, h.output, h.size, fun k hk => h.block k (by omega) (fun hf => by have := hF k hf; omega)⟩
theorem Below.keeps {w w' : World} (h : Below w.heap.size w w') (F : Nat → Prop) : Kept F w w' := ⟨h.os, h.tape, h.output, h.size, fun k hk _ => h.block k hk⟩
theorem Kept.grownBy {F : Nat → Prop} {w w' : World} {row : Option Nat} (h : w.grownBy w' row) (hr : ∀ k, row = some k → F k) : Kept F w w' :=
  ⟨h.os, h.tape, h.output, h.size, fun k hk hn => h.block k hk (fun e => hn (hr k e.symm))⟩
theorem Kept.setCell {F : Nat → Prop} {w w' : World} (h : Kept F w w') {p : Addr} {u : Value} (hF : F p.block) : Kept F w (w'.setCell p u) :=
  ⟨h.os, h.tape, h.output, by simpa [World.setCell] using h.size, fun k hk hn => (Below.heap_setCell _ _ _ _ (fun e => hn (by rw [e]; exact hF))).trans (h.block k hk hn)⟩
theorem Kept.alloc {F : Nat → Prop} {w w' : World} (h : Kept F w w') (ob : Obj) : Kept F w (w'.alloc ob) :=
  h.trans (Below.keeps ((Below.refl _ _).alloc (Nat.le_refl _) _) F) (Sub.refl _ _)
theorem Kept.cell {F : Nat → Prop} {w w' : World} (h : Kept F w w') {p : Addr} {u : Value} (hp : p.block < w.heap.size) (hF : ¬ F p.block) (hc : w.cell? p = some u) : w'.cell? p = some u := by
  have := h.block p.block hp hF
  unfold World.cell? at *
  rw [this]; exact hc
theorem Kept.frozen {F : Nat → Prop} {w w' : World} (h : Kept F w w') {p : Addr} (hp : p.block < w.heap.size) (hF : ¬ F p.block) : w'.frozen? p = w.frozen? p := by
  have := h.block p.block hp hF
  unfold World.frozen?
  rw [this]

/-- a record's cells -/
def Rec (w : World) (b : Nat) (vs : List Value) : Prop := b < w.heap.size ∧ ∀ i u, vs[i]? = some u → w.cell? ⟨b, i, none⟩ = some u ∧ w.frozen? ⟨b, i, none⟩ = false

theorem Rec.kept {F : Nat → Prop} {w w' : World} {b : Nat} {vs : List Value} (h : Rec w b vs) (hk : Kept F w w') (hb : ¬ F b) : Rec w' b vs :=
  ⟨Nat.lt_of_lt_of_le h.1 hk.size, fun i u hu => ⟨hk.cell (p := ⟨b, i, none⟩) h.1 hb (h.2 i u hu).1, (hk.frozen (p := ⟨b, i, none⟩) h.1 hb).trans (h.2 i u hu).2⟩⟩
theorem Rec.below {w w' : World} {b : Nat} {vs : List Value} (h : Rec w b vs) (hk : Below w.heap.size w w') : Rec w' b vs := h.kept (Below.keeps hk fun _ => False) (fun h => h)
theorem Rec.grown {w w' : World} {b : Nat} {vs : List Value} {row : Option Nat} (h : Rec w b vs) (hg : w.grownBy w' row) (hne : row ≠ some b) : Rec w' b vs :=
  h.kept (F := fun k => row = some k) (Kept.grownBy hg fun _ e => e) hne
theorem Rec.new (w : World) (cs : Array Value) (T : TypeId) (vs : List Value) (e : cs.toList = vs) : Rec (w.alloc (.cells cs T)) w.heap.size vs := by
  subst e
  refine ⟨by simp, fun i u hu => ?_⟩
  have hh : (w.alloc (.cells cs T)).heap[w.heap.size]? = some (.cells cs T) := heap_alloc_new w _
  rw [Array.getElem?_toList] at hu
  exact ⟨(cell_of_row _ _ i _ T (0, 0) hh).trans hu, frozen_of_row _ _ i _ T hh⟩
theorem Rec.stored {w : World} {b : Nat} {vs : List Value} (h : Rec w b vs) (i : Nat) (u : Value) : Rec (w.setCell ⟨b, i, none⟩ u) b (vs.set i u) := by
  refine ⟨by simpa [World.setCell] using h.1, fun j x hx => ?_⟩
  rw [World.frozen?_setCell]
  rw [List.getElem?_set] at hx
  by_cases e : i = j
  · subst e
    rw [if_pos rfl] at hx
    split at hx
    · cases hx
      obtain ⟨y, hy⟩ := get_of_lt (xs := vs) (k := i) (by assumption)
      exact ⟨World.cell?_setCell_same' _ _ _ (by rw [(h.2 i y hy).1]; rfl), (h.2 i y hy).2⟩
    · cases hx
  · rw [if_neg e] at hx
    exact ⟨(World.cell?_setCell_other _ _ _ _ (fun h' => e (by cases h'; rfl))).trans (h.2 j x hx).1, (h.2 j x hx).2⟩
theorem Rec.other {w : World} {b : Nat} {vs : List Value} (h : Rec w b vs) (p : Addr) (u : Value) (hp : p.block ≠ b) : Rec (w.setCell p u) b vs :=
  h.grown (grownBy_setCell w p u) (by intro e; cases e; exact hp rfl)

section
variable {α : Type} {f : α → List Value} {sz : Nat} {w w' : World} {base : Nat} {v : Value} {xs : List α} {F : Nat → Prop}
theorem OwS.keep (h : OwS f sz w base v xs) (hk : Kept F w w') (hn : ∀ g, v.ownBlock = some g → ¬ F g) : OwS f sz w' base v xs := by
  rcases h with h | ⟨g, o, cap, rfl, hb, hlt, hc, hsp, hel⟩
  · exact .inl h
  · have hblk := hk.block g hlt (hn g rfl)
    refine .inr ⟨g, o, cap, rfl, hb, Nat.lt_of_lt_of_le hlt hk.size, hc, fun j hj => ?_, fun j x hx i u hu => ?_⟩
    · rw [World.cell?_of_block (w := w) (a := ⟨g, o + j, none⟩) hblk, World.frozen?_of_block (w := w) (a := ⟨g, o + j, none⟩) hblk]
      exact hsp j hj
    · rw [World.cell?_of_block (w := w) (a := ⟨g, o + (j * sz + i), none⟩) hblk]; exact hel j x hx i u hu
theorem SlS.keep (h : SlS f sz w v xs) (hk : Kept F w w') (hn : ∀ g, v.ownBlock = some g → ¬ F g) : SlS f sz w' v xs := by
  obtain ⟨a, cap, rfl, hm, hnn, hc⟩ := h
  refine ⟨a, cap, rfl, hm, hnn, fun j x hx => ?_⟩
  obtain ⟨b, off, rfl, hlt, hcell⟩ := hc j x hx
  exact ⟨b, off, rfl, Nat.lt_of_lt_of_le hlt hk.size, fun i u hu => hk.cell (p := ⟨b, off + (j * sz + i), none⟩) hlt (hn b rfl) (hcell i u hu)⟩
theorem Sl.keep {g : α → Value} (h : Sl g w v xs) (hk : Kept F w w') (hn : ∀ b, v.ownBlock = some b → ¬ F b) : Sl g w' v xs := by
  obtain ⟨a, cap, rfl, hm, hnn, hc⟩ := h
  refine ⟨a, cap, rfl, hm, hnn, fun j x hx => ?_⟩
  obtain ⟨b, off, rfl, hlt, hcell⟩ := hc j x hx
  exact ⟨b, off, rfl, Nat.lt_of_lt_of_le hlt hk.size, hk.cell (p := ⟨b, off + j, none⟩) hlt (hn b rfl) hcell⟩

/-- an element's field -/
theorem OwS.el {g o n cap : Nat} (h : OwS f sz w base (.slice (some ⟨g, o, none⟩) n cap) xs) {j : Nat} {x : α} (hx : xs[j]? = some x) (i : Nat) {u : Value} (hu : (f x)[i]? = some u) (hi : i < sz) :
    w.cell? ⟨g, o + j * sz + i, none⟩ = some u ∧ w.frozen? ⟨g, o + j * sz + i, none⟩ = false := by
  have h1 := h.cell (i := i) hx hu
  rw [← Nat.add_assoc] at h1
  have hc : xs.length ≤ cap := by obtain ⟨a, c, e, hc⟩ := h.form; cases e; exact hc
  have hj := (List.getElem?_eq_some_iff.1 hx).1
  have h2 := Nat.mul_le_mul_right sz (show j + 1 ≤ cap by omega)
  rw [Nat.add_mul, Nat.one_mul] at h2
  have h3 := h.free (j := j * sz + i) (by omega)
  rw [← Nat.add_assoc] at h3
  exact ⟨h1, h3⟩
theorem OwS.el0 {g o n cap : Nat} (h : OwS f sz w base (.slice (some ⟨g, o, none⟩) n cap) xs) {j : Nat} {x : α} (hx : xs[j]? = some x) {u : Value} (hu : (f x)[0]? = some u) (hz : 0 < sz) :
    w.cell? ⟨g, o + j * sz, none⟩ = some u ∧ w.frozen? ⟨g, o + j * sz, none⟩ = false := h.el hx 0 hu hz

/-- an element whose fields are written one after another -/
theorem OwS.put {g o n cap : Nat} {j : Nat} {x : α} (h : OwS f sz w base (.slice (some ⟨g, o, none⟩) n cap) (xs.set j x)) (hf : ∀ x, (f x).length = sz) (hj : j < xs.length) (i : Nat) (u : Value) (y : α) (hi : i < sz) (hy : f y = (f x).set i u) :
    OwS f sz (w.setCell ⟨g, o + j * sz + i, none⟩ u) base (.slice (some ⟨g, o, none⟩) n cap) (xs.set j y) := by
  have h1 := h.stored hf (j := j) (i := i) (x := x) (y := y) (u := u) (by rw [List.getElem?_set_self hj]) hi hy
  rw [List.set_set, ← Nat.add_assoc] at h1
  exact h1
theorem OwS.put0 {g o n cap : Nat} {j : Nat} {x : α} (h : OwS f sz w base (.slice (some ⟨g, o, none⟩) n cap) (xs.set j x)) (hf : ∀ x, (f x).length = sz) (hj : j < xs.length) (u : Value) (y : α) (hi : 0 < sz) (hy : f y = (f x).set 0 u) :
    OwS f sz (w.setCell ⟨g, o + j * sz, none⟩ u) base (.slice (some ⟨g, o, none⟩) n cap) (xs.set j y) := h.put hf hj 0 u y hi hy
end
theorem set_same {α : Type} {xs : List α} {j : Nat} {x : α} (h : xs[j]? = some x) : xs.set j x = xs := by
  refine List.ext_getElem? fun k => ?_
  rw [List.getElem?_set]
  by_cases e : j = k
  · subst e; rw [if_pos rfl, if_pos (List.getElem?_eq_some_iff.1 h).1, h]
  · rw [if_neg e]
end Go.Proofs.YtcblkjjkpffjhaaDoor
