/- Slices that a call builds by append: what is owned, what it reads as, and append's law in short words. Over any program. No condition. -/
import Derived.Test.YtcblkjjkpffjhaaDoorL1
import Derived.Test.YtcblkjjkpffjhaaDoorL2
import Derived.Laws.AppendOwnNone
namespace Go.Proofs.YtcblkjjkpffjhaaDoor
open Go.RowKit

/-- a slice type's and its elements' rows of the table -/
def Elem (P : Program) (t e : TypeId) (z : Value) (size bytes : Nat) : Prop :=
  P.underlying t = some (.slice e) ∧ (P.info? e).map (fun i => (i.zero, i.size, i.bytes)) = some (some z, size, bytes) ∧ z.cells.size = size ∧ 0 < size

/-- the call's own slice, of elements of one cell, that reads as xs -/
def Ow {α : Type} (f : α → Value) (w : World) (base : Nat) (e : TypeId) (v : Value) (xs : List α) : Prop :=
  w.ownsRow base e 1 v xs.length (xs.map f)

section
variable {α : Type} {f : α → Value} {w w' : World} {base : Nat} {e : TypeId} {v : Value} {xs : List α}

theorem Ow.nil (w : World) (base : Nat) (e : TypeId) : Ow f w base e (.slice none 0 0) ([] : List α) := World.ownsRow_nil _ _ _ _

theorem Ow.kept {row : Option Nat} (h : Ow f w base e v xs) (hg : w.grownBy w' row) (hne : v.ownBlock = none ∨ v.ownBlock ≠ row) : Ow f w' base e v xs := World.ownsRow.kept h hg hne

/-- what is owned from 'base' on stays owned where nothing below the heap's size is written -/
theorem Ow.below (h : Ow f w base e v xs) (hb : Below w.heap.size w w') : Ow f w' base e v xs :=
  h.kept (row := none) ⟨hb.os, hb.tape, hb.output, hb.size, fun k hk _ => hb.block k hk⟩ (by cases v.ownBlock <;> simp)

theorem Ow.form (h : Ow f w base e v xs) : v = .slice none 0 0 ∧ xs = [] ∨ ∃ g cap, v = .slice (some ⟨g, 0, none⟩) xs.length cap ∧ base ≤ g ∧ g < w.heap.size := by
  rcases h.2 with ⟨h1, h2⟩ | ⟨g, cap, cur, rfl, hb, hh, _⟩
  · exact .inl ⟨h1, List.eq_nil_of_length_eq_zero h2⟩
  · exact .inr ⟨g, cap, rfl, hb, (Array.getElem?_eq_some_iff.1 hh).1⟩

theorem Ow.form_ne (h : Ow f w base e v xs) (hne : 0 < xs.length) : ∃ g cap, v = .slice (some ⟨g, 0, none⟩) xs.length cap ∧ base ≤ g ∧ g < w.heap.size := by
  rcases h.form with ⟨_, rfl⟩ | h
  · cases hne
  · exact h

theorem Ow.cell {g n cap : Nat} (h : Ow f w base e (.slice (some ⟨g, 0, none⟩) n cap) xs) {j : Nat} {x : α} (hx : xs[j]? = some x) : w.cell? ⟨g, j, none⟩ = some (f x) := by
  have hn : n = xs.length := by rcases h.form with ⟨h1, _⟩ | ⟨_, _, h1, _⟩ <;> cases h1; rfl
  subst hn
  obtain ⟨hj, _⟩ := List.getElem?_eq_some_iff.1 hx
  rw [World.ownsRow.cellAt h j (by omega), List.getElem?_map, hx]; rfl

theorem Ow.sl (h : Ow f w base e v xs) (hm : xs.length ≤ 140737488355328) : Sl f w v xs := by
  have h' := h
  rcases h.2 with ⟨rfl, h0⟩ | ⟨g, cap, cur, rfl, hb, hh, hn, hcap, hsz, htake⟩
  · obtain rfl : xs = [] := List.eq_nil_of_length_eq_zero h0
    exact ⟨none, 0, rfl, Nat.zero_le _, fun _ => rfl, fun j x hx => by simp at hx⟩
  · refine ⟨_, cap, rfl, hm, (fun h => by cases h), fun j x hx => ⟨g, 0, rfl, (Array.getElem?_eq_some_iff.1 hh).1, ?_⟩⟩
    obtain ⟨hj, _⟩ := List.getElem?_eq_some_iff.1 hx
    rw [Nat.zero_add, World.ownsRow.cellAt h' j (by omega), List.getElem?_map, hx]; rfl

theorem Ow.mono {b' : Nat} (h : Ow f w base e v xs) (hb : b' ≤ base) : Ow f w b' e v xs := by
  refine ⟨h.1, ?_⟩
  rcases h.2 with h2 | ⟨g, cap, cur, hv, hg, r⟩
  · exact .inl h2
  · exact .inr ⟨g, cap, cur, hv, by omega, r⟩

theorem Ow.stored {g cap : Nat} (h : Ow f w base e (.slice (some ⟨g, 0, none⟩) xs.length cap) xs) (j : Nat) (y : α) : Ow f (w.setCell ⟨g, j, none⟩ (f y)) base e (.slice (some ⟨g, 0, none⟩) xs.length cap) (xs.set j y) := by
  have := World.ownsRow.stored h j (f y)
  unfold Ow
  rw [List.length_set, List.map_set]
  exact this.1

theorem Ow.frozen {g n cap : Nat} (h : Ow f w base e (.slice (some ⟨g, 0, none⟩) n cap) xs) (j : Nat) : w.frozen? ⟨g, j, none⟩ = false := by
  have hn : n = xs.length := by rcases h.form with ⟨h1, _⟩ | ⟨_, _, h1, _⟩ <;> cases h1; rfl
  subst hn
  exact World.ownsRow.frozenAt h j

/-- a block that is not the slice's own is as it was -/
theorem grown_below {B : Nat} (hg : w.grownBy w' v.ownBlock) (h : Ow f w base e v xs) (hB : B ≤ base) (hs : B ≤ w.heap.size) : Below B w w' :=
  ⟨hg.os, hg.tape, hg.output, hg.size, fun k hk => hg.block k (by omega) (fun he => by have := (World.ownsRow.lt h k he.symm).1; omega)⟩

theorem Below.grownBy_none (hb : Below w.heap.size w w') (row : Option Nat) : w.grownBy w' row := ⟨hb.os, hb.tape, hb.output, hb.size, fun k hk _ => hb.block k hk⟩

theorem grownBy_trans {w1 w2 w3 : World} {row : Option Nat} (h : w1.grownBy w2 row) (h' : w2.grownBy w3 row) : w1.grownBy w3 row :=
  ⟨h'.os.trans h.os, h'.tape.trans h.tape, h'.output.trans h.output, Nat.le_trans h.size h'.size, fun k hk hne => (h'.block k (Nat.lt_of_lt_of_le hk h.size) hne).trans (h.block k hk hne)⟩
end

theorem Ow.map {α β : Type} {f : α → Value} {g : β → α} {w : World} {base : Nat} {e : TypeId} {v : Value} {ys : List β} (h : Ow (fun b => f (g b)) w base e v ys) : Ow f w base e v (ys.map g) := by
  unfold Ow at *
  rw [List.length_map, List.map_map]
  exact h

/-- 'append(out, y)': the element has just been laid in a block of its own -/
theorem wpList_push {α : Type} {P : Program} (w0 : World) {ops : Array Oper} {rest : List Oper} {o : Oper} {a : Act} {Q : Exit → Act → World → Prop} (hgd : o.guard = none) (s x : Operand) (t : TypeId)
    (ho : o.op = .call { callee := .builtin .append, args := #[s, x], argTypes := #[t, t] }) {e : TypeId} {z : Value} {bytes : Nat} (E : Elem P t e z 1 bytes)
    (base : Nat) {v : Value} (f : α → Value) {xs : List α} (y : α) (hown : Ow f w0 base e v xs) (hs : a.eval s = v) (hx : a.eval x = .slice (some ⟨w0.heap.size, 0, none⟩) 1 1) (h1 : (f y).oneCell' = true)
    (hlen : (xs.length + 1) * bytes ≤ 140737488355328) (hm : xs.length + 1 ≤ 140737488355328) (hbase : base ≤ w0.heap.size)
    (h : ∀ v' w', Ow f w' base e v' (xs ++ [y]) → w0.grownBy w' v.ownBlock → v' ≠ .slice none 0 0 → wpList P ops Q rest (a.put o.dst v') w') :
    wpList P ops Q (o :: rest) a (w0.alloc (.cells #[f y] e)) := by
  obtain ⟨hu, hinfo, hzs, hsz⟩ := E
  obtain ⟨i, hi, hz0, hz1, hz2⟩ := info_parts hinfo
  refine wpList_append_own (w0.alloc (.cells #[f y] e)) hgd s x t ho base e i z 1 bytes hu hi hz0 hz1 hz2 hzs hsz v xs.length (xs.map f) hs (World.ownsRow.alloc hown _) ⟨w0.heap.size, 0, none⟩ 1 1 [f y] hx rfl ?_ ?_ ?_ hlen ?_ ?_
  · intro j u hj
    match j, hj with
    | 0, hj =>
      simp at hj; subst hj
      have : (⟨w0.heap.size, 0, none⟩ : Addr).add 0 = ⟨w0.heap.size, 0, none⟩ := by simp [Addr.add]
      rw [this, World.cell?_alloc_at _ _ _ _ rfl]; rfl
  · intro u hu; simp at hu; subst hu; exact h1
  · unfold maxLen; omega
  · simp; omega
  · intro v' w' h2 h3 h4
    refine h v' w' ?_ ?_ ?_
    · unfold Ow; simpa using h2
    · have hal : w0.grownBy (w0.alloc (.cells #[f y] e)) v.ownBlock := World.grownBy_alloc _ _ _
      exact grownBy_trans hal h3
    · intro hv'
      have := h4.1 hv'
      omega

/-- 'append(out, src...)', src whatever reads as a list -/
theorem wpList_pushAll {α : Type} {P : Program} (w : World) {ops : Array Oper} {rest : List Oper} {o : Oper} {a : Act} {Q : Exit → Act → World → Prop} (hgd : o.guard = none) (s x : Operand) (t : TypeId)
    (ho : o.op = .call { callee := .builtin .append, args := #[s, x], argTypes := #[t, t] }) {e : TypeId} {z : Value} {bytes : Nat} (E : Elem P t e z 1 bytes)
    (base : Nat) {v u : Value} (f : α → Value) {xs ys : List α} (hown : Ow f w base e v xs) (hsl : Sl f w u ys) (hs : a.eval s = v) (hx : a.eval x = u) (h1 : ∀ y, (f y).oneCell' = true)
    (hlen : (xs.length + ys.length) * bytes ≤ 140737488355328) (hm : xs.length + ys.length ≤ 140737488355328) (hbase : base ≤ w.heap.size)
    (h : ∀ v' w', Ow f w' base e v' (xs ++ ys) → w.grownBy w' v.ownBlock → (v' = .slice none 0 0 ↔ v = .slice none 0 0 ∧ ys = []) → wpList P ops Q rest (a.put o.dst v') w') :
    wpList P ops Q (o :: rest) a w := by
  obtain ⟨hu, hinfo, hzs, hsz⟩ := E
  obtain ⟨i, hi, hz0, hz1, hz2⟩ := info_parts hinfo
  have hsl' := hsl
  obtain ⟨ao, cap, rfl, _, _, hc⟩ := hsl
  have fin : ∀ v' w', w'.ownsRow base e 1 v' (xs.length + ys.length) (xs.map f ++ ys.map f) → w.grownBy w' v.ownBlock → (v' = .slice none 0 0 ↔ v = .slice none 0 0 ∧ ys.length = 0) → wpList P ops Q rest (a.put o.dst v') w' := fun v' w' h2 h3 h4 =>
    h v' w' (by unfold Ow; rw [List.length_append, List.map_append]; exact h2) h3 (by rw [h4, List.length_eq_zero_iff])
  cases ao with
  | none =>
    obtain ⟨rfl, rfl⟩ := hsl'.none_nil
    refine wpList_append_own_none hgd s x t ho base e i 1 hu hi v xs.length (xs.map f) hs hown hx ?_
    exact fin v w (by unfold Ow at hown; simpa using hown) (World.grownBy.refl _ _) (by simp)
  | some ad =>
    refine wpList_append_own w hgd s x t ho base e i z 1 bytes hu hi hz0 hz1 hz2 hzs hsz v xs.length (xs.map f) hs hown ad ys.length cap (ys.map f) hx (by simp) ?_ ?_ (by unfold maxLen; omega) hlen hbase fin
    · intro j u' hj
      rw [List.getElem?_map] at hj
      cases hy : ys[j]? with
      | none => rw [hy] at hj; cases hj
      | some y =>
        rw [hy] at hj
        obtain ⟨b, off, hb, _, hcell⟩ := hc j y hy
        cases hb
        have : (⟨b, off, none⟩ : Addr).add j = ⟨b, off + j, none⟩ := by unfold Addr.add; split <;> simp_all
        rw [this, hcell]
        simpa using hj
    · intro u' hu'
      obtain ⟨y, _, rfl⟩ := List.mem_map.1 hu'
      exact h1 y

/-- '[]T{}': the call's own, and empty -/
theorem Ow.made {α : Type} {f : α → Value} {e : TypeId} (w : World) (base : Nat) (hb : base ≤ w.heap.size) : Ow f (w.alloc (.cells #[] e)) base e (.slice (some ⟨w.heap.size, 0, none⟩) 0 0) ([] : List α) :=
  World.ownsRow_made w #[] 0 hb (Nat.zero_le _) rfl

end Go.Proofs.YtcblkjjkpffjhaaDoor
