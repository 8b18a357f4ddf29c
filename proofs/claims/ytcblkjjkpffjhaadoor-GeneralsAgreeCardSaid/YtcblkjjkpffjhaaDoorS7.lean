/- 'append([]T{}, src...)': a copy of one's own. Over any program. No condition. -/
import Derived.Test.YtcblkjjkpffjhaaDoorS3
import Derived.Laws.AppendOwnNone
namespace Go.Proofs.YtcblkjjkpffjhaaDoor
open Go.RowKit
set_option linter.unusedVariables false

theorem flat_get {α : Type} {f : α → List Value} {sz : Nat} (hf : ∀ x, (f x).length = sz) : ∀ (xs : List α) (j : Nat) (x : α), xs[j]? = some x → ∀ i u, (f x)[i]? = some u → (xs.flatMap f)[j * sz + i]? = some u
  | [], j, x, h, _, _, _ => by simp at h
  | y :: xs, 0, x, h, i, u, hu => by
    simp at h; subst h
    have hi : i < sz := by have := (List.getElem?_eq_some_iff.1 hu).1; rw [hf] at this; exact this
    rw [List.flatMap_cons, Nat.zero_mul, Nat.zero_add, List.getElem?_append_left (by rw [hf]; exact hi)]; exact hu
  | y :: xs, j + 1, x, h, i, u, hu => by
    rw [List.flatMap_cons, List.getElem?_append_right (by rw [hf, Nat.add_mul]; omega), hf, show (j + 1) * sz + i - sz = j * sz + i by rw [Nat.add_mul]; omega]
    exact flat_get hf xs j x (by simpa using h) i u hu
theorem flat_len {α : Type} {f : α → List Value} {sz : Nat} (hf : ∀ x, (f x).length = sz) (xs : List α) : (xs.flatMap f).length = xs.length * sz := by
  induction xs with
  | nil => simp
  | cons x xs ih => rw [List.flatMap_cons, List.length_append, hf, ih, List.length_cons, Nat.add_mul]; omega
/-- a list's cells, one by one -/
theorem flat_cells {α : Type} {f : α → List Value} {sz : Nat} (hf : ∀ x, (f x).length = sz) (h0 : 0 < sz) {xs : List α} {p : Nat → Value → Prop} (h : ∀ j x, xs[j]? = some x → ∀ i u, (f x)[i]? = some u → p (j * sz + i) u) : ∀ k u, (xs.flatMap f)[k]? = some u → p k u := by
  intro k u hk
  have hkl := (List.getElem?_eq_some_iff.1 hk).1
  rw [flat_len hf] at hkl
  have hq : k / sz < xs.length := Nat.div_lt_of_lt_mul (by rw [Nat.mul_comm]; exact hkl)
  obtain ⟨x, hx⟩ := get_of_lt hq
  have hr : k % sz < sz := Nat.mod_lt _ h0
  obtain ⟨q, hq'⟩ : ∃ q, (f x)[k % sz]? = some q := ⟨_, List.getElem?_eq_getElem (by rw [hf]; exact hr)⟩
  have e : k / sz * sz + k % sz = k := by rw [Nat.mul_comm]; exact Nat.div_add_mod k sz
  have h2 := flat_get hf _ _ _ hx _ _ hq'
  rw [e, hk] at h2
  cases h2
  have := h _ _ hx _ _ hq'
  rw [e] at this; exact this

theorem wpList_copyAll {α : Type} {P : Program} {W w : World} {R : Hp} {ops : Array Oper} {rest : List Oper} {o : Oper} {a : Act} {Q : Exit → Act → World → Prop} (hgd : o.guard = none) (s x : Operand) (t : TypeId)
    (ho : o.op = .call { callee := .builtin .append, args := #[s, x], argTypes := #[t, t] }) {e : TypeId} {z : Value} {sz bytes : Nat} (E : Elem P t e z sz bytes) (f : α → List Value) (hf : ∀ x, (f x).length = sz) (h1 : ∀ x u, u ∈ f x → u.oneCell' = true)
    {ys : List α} {u : Value} (hs : a.eval s = .slice (some ⟨w.heap.size, 0, none⟩) 0 0) (hx : a.eval x = u)
    (H : Sat W w R) (hsl : SlS f sz (w.alloc (.cells #[] e)) u ys) (hlen : ys.length * bytes ≤ 140737488355328)
    (h : ∀ v' w', (∃ a c, v' = .slice a ys.length c) → Sat W w' (Hp.own f sz v' ys * R) → wpList P ops Q rest (a.put o.dst v') w') : wpList P ops Q (o :: rest) a (w.alloc (.cells #[] e)) := by
  obtain ⟨hu, hinfo, hzs, hsz⟩ := E
  obtain ⟨i, hi, hz0, hz1, hz2⟩ := info_parts hinfo
  have hown : (w.alloc (.cells #[] e)).ownsRow w.heap.size e sz (.slice (some ⟨w.heap.size, 0, none⟩) 0 0) 0 [] := World.ownsRow_made w #[] 0 (Nat.le_refl _) (Nat.zero_le _) (by simp)
  have hO : OwS f sz (w.alloc (.cells #[] e)) w.heap.size (.slice (some ⟨w.heap.size, 0, none⟩) 0 0) ([] : List α) := OwS.of_row hown rfl (fun j x hx => by simp at hx)
  have H1 : Sat W (w.alloc (.cells #[] e)) (Hp.own f sz (.slice (some ⟨w.heap.size, 0, none⟩) 0 0) ([] : List α) * R) := H.newOwn hO
  obtain ⟨ao, cap, rfl, hm, hn, hc⟩ := hsl
  have fin : ∀ v' w', w'.ownsRow w.heap.size e sz v' (0 + ys.length) ([] ++ ys.flatMap f) → (w.alloc (.cells #[] e)).grownBy w' (some w.heap.size) → (v' = .slice none 0 0 ↔ Value.slice (some ⟨w.heap.size, 0, none⟩) 0 0 = .slice none 0 0 ∧ ys.length = 0) → wpList P ops Q rest (a.put o.dst v') w' := fun v' w' hr hg hnil => by
    have ho' : OwS f sz w' w.heap.size v' ys := OwS.of_row hr (by simp) (fun j x hx i u hu => by rw [List.nil_append]; exact flat_get hf ys j x hx i u hu)
    have hne : v' ≠ .slice none 0 0 := fun e => by have := (hnil.1 e).1; cases this
    refine h v' w' (by obtain ⟨a, c, e, _⟩ := ho'.form; exact ⟨a, c, e⟩) (H1.reown ho' hg ?_)
    rcases ho' with ⟨e, _⟩ | ⟨g, o', c', rfl, hb', _⟩
    · exact absurd e hne
    · by_cases e : g = w.heap.size
      · subst e; exact .inl rfl
      · exact .inr ⟨g, rfl, by simp; omega⟩
  cases ao with
  | none =>
    have hy : ys = [] := by
      cases ys with
      | nil => rfl
      | cons y l => obtain ⟨b, off, hb, _⟩ := hc 0 y rfl; cases hb
    subst hy
    obtain rfl : cap = 0 := hn.1 rfl
    refine wpList_append_own_none hgd s x t ho w.heap.size e i sz hu hi (.slice (some ⟨w.heap.size, 0, none⟩) 0 0) 0 [] hs hown hx ?_
    exact fin _ _ (by simpa using hown) (World.grownBy.refl _ _) (by simp)
  | some ad =>
    refine wpList_append_own (w.alloc (.cells #[] e)) hgd s x t ho w.heap.size e i z sz bytes hu hi hz0 hz1 hz2 hzs hsz (.slice (some ⟨w.heap.size, 0, none⟩) 0 0) 0 [] hs hown ad ys.length cap (ys.flatMap f) hx (flat_len hf ys) ?_ ?_ (by unfold maxLen; omega) (by simpa using hlen) (by simp) fin
    · refine flat_cells (f := f) hf hsz (p := fun k u => (w.alloc (.cells #[] e)).cell? (ad.add k) = some u) fun j y hy i' u hu' => ?_
      obtain ⟨b, off, hb, _, hcell⟩ := hc j y hy
      cases hb
      have e2 : (⟨b, off, none⟩ : Addr).add (j * sz + i') = ⟨b, off + (j * sz + i'), none⟩ := by unfold Addr.add; split <;> simp_all
      rw [e2]; exact hcell i' u hu'
    · intro u' hu'
      obtain ⟨y, _, hy⟩ := List.mem_flatMap.1 hu'
      exact h1 y u' hy

/-- 'append(own, src...)', of a row that the call has made -/
theorem wpList_appendRow {α : Type} {P : Program} {w : World} {ops : Array Oper} {rest : List Oper} {o : Oper} {a : Act} {Q : Exit → Act → World → Prop} (hgd : o.guard = none) (s x : Operand) (t : TypeId)
    (ho : o.op = .call { callee := .builtin .append, args := #[s, x], argTypes := #[t, t] }) {e : TypeId} {z : Value} {sz bytes : Nat} (E : Elem P t e z sz bytes) (f : α → List Value) (hf : ∀ x, (f x).length = sz) (h1 : ∀ x u, u ∈ f x → u.oneCell' = true)
    (base : Nat) {xs ys : List α} {v u : Value} (hs : a.eval s = v) (hx : a.eval x = u) (hown : w.ownsRow base e sz v xs.length (xs.flatMap f)) (hsl : SlS f sz w u ys) (hlen : (xs.length + ys.length) * bytes ≤ 140737488355328) (hm : xs.length + ys.length ≤ maxLen) (hbase : base ≤ w.heap.size)
    (h : ∀ v' w', w'.ownsRow base e sz v' (xs ++ ys).length ((xs ++ ys).flatMap f) → Below base w w' → wpList P ops Q rest (a.put o.dst v') w') : wpList P ops Q (o :: rest) a w := by
  obtain ⟨hu, hinfo, hzs, hsz⟩ := E
  obtain ⟨i, hi, hz0, hz1, hz2⟩ := info_parts hinfo
  obtain ⟨ao, cap, rfl, hm', hn, hc⟩ := hsl
  have hbl : ∀ w', w.grownBy w' v.ownBlock → Below base w w' := fun w' hg => by
    refine (Below.refl base w).grown hg hbase fun k hk => ?_
    rcases hown.2 with ⟨e1, _⟩ | ⟨g, cap, cur, e1, hb, _⟩
    · rw [e1] at hk; cases hk
    · rw [e1] at hk; cases hk; exact hb
  cases ao with
  | none =>
    have hy : ys = [] := by
      cases ys with
      | nil => rfl
      | cons y l => obtain ⟨b, off, hb, _⟩ := hc 0 y rfl; cases hb
    subst hy
    obtain rfl : cap = 0 := hn.1 rfl
    refine wpList_append_own_none hgd s x t ho base e i sz hu hi v xs.length (xs.flatMap f) hs hown hx ?_
    exact h _ _ (by simpa using hown) (Below.refl _ _)
  | some ad =>
    refine wpList_append_own w hgd s x t ho base e i z sz bytes hu hi hz0 hz1 hz2 hzs hsz v xs.length (xs.flatMap f) hs hown ad ys.length cap (ys.flatMap f) hx (flat_len hf ys) ?_ ?_ hm hlen hbase (fun v' w' q1 q2 _ => h v' w' (by rw [List.length_append, List.flatMap_append]; exact q1) (hbl w' q2))
    · refine flat_cells (f := f) hf hsz (p := fun k u => w.cell? (ad.add k) = some u) fun j y hy i' u hu' => ?_
      obtain ⟨b, off, hb, _, hcell⟩ := hc j y hy
      cases hb
      have e2 : (⟨b, off, none⟩ : Addr).add (j * sz + i') = ⟨b, off + (j * sz + i'), none⟩ := by unfold Addr.add; split <;> simp_all
      rw [e2]; exact hcell i' u hu'
    · intro u' hu'
      obtain ⟨y, _, hy⟩ := List.mem_flatMap.1 hu'
      exact h1 y u' hy
theorem row_made (w : World) (e : TypeId) (sz : Nat) : (w.alloc (.cells #[] e)).ownsRow w.heap.size e sz (.slice (some ⟨w.heap.size, 0, none⟩) 0 0) 0 [] := World.ownsRow_made w #[] 0 (Nat.le_refl _) (Nat.zero_le _) (by simp)
theorem row_sls {α : Type} {f : α → List Value} {sz base : Nat} {e : TypeId} {w : World} {v : Value} {xs : List α} (hf : ∀ x, (f x).length = sz) (h : w.ownsRow base e sz v xs.length (xs.flatMap f)) (hm : xs.length ≤ 140737488355328) : SlS f sz w v xs :=
  OwS.sl (OwS.of_row h rfl (fun j x hx i u hu => flat_get hf xs j x hx i u hu)) hm
theorem Below.here {w w1 w' : World} {n : Nat} (h : Below n w w') : Below n w w' := h
end Go.Proofs.YtcblkjjkpffjhaaDoor
