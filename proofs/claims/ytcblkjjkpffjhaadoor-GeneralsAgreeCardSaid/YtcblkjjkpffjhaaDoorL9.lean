/- 'append' outside a forced order: what it yields, and what it leaves. Over any program. No condition. -/
import Derived.Test.YtcblkjjkpffjhaaDoorL7
import Derived.Test.YtcblkjjkpffjhaaDoorL8
namespace Go.Proofs.YtcblkjjkpffjhaaDoor
open Go.RowKit

theorem run_pushS {α : Type} {P : Program} (w : World) (t ty : TypeId) {e : TypeId} {z : Value} {sz bytes : Nat} (E : Elem P t e z sz bytes)
    (base : Nat) {v : Value} (f : α → List Value) (hf : ∀ x, (f x).length = sz) (h1 : ∀ x u, u ∈ f x → u.oneCell' = true) {xs : List α} (y : α) (hown : OwS f sz w base v xs)
    (b0 : Nat) (hnew : ∀ i u, (f y)[i]? = some u → w.cell? ⟨b0, i, none⟩ = some u)
    (hlen : (xs.length + 1) * bytes ≤ 140737488355328) (hm : xs.length + 1 ≤ 140737488355328) (hbase : base ≤ w.heap.size) :
    ∃ v' w', (Builtin.append_ #[t, t] ty #[v, .slice (some ⟨b0, 0, none⟩) 1 1]).run P w = .ok v' w' ∧ OwS f sz w' base v' (xs ++ [y]) ∧ w.grownBy w' v.ownBlock ∧ (v'.ownBlock = v.ownBlock ∨ ∃ g, v'.ownBlock = some g ∧ w.heap.size ≤ g) := by
  obtain ⟨hu, hinfo, hzs, hsz⟩ := E
  obtain ⟨i, hi, hz0, hz1, hz2⟩ := info_parts hinfo
  have hc : ∀ j u, (f y)[j]? = some u → w.cell? ((⟨b0, 0, none⟩ : Addr).add j) = some u := fun j u hj => by
    have := hnew j u hj
    have e : (⟨b0, 0, none⟩ : Addr).add j = ⟨b0, j, none⟩ := by unfold Addr.add; split <;> simp_all
    rw [e]; exact this
  have hidx : ∀ {cs : List Value}, cs.length = xs.length * sz → (∀ j x, xs[j]? = some x → ∀ i u, (f x)[i]? = some u → cs[j * sz + i]? = some u) →
      ∀ j x, (xs ++ [y])[j]? = some x → ∀ i u, (f x)[i]? = some u → (cs ++ f y)[j * sz + i]? = some u := fun {cs} hcs hold j x' hx' p u hu' => by
    rcases Nat.lt_or_ge j xs.length with hlt | hge
    · rw [List.getElem?_append_left hlt] at hx'
      have h2 := hold j x' hx' p u hu'
      rw [List.getElem?_append_left (List.getElem?_eq_some_iff.1 h2).1]; exact h2
    · rw [List.getElem?_append_right hge] at hx'
      have hj0 := (List.getElem?_eq_some_iff.1 hx').1
      simp at hj0
      obtain rfl : j = xs.length := by omega
      simp at hx'; subst hx'
      rw [List.getElem?_append_right (by omega), hcs, show xs.length * sz + p - xs.length * sz = p by omega]
      exact hu'
  -- what the old elements' cells are
  obtain ⟨olds, hol, hoc⟩ : ∃ olds : List Value, olds.length = xs.length * sz ∧ ∀ j x, xs[j]? = some x → ∀ i u, (f x)[i]? = some u → olds[j * sz + i]? = some u := by
    refine ⟨xs.flatMap f, ?_, ?_⟩
    · clear hown hlen hm hidx
      induction xs with
      | nil => simp
      | cons x xs ih => rw [List.flatMap_cons, List.length_append, hf, ih, List.length_cons, Nat.add_mul]; omega
    · clear hown hlen hm hidx
      induction xs with
      | nil => intro j x hx; simp at hx
      | cons x xs ih =>
        intro j x' hx' p u hu'
        have hp : p < sz := by have := (List.getElem?_eq_some_iff.1 hu').1; rw [hf] at this; exact this
        cases j with
        | zero =>
          simp at hx'; subst hx'
          rw [List.flatMap_cons, Nat.zero_mul, Nat.zero_add, List.getElem?_append_left (by rw [hf]; exact hp)]; exact hu'
        | succ j =>
          rw [List.flatMap_cons, List.getElem?_append_right (by rw [hf, Nat.add_mul]; omega), hf, show (j + 1) * sz + p - sz = j * sz + p by rw [Nat.add_mul]; omega]
          exact ih j x' (by simpa using hx') p u hu'
  rcases hown with ⟨rfl, rfl⟩ | ⟨g, off, cap, rfl, hb, hlt, hcap, hsp, hel⟩
  · obtain ⟨v', w', hrun, hr, hg, _⟩ := run_append_own (P := P) w w.heap.size t ty e i z sz bytes hu hi hz0 hz1 hz2 hzs hsz (.slice none 0 0) 0 [] (World.ownsRow_nil w _ e sz) ⟨b0, 0, none⟩ 1 1 (f y) (by rw [hf]; omega) hc (h1 y) (by unfold maxLen; omega) (by simpa using hlen) (Nat.le_refl _)
    have ho' : OwS f sz w' w.heap.size v' ([] ++ [y]) := OwS.of_row hr (by simp) (hidx (by simp) (fun j x hx => by simp at hx))
    refine ⟨v', w', hrun, ho'.mono hbase, hg, ?_⟩
    right
    rcases ho' with ⟨_, h2⟩ | ⟨g, o', c', rfl, hb', _⟩
    · simp at h2
    · exact ⟨g, rfl, hb'⟩
  · have hcells : ∀ j u, olds[j]? = some u → w.cell? ⟨g, off + j, none⟩ = some u := fun j u hj => by
      have hjl := (List.getElem?_eq_some_iff.1 hj).1
      rw [hol] at hjl
      have hq : j / sz < xs.length := Nat.div_lt_of_lt_mul (by rw [Nat.mul_comm]; exact hjl)
      obtain ⟨x', hx'⟩ := get_of_lt hq
      have hr : j % sz < sz := Nat.mod_lt _ hsz
      obtain ⟨q, hq'⟩ : ∃ q, (f x')[j % sz]? = some q := ⟨_, List.getElem?_eq_getElem (by rw [hf]; exact hr)⟩
      have e : j / sz * sz + j % sz = j := by rw [Nat.mul_comm]; exact Nat.div_add_mod j sz
      have h2 := hoc _ _ hx' _ _ hq'
      rw [e, hj] at h2
      cases h2
      have h3 := hel _ _ hx' _ _ hq'
      rw [e] at h3; exact h3
    have hspare : xs.length + 1 ≤ cap → ∀ j, j < (f y).length → (w.cell? ⟨g, off + xs.length * sz + j, none⟩).isSome = true ∧ w.frozen? ⟨g, off + xs.length * sz + j, none⟩ = false := by
      intro hr j hj
      rw [hf] at hj
      have : xs.length * sz + j < cap * sz := by
        have := Nat.mul_le_mul_right sz hr
        rw [Nat.add_mul] at this; omega
      have := hsp (xs.length * sz + j) this
      rw [Nat.add_assoc]; exact this
    by_cases hr : xs.length + 1 ≤ cap
    · have hrun := run_append_room_cells (P := P) w t ty e i hu hi g off xs.length cap ⟨b0, 0, none⟩ 1 1 (f y) (by rw [hf, hz1]; omega) hc (h1 y) hr (fun j hj => by rw [hz1]; exact (hspare hr j hj).1) (fun j hj => by rw [hz1]; exact (hspare hr j hj).2)
      rw [hz1] at hrun
      have hspn : ∀ j, j < (f y).length → (w.cell? ⟨g, off + xs.length * sz + j, none⟩).isSome = true := fun j hj => by
        rw [hf] at hj
        have : xs.length * sz + j < cap * sz := by
          have := Nat.mul_le_mul_right sz hr
          rw [Nat.add_mul] at this; omega
        have := (hsp (xs.length * sz + j) this).1
        rw [Nat.add_assoc]; exact this
      refine ⟨_, _, hrun, .inr ⟨g, off, cap, by simp, hb, ?_, by simpa using hr, fun j hj => ?_, fun j x' hx' p u hu' => ?_⟩, ⟨?_, ?_, ?_, ?_, ?_⟩, .inl rfl⟩
      · rw [size_setCells]; exact hlt
      · rw [World.frozen?_setCells]
        refine ⟨?_, (hsp j hj).2⟩
        by_cases hin : xs.length * sz ≤ j ∧ j < xs.length * sz + (f y).length
        · have := World.cell?_setCells_in g (f y) (off + xs.length * sz) w hspn (j - xs.length * sz) (by omega)
          rw [show off + xs.length * sz + (j - xs.length * sz) = off + j by omega] at this
          rw [this]; rfl
        · rw [World.cell?_setCells_out g (f y) (off + xs.length * sz) w ⟨g, off + j, none⟩ (fun _ _ => by show off + j < _ ∨ _ ≤ off + j; omega)]
          exact (hsp j hj).1
      · have hp : p < sz := by have := (List.getElem?_eq_some_iff.1 hu').1; rw [hf] at this; exact this
        rcases Nat.lt_or_ge j xs.length with hjl | hge
        · rw [List.getElem?_append_left hjl] at hx'
          have h3 : j * sz + p < xs.length * sz := by
            have := Nat.mul_le_mul_right sz (show j + 1 ≤ xs.length from hjl)
            rw [Nat.add_mul] at this; omega
          rw [World.cell?_setCells_out g (f y) (off + xs.length * sz) w _ (fun _ _ => by left; show off + (j * sz + p) < _; omega)]
          exact hel j x' hx' p u hu'
        · rw [List.getElem?_append_right hge] at hx'
          have hj0 := (List.getElem?_eq_some_iff.1 hx').1
          simp at hj0
          obtain rfl : j = xs.length := by omega
          simp at hx'; subst hx'
          have := World.cell?_setCells_in g (f y) (off + xs.length * sz) w hspn p (by rw [hf]; exact hp)
          rw [show off + (xs.length * sz + p) = off + xs.length * sz + p by omega, this]
          rw [List.getElem?_eq_getElem (by rw [hf]; exact hp)] at hu'; exact hu'
      · exact os_setCells _ _ _ _
      · exact tape_setCells _ _ _ _
      · exact output_setCells _ _ _ _
      · rw [size_setCells]; exact Nat.le_refl _
      · intro k hk hne
        exact block_setCells _ _ _ _ _ (fun e => hne (by simp [Value.ownBlock, e]))
    · obtain ⟨v', w', hrun, hrow, hg⟩ := run_append_arg_grows (P := P) w t ty e i z sz bytes hu hi hz0 hz1 hz2 hzs hsz ⟨g, off, none⟩ xs.length cap olds hol (fun j u hj => by rw [Addr.add_lit]; exact hcells j u hj) ⟨b0, 0, none⟩ 1 1 (f y) (by rw [hf]; omega) hc (by omega) (by unfold maxLen; omega) hlen
      have ho' : OwS f sz w' w.heap.size v' (xs ++ [y]) := OwS.of_row hrow (by simp) (hidx hol hoc)
      refine ⟨v', w', hrun, ho'.mono hbase, ⟨hg.os, hg.tape, hg.output, hg.size, fun k hk _ => hg.block k hk (by simp)⟩, ?_⟩
      right
      rcases ho' with ⟨_, h2⟩ | ⟨g', o', c', rfl, hb', _⟩
      · simp at h2
      · exact ⟨g', rfl, hb'⟩

/-- 'append' of one element, wherever its turn comes -/
theorem EffAt.push {α : Type} {P : Program} {w : World} {o : Oper} {a : Act} {R : Value → World → Prop} (s x : Operand) (t : TypeId)
    (ho : o.op = .call { callee := .builtin .append, args := #[s, x], argTypes := #[t, t] }) {e : TypeId} {z : Value} {sz bytes : Nat} (E : Elem P t e z sz bytes)
    (base : Nat) {v : Value} (f : α → List Value) (hf : ∀ x, (f x).length = sz) (h1 : ∀ x u, u ∈ f x → u.oneCell' = true) {xs : List α} (y : α) (hown : OwS f sz w base v xs) (hs : a.eval s = v)
    (b0 : Nat) (hx : a.eval x = .slice (some ⟨b0, 0, none⟩) 1 1) (hnew : ∀ i u, (f y)[i]? = some u → w.cell? ⟨b0, i, none⟩ = some u)
    (hlen : (xs.length + 1) * bytes ≤ 140737488355328) (hm : xs.length + 1 ≤ 140737488355328) (hbase : base ≤ w.heap.size)
    (h : ∀ v' w', OwS f sz w' base v' (xs ++ [y]) → w.grownBy w' v.ownBlock → (v'.ownBlock = v.ownBlock ∨ ∃ g, v'.ownBlock = some g ∧ w.heap.size ≤ g) → R v' w') : EffAt P o a w R := by
  obtain ⟨v', w', hrun, q1, q2, q3⟩ := run_pushS w t o.type E base f hf h1 y hown b0 hnew hlen hm hbase
  unfold EffAt
  have : (execOp a.eval o).run P w = .ok (.value v') w' := by
    simp [execOp, ho, resolve, invoke, builtin, hs, hx, hrun, Result.andThen]
  rw [this]
  exact h v' w' q1 q2 q3

end Go.Proofs.YtcblkjjkpffjhaaDoor
