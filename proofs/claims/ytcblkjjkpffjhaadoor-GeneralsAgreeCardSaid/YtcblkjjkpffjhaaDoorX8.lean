/- 'append(own, src...)' as an operation on parts; a slice made without elements as an own one. Over any program. No condition. -/
import Derived.Test.YtcblkjjkpffjhaaDoorX3
import Derived.Test.YtcblkjjkpffjhaaDoorS7
import Derived.Laws.OwnMore
namespace Go.Proofs.YtcblkjjkpffjhaaDoor
open Go.RowKit
set_option linter.unusedVariables false

theorem sls_bd {α : Type} {f : α → List Value} {sz : Nat} {w : World} {v : Value} {xs : List α} (h : SlS f sz w v xs) : xs.length ≤ 140737488355328 := by obtain ⟨_, _, _, hm, _⟩ := h; exact hm
theorem run_append_none_own {P : Program} {w : World} (t ty e : TypeId) (i : TypeInfo) (ht : P.underlying t = some (.slice e)) (hi : P.info? e = some i) {a : Option Addr} {n cap : Nat} (ha : a = none → n = 0) (hc : n ≤ cap) :
    (Builtin.append_ #[t, t] ty #[.slice a n cap, .slice none 0 0]).run P w = .ok (.slice a n cap) w := by
  cases a with
  | none => 
    obtain rfl := ha rfl
    simp [Builtin.append_, run_underlying ht, sizeOf, typeInfo, hi, Builtin.lenOf, Builtin.firstCells]
  | some ad => simp [Builtin.append_, run_underlying ht, sizeOf, typeInfo, hi, Builtin.lenOf, Builtin.firstCells, hc, storeCells]

theorem run_pushAllS {α : Type} {P : Program} (w : World) (t ty : TypeId) {e : TypeId} {z : Value} {sz bytes : Nat} (E : Elem P t e z sz bytes)
    (base : Nat) {v : Value} (f : α → List Value) (hf : ∀ x, (f x).length = sz) (h1 : ∀ x u, u ∈ f x → u.oneCell' = true) {xs ys : List α} (hown : OwS f sz w base v xs)
    {u : Value} (hsl : SlS f sz w u ys)
    (hlen : (xs.length + ys.length) * bytes ≤ 140737488355328) (hm : xs.length + ys.length ≤ 140737488355328) (hbase : base ≤ w.heap.size) :
    ∃ v' w', (Builtin.append_ #[t, t] ty #[v, u]).run P w = .ok v' w' ∧ OwS f sz w' base v' (xs ++ ys) ∧ w.grownBy w' v.ownBlock ∧ (v'.ownBlock = v.ownBlock ∨ ∃ g, v'.ownBlock = some g ∧ w.heap.size ≤ g) := by
  obtain ⟨hu, hinfo, hzs, hsz⟩ := E
  obtain ⟨i, hi, hz0, hz1, hz2⟩ := info_parts hinfo
  by_cases hys : ys = []
  · subst hys
    obtain ⟨ao, cap', rfl, hm', hn, hcc⟩ := hsl
    simp only [List.append_nil]
    cases ao with
    | none =>
      obtain rfl : cap' = 0 := hn.1 rfl
      refine ⟨v, w, ?_, hown, World.grownBy.refl _ _, .inl rfl⟩
      rcases hown with ⟨rfl, rfl⟩ | ⟨g, off, cap, rfl, hb, hlt, hcap, hsp, hel⟩
      · exact run_append_none_own t ty e i hu hi (fun _ => rfl) (Nat.le_refl _)
      · exact run_append_none_own t ty e i hu hi (fun h => by cases h) hcap
    | some ad =>
      rcases hown with ⟨rfl, rfl⟩ | ⟨g, off, cap, rfl, hb, hlt, hcap, hsp, hel⟩
      · obtain ⟨v', w', hrun, hr, hg, hnil⟩ := run_append_own (P := P) w w.heap.size t ty e i z sz bytes hu hi hz0 hz1 hz2 hzs hsz (.slice none 0 0) 0 [] (World.ownsRow_nil w _ e sz) ad 0 cap' [] (by simp) (fun j u h => by simp at h) (fun u h => by simp at h) (by unfold maxLen; omega) (by omega) (Nat.le_refl _)
        obtain rfl := hnil.2 ⟨rfl, rfl⟩
        refine ⟨_, w', hrun, .inl ⟨rfl, rfl⟩, hg, .inl rfl⟩
      · have hrun := run_append_room_cells (P := P) w t ty e i hu hi g off xs.length cap ad 0 cap' [] (by simp) (fun j u h => by simp at h) (fun u h => by simp at h) (by omega) (fun j hj => by simp at hj) (fun j hj => by simp at hj)
        exact ⟨_, _, hrun, .inr ⟨g, off, cap, rfl, hb, hlt, hcap, hsp, hel⟩, World.grownBy.refl _ _, .inl rfl⟩
  have hpos : 0 < ys.length := by cases ys with | nil => exact absurd rfl hys | cons y l => simp
  obtain ⟨ao, cap', rfl, hm', hn, hcc⟩ := hsl
  obtain ⟨y0, hy0⟩ := get_of_lt hpos
  obtain ⟨b0, off0, rfl, _, _⟩ := hcc 0 y0 hy0
  have hfl := flat_len hf ys
  have h1' : ∀ u ∈ ys.flatMap f, u.oneCell' = true := fun u hu => by obtain ⟨y, _, hy⟩ := List.mem_flatMap.1 hu; exact h1 y u hy
  have hc : ∀ j u, (ys.flatMap f)[j]? = some u → w.cell? ((⟨b0, off0, none⟩ : Addr).add j) = some u :=
    flat_cells (f := f) hf hsz (p := fun k u => w.cell? ((⟨b0, off0, none⟩ : Addr).add k) = some u) fun j y hy i' u hu' => by
      obtain ⟨b, off, hb, _, hcell⟩ := hcc j y hy
      cases hb
      rw [addr_add]; exact hcell i' u hu'
  have hidx : ∀ {cs : List Value}, cs.length = xs.length * sz → (∀ j x, xs[j]? = some x → ∀ i u, (f x)[i]? = some u → cs[j * sz + i]? = some u) →
      ∀ j x, (xs ++ ys)[j]? = some x → ∀ i u, (f x)[i]? = some u → (cs ++ ys.flatMap f)[j * sz + i]? = some u := fun {cs} hcs hold j x' hx' p u hu' => by
    rcases Nat.lt_or_ge j xs.length with hlt | hge
    · rw [List.getElem?_append_left hlt] at hx'
      have h2 := hold j x' hx' p u hu'
      rw [List.getElem?_append_left (List.getElem?_eq_some_iff.1 h2).1]; exact h2
    · rw [List.getElem?_append_right hge] at hx'
      have hle := Nat.mul_le_mul_right sz hge
      rw [List.getElem?_append_right (by omega), hcs, show j * sz + p - xs.length * sz = (j - xs.length) * sz + p by rw [Nat.sub_mul]; omega]
      exact flat_get hf ys _ _ hx' _ _ hu'
  have hol := flat_len hf xs
  have hoc := flat_get (f := f) hf xs
  rcases hown with ⟨rfl, rfl⟩ | ⟨g, off, cap, rfl, hb, hlt, hcap, hsp, hel⟩
  · obtain ⟨v', w', hrun, hr, hg, _⟩ := run_append_own (P := P) w w.heap.size t ty e i z sz bytes hu hi hz0 hz1 hz2 hzs hsz (.slice none 0 0) 0 [] (World.ownsRow_nil w _ e sz) ⟨b0, off0, none⟩ ys.length cap' (ys.flatMap f) hfl hc h1' (by unfold maxLen; simp at hm; omega) (by simpa using hlen) (Nat.le_refl _)
    have ho' : OwS f sz w' w.heap.size v' ([] ++ ys) := OwS.of_row hr (by simp) (hidx (by simp) (fun j x hx => by simp at hx))
    refine ⟨v', w', hrun, ho'.mono hbase, hg, ?_⟩
    right
    rcases ho' with ⟨_, h2⟩ | ⟨g, o', c', rfl, hb', _⟩
    · simp at h2; exact absurd h2 hys
    · exact ⟨g, rfl, hb'⟩
  · have hcells : ∀ j u, (xs.flatMap f)[j]? = some u → w.cell? ⟨g, off + j, none⟩ = some u :=
      flat_cells (f := f) hf hsz (p := fun k u => w.cell? ⟨g, off + k, none⟩ = some u) fun j x hx i' u hu' => hel j x hx i' u hu'
    have hspare : xs.length + ys.length ≤ cap → ∀ j, j < (ys.flatMap f).length → (w.cell? ⟨g, off + xs.length * sz + j, none⟩).isSome = true ∧ w.frozen? ⟨g, off + xs.length * sz + j, none⟩ = false := by
      intro hr j hj
      rw [hfl] at hj
      have : xs.length * sz + j < cap * sz := by
        have := Nat.mul_le_mul_right sz hr
        rw [Nat.add_mul] at this; omega
      have := hsp (xs.length * sz + j) this
      rw [Nat.add_assoc]; exact this
    by_cases hr : xs.length + ys.length ≤ cap
    · have hrun := run_append_room_cells (P := P) w t ty e i hu hi g off xs.length cap ⟨b0, off0, none⟩ ys.length cap' (ys.flatMap f) (by rw [hfl, hz1]) hc h1' hr (fun j hj => by rw [hz1]; exact (hspare hr j hj).1) (fun j hj => by rw [hz1]; exact (hspare hr j hj).2)
      rw [hz1] at hrun
      have hspn : ∀ j, j < (ys.flatMap f).length → (w.cell? ⟨g, off + xs.length * sz + j, none⟩).isSome = true := fun j hj => (hspare hr j hj).1
      refine ⟨_, _, hrun, .inr ⟨g, off, cap, by simp, hb, ?_, by simpa using hr, fun j hj => ?_, fun j x' hx' p u hu' => ?_⟩, ⟨?_, ?_, ?_, ?_, ?_⟩, .inl rfl⟩
      · rw [size_setCells]; exact hlt
      · rw [World.frozen?_setCells]
        refine ⟨?_, (hsp j hj).2⟩
        by_cases hin : xs.length * sz ≤ j ∧ j < xs.length * sz + (ys.flatMap f).length
        · have := World.cell?_setCells_in g (ys.flatMap f) (off + xs.length * sz) w hspn (j - xs.length * sz) (by omega)
          rw [show off + xs.length * sz + (j - xs.length * sz) = off + j by omega] at this
          rw [this]; rfl
        · rw [World.cell?_setCells_out g (ys.flatMap f) (off + xs.length * sz) w ⟨g, off + j, none⟩ (fun _ _ => by show off + j < _ ∨ _ ≤ off + j; omega)]
          exact (hsp j hj).1
      · have hp : p < sz := by have := (List.getElem?_eq_some_iff.1 hu').1; rw [hf] at this; exact this
        rcases Nat.lt_or_ge j xs.length with hjl | hge
        · rw [List.getElem?_append_left hjl] at hx'
          have h3 : j * sz + p < xs.length * sz := by
            have := Nat.mul_le_mul_right sz (show j + 1 ≤ xs.length from hjl)
            rw [Nat.add_mul] at this; omega
          rw [World.cell?_setCells_out g (ys.flatMap f) (off + xs.length * sz) w _ (fun _ _ => by left; show off + (j * sz + p) < _; omega)]
          exact hel j x' hx' p u hu'
        · rw [List.getElem?_append_right hge] at hx'
          have hq := flat_get hf ys _ _ hx' _ _ hu'
          have hql := (List.getElem?_eq_some_iff.1 hq).1
          have hle := Nat.mul_le_mul_right sz hge
          have := World.cell?_setCells_in g (ys.flatMap f) (off + xs.length * sz) w hspn ((j - xs.length) * sz + p) hql
          rw [show off + (j * sz + p) = off + xs.length * sz + ((j - xs.length) * sz + p) by rw [Nat.sub_mul]; omega, this]
          rw [List.getElem?_eq_getElem hql] at hq; exact hq
      · exact os_setCells _ _ _ _
      · exact tape_setCells _ _ _ _
      · exact output_setCells _ _ _ _
      · rw [size_setCells]; exact Nat.le_refl _
      · intro k hk hne
        exact block_setCells _ _ _ _ _ (fun e => hne (by simp [Value.ownBlock, e]))
    · obtain ⟨v', w', hrun, hrow, hg⟩ := run_append_arg_grows (P := P) w t ty e i z sz bytes hu hi hz0 hz1 hz2 hzs hsz ⟨g, off, none⟩ xs.length cap (xs.flatMap f) hol (fun j u hj => by rw [Addr.add_lit]; exact hcells j u hj) ⟨b0, off0, none⟩ ys.length cap' (ys.flatMap f) hfl hc (by omega) (by unfold maxLen; omega) hlen
      have ho' : OwS f sz w' w.heap.size v' (xs ++ ys) := OwS.of_row hrow (by simp) (hidx hol hoc)
      refine ⟨v', w', hrun, ho'.mono hbase, ⟨hg.os, hg.tape, hg.output, hg.size, fun k hk _ => hg.block k hk (by simp)⟩, ?_⟩
      right
      rcases ho' with ⟨_, h2⟩ | ⟨g', o', c', rfl, hb', _⟩
      · simp at h2; exact absurd h2.2 hys
      · exact ⟨g', rfl, hb'⟩

section
variable {P : Program} {c : Cx} {m : List (Nat × Value)} {l l' : List Hp} {o : Oper} {x y z : Operand} {v u u' : Value} {T T' S : TypeId}
/-- a slice made without elements: an own one -/
theorem eff_buildNil {α : Type} {f : α → List Value} {e : TypeId} {sz : Nat} (ho : o.op = .buildSlice T 0 #[]) (hT : P.underlying T = some (.slice e))
    (hr : ∀ w : World, (Instr.buildSlice T 0 #[]).run P w = .ok (.slice (some ⟨w.heap.size, 0, none⟩) 0 0) (w.alloc (.cells #[] e))) :
    Eff P c m l o (fun v l'' => IsS v ∧ l'' = Hp.own f sz v ([] : List α) :: l) := Eff.of fun a w s H => by
  have hO : OwS f sz (w.alloc (.cells #[] e)) w.heap.size (.slice (some ⟨w.heap.size, 0, none⟩) 0 0) ([] : List α) := OwS.of_row (row_made w e sz) rfl (fun j x hx => by simp at hx)
  refine ⟨.slice (some ⟨w.heap.size, 0, none⟩) 0 0, w.alloc (.cells #[] e), ?_, _, ⟨⟨_, _, _, rfl⟩, rfl⟩, H.newOwn hO⟩
  simp [execOp, ho, hr, Result.andThen]
/-- 'append(own, src...)' -/
theorem eff_pushAll {α : Type} {f : α → List Value} {e : TypeId} {zv : Value} {sz bytes k : Nat} {xs ys : List α} (ho : o.op = .call { callee := .builtin .append, args := #[x, y], argTypes := #[T, T] }) (E : Elem P T e zv sz bytes) (hf : ∀ x, (f x).length = sz) (h1 : ∀ x u, u ∈ f x → u.oneCell' = true)
    (hx : evo m x = some v) (hy : evo m y = some u) (hu : ∀ w, Sat c.W w (sep l) → SlS f sz w u ys) (hk : l[k]? = some (Hp.own f sz v xs)) (hb : (xs.length + ys.length) * bytes ≤ 140737488355328) (hm : xs.length + ys.length ≤ 140737488355328) :
    Eff P c m l o (fun v' l'' => IsS v' ∧ l'' = l.set k (Hp.own f sz v' (xs ++ ys))) := Eff.of fun a w s H => by
  have H1 := H.at_ hk
  obtain ⟨v', w', hrun, q1, q2, q3⟩ := run_pushAllS w T o.type E c.W.heap.size f hf h1 H1.ows (hu w H) hb hm H.size
  refine ⟨v', w', by simp [execOp, ho, resolve, invoke, builtin, s.ev hx, s.ev hy, hrun, Result.andThen], _, ⟨?_, rfl⟩, ?_⟩
  · rcases q1 with ⟨rfl, _⟩ | ⟨g, o', c', rfl, _⟩
    · exact ⟨_, _, _, rfl⟩
    · exact ⟨_, _, _, rfl⟩
  · exact (H1.reown q1 q2 q3).back hk rfl
end
end Go.Proofs.YtcblkjjkpffjhaaDoor
