/- Own slices of single cells, told to the cell: cells written anew, a new row; what lies in new memory alone. Over any program. No condition. -/
import Derived.Test.YtcblkjjkpffjhaaDoorX16
import Derived.Laws.IdiomCopy
import Derived.Deep.MidRow
namespace Go.Proofs.YtcblkjjkpffjhaaDoor
open Go.RowKit
set_option linter.unusedVariables false
set_option linter.unusedSimpArgs false
section
variable {α : Type} {p : α → Value} {W w w' : World} {R : Hp} {g o n cap base : Nat} {xs ys zs : List α}
theorem OwS.over (h : OwS (fun x => [p x]) 1 w base (.slice (some ⟨g, o, none⟩) n cap) xs) (lo : Nat) (zs : List α) (hlo : lo + zs.length ≤ cap) (hy : ys.length ≤ cap)
    (hc : ∀ j y, ys[j]? = some y → (lo ≤ j ∧ zs[j - lo]? = some y) ∨ ((j < lo ∨ lo + zs.length ≤ j) ∧ xs[j]? = some y)) : OwS (fun x => [p x]) 1 (w.setCells g (o + lo) (zs.map p)) base (.slice (some ⟨g, o, none⟩) ys.length cap) ys := by
  rcases h with ⟨e, _⟩ | ⟨g', o', cap', e, hb, hlt, hcap, hs, he⟩
  · cases e
  · cases e
    have hM := setCells_meta g (zs.map p) (o + lo) w
    have hin : ∀ j, j < (zs.map p).length → (w.cell? ⟨g, o + lo + j, none⟩).isSome = true := fun j hj => by
      rw [List.length_map] at hj
      rw [Nat.add_assoc]; exact (hs (lo + j) (by omega)).1
    refine .inr ⟨g, o, cap, rfl, hb, by rw [hM.2.2.2.1]; exact hlt, hy, fun j hj => ?_, fun j y hj i u hu => ?_⟩
    · rw [World.frozen?_setCells]
      exact ⟨World.isSome_setCells g _ _ _ _ (hs j hj).1, (hs j hj).2⟩
    · cases i with
      | succ i => simp at hu
      | zero =>
        simp at hu; subst hu
        rw [Nat.mul_one, Nat.add_zero]
        rcases hc j y hj with ⟨h1, h2⟩ | ⟨h1, h2⟩
        · have hl := (List.getElem?_eq_some_iff.1 h2).1
          have := World.cell?_setCells_in g (zs.map p) (o + lo) w hin (j - lo) (by rw [List.length_map]; exact hl)
          rw [show o + lo + (j - lo) = o + j by omega] at this
          rw [this, List.getElem_map]
          obtain ⟨_, e⟩ := List.getElem?_eq_some_iff.1 h2
          rw [e]
        · rw [World.cell?_setCells_out g _ _ _ _ (fun _ _ => by rw [List.length_map]; dsimp only; omega)]
          have := he j y h2 0 (p y) rfl
          rwa [Nat.mul_one, Nat.add_zero] at this
theorem Sat.over (H : Sat W w (Hp.own (fun x => [p x]) 1 (.slice (some ⟨g, o, none⟩) n cap) xs * R)) (lo : Nat) (zs : List α) (hlo : lo + zs.length ≤ cap) (hy : ys.length ≤ cap)
    (hc : ∀ j y, ys[j]? = some y → (lo ≤ j ∧ zs[j - lo]? = some y) ∨ ((j < lo ∨ lo + zs.length ≤ j) ∧ xs[j]? = some y)) : Sat W (w.setCells g (o + lo) (zs.map p)) (Hp.own (fun x => [p x]) 1 (.slice (some ⟨g, o, none⟩) ys.length cap) ys * R) := by
  have hM := setCells_meta g (zs.map p) (o + lo) w
  exact H.reown (H.ows.over lo zs hlo hy hc) ⟨hM.1, hM.2.1, hM.2.2.1, by rw [hM.2.2.2.1]; exact Nat.le_refl _, fun q _ hq => hM.2.2.2.2 q (fun e => hq (by rw [e]; rfl))⟩ (.inl rfl)
/-- a row that was just laid -/
theorem OwS.laid {cs : Array Value} {t : TypeId} (w : World) (hs : cs.size = cap) (hx : xs.length ≤ cap) (hc : ∀ (j : Nat) (x : α), xs[j]? = some x → cs[j]? = some (p x)) : OwS (fun x => [p x]) 1 (w.alloc (.cells cs t)) w.heap.size (.slice (some ⟨w.heap.size, 0, none⟩) xs.length cap) xs := by
  have hh : (w.alloc (.cells cs t)).heap[w.heap.size]? = some (.cells cs t (0, 0)) := heap_alloc_new w _
  refine .inr ⟨w.heap.size, 0, cap, rfl, Nat.le_refl _, by simp, hx, fun j hj => ?_, fun j x hj i u hu => ?_⟩
  · rw [Nat.zero_add, cell_of_row _ _ j _ t (0, 0) hh, frozen_of_row _ _ j _ t hh]
    refine ⟨?_, rfl⟩
    rw [Option.isSome_iff_exists]
    exact ⟨_, Array.getElem?_eq_getElem (by omega)⟩
  · cases i with
    | succ i => simp at hu
    | zero =>
      simp at hu; subst hu
      rw [Nat.zero_add, Nat.mul_one, Nat.add_zero, cell_of_row _ _ _ _ t (0, 0) hh]
      exact hc j x hj
end
/-- what lies in new memory alone is owned -/
theorem Sat.ofOwS {α : Type} {f : α → List Value} {sz : Nat} {w w' : World} {v : Value} {xs : List α} (hb : Below w.heap.size w w') (h : OwS f sz w' w.heap.size v xs) : Sat w w' (Hp.own f sz v xs) := by
  rcases h with ⟨rfl, rfl⟩ | ⟨g, off, cap, rfl, hb', hlt', hc', hs', he'⟩
  · exact ⟨hb, fun _ => none, fun k o hk => (by cases hk), .inl ⟨rfl, rfl, rfl⟩⟩
  · obtain ⟨o', ho'⟩ : ∃ o', w'.heap[g]? = some o' := ⟨_, Array.getElem?_eq_getElem hlt'⟩
    have hrow := isRow_of (w := w') (base := w.heap.size) (.inr ⟨g, off, cap, rfl, hb', hlt', hc', hs', he'⟩) ho'
    refine ⟨hb, single g o', fun k q hk => ?_, .inr ⟨g, off, cap, rfl, hc', o', hrow.1, rfl⟩⟩
    unfold single at hk
    split at hk
    · rename_i e; subst e; cases hk; exact ⟨hb', ho'⟩
    · cases hk
end Go.Proofs.YtcblkjjkpffjhaaDoor
