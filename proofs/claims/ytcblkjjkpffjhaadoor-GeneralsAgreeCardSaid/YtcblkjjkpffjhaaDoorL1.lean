/- Plain words on memory, over any program: slices that read as lists, what a call keeps. No condition. -/
import Derived.WalkKit
import Derived.WalkSpells
import Derived.WalkLawsBesides
import Derived.Deep.QuietTactic
import Derived.BigQuiet
import Derived.BigGuardPart
import Derived.Lib.Hide
namespace Go.Proofs.YtcblkjjkpffjhaaDoor
open Go.RowKit

/-- a slice value, of one cell an element, that reads as a list -/
def Sl {α : Type} (f : α → Value) (w : World) (v : Value) (xs : List α) : Prop :=
  ∃ a cap, v = .slice a xs.length cap ∧ xs.length ≤ 140737488355328 ∧ (a = none → cap = 0) ∧
    ∀ j x, xs[j]? = some x → ∃ b off, a = some ⟨b, off, none⟩ ∧ b < w.heap.size ∧ w.cell? ⟨b, off + j, none⟩ = some (f x)

theorem Sl.below {α : Type} {f : α → Value} {w w' : World} {v : Value} {xs : List α} (h : Sl f w v xs) (hb : Below w.heap.size w w') : Sl f w' v xs := by
  obtain ⟨a, cap, rfl, hm, hn, hc⟩ := h
  refine ⟨a, cap, rfl, hm, hn, fun j x hx => ?_⟩
  obtain ⟨b, off, rfl, hlt, hcell⟩ := hc j x hx
  exact ⟨b, off, rfl, Nat.lt_of_lt_of_le hlt hb.size, (hb.cell (p := ⟨b, off + j, none⟩) hlt).trans hcell⟩

theorem Sl.none_nil {α : Type} {f : α → Value} {w : World} {cap len : Nat} {xs : List α} (h : Sl f w (.slice none len cap) xs) : xs = [] ∧ cap = 0 := by
  obtain ⟨a, cap', hv, hm, hn, hc⟩ := h
  cases hv
  refine ⟨?_, hn rfl⟩
  cases xs with
  | nil => rfl
  | cons y ys => obtain ⟨b, off, hb, _⟩ := hc 0 y rfl; cases hb

abbrev SlI := Sl (Value.int .i64)

theorem get_of_lt {α : Type} {xs : List α} {k : Nat} (h : k < xs.length) : ∃ x, xs[k]? = some x := ⟨xs[k], List.getElem?_eq_getElem h⟩

theorem drop_of {α : Type} {xs : List α} {k : Nat} {x : α} (h : xs[k]? = some x) : xs.drop k = x :: xs.drop (k + 1) := by
  obtain ⟨hk, rfl⟩ := List.getElem?_eq_some_iff.1 h
  exact List.drop_eq_getElem_cons hk

theorem take_of {α : Type} {xs : List α} {k : Nat} {x : α} (h : xs[k]? = some x) : xs.take (k + 1) = xs.take k ++ [x] := by
  obtain ⟨hk, rfl⟩ := List.getElem?_eq_some_iff.1 h
  exact List.take_succ_eq_append_getElem hk

theorem ret_int {k : IntKind} {a b : Int} (h : a = b) : Ending.returned (.int k a) = .returned (.int k b) := by rw [h]
theorem ret_bool {a b : Bool} (h : a = b) : Ending.returned (.bool a) = .returned (.bool b) := by rw [h]

theorem cast_beq0 (i : Nat) : ((i : Int) == 0) = (i == 0) := by rw [Bool.eq_iff_iff, beq_iff_eq, beq_iff_eq]; omega
theorem cast_beq (i j : Nat) : ((i : Int) == (j : Int)) = (i == j) := by rw [Bool.eq_iff_iff, beq_iff_eq, beq_iff_eq]; omega
theorem ret_pair {v v' : Value} {k : IntKind} {a b : Int} (hv : v = v') (h : a = b) : Ending.returned (.tuple #[v, .int k a]) = .returned (.tuple #[v', .int k b]) := by rw [hv, h]

end Go.Proofs.YtcblkjjkpffjhaaDoor
