/- Acts, what clashes, and orders, in plain words. No condition. -/
import Derived.Test.YtcepfpbhfobbeaaT
import Derived.Test.YtcepfpbhfobbeaaX12
namespace Go.Proofs.Ytcepfpbhfobbeaa
open Go.RowKit
set_option linter.unusedVariables false
set_option linter.unusedSimpArgs false
set_option maxRecDepth 100000

structure Act where
  (kind txn item : Int)
structure An where
  kind : Int
  (txn item : Nat)
def An.raw (a : An) : Act := ⟨a.kind, a.txn, a.item⟩
abbrev FR (e : Act) : List Value := [.int .i64 e.kind, .int .i64 e.txn, .int .i64 e.item]
abbrev FA (e : An) : List Value := [.int .i64 e.kind, .int .i64 ((e.txn : Nat) : Int), .int .i64 ((e.item : Nat) : Int)]
abbrev FN (i : Nat) : List Value := [.int .i64 ((i : Nat) : Int)]
abbrev FZ (i : Int) : List Value := [.int .i64 i]
abbrev natI (i : Nat) : Value := .int .i64 ((i : Nat) : Int)
theorem FR_len (c : Act) : (FR c).length = 3 := rfl
theorem FA_len (c : An) : (FA c).length = 3 := rfl
theorem FN_len (c : Nat) : (FN c).length = 1 := rfl
theorem FZ_len (c : Int) : (FZ c).length = 1 := rfl
theorem FN_one (p : Nat) (u : Value) (h : u ∈ FN p) : u.oneCell' = true := by simp [FN] at h; subst h; rfl
theorem FZ_one (p : Int) (u : Value) (h : u ∈ FZ p) : u.oneCell' = true := by simp [FZ] at h; subst h; rfl
theorem FA_one (p : An) (u : Value) (h : u ∈ FA p) : u.oneCell' = true := by simp [FA] at h; rcases h with rfl | rfl | rfl <;> rfl
theorem Try.eN : Elem Try.prog 23 3 (.int .i64 0) 1 8 := ⟨Try.underlying23, by kernel_rfl, rfl, by decide⟩
theorem Try.eA : Elem Try.prog 22 30 (.agg #[.int .i64 0, .int .i64 0, .int .i64 0]) 3 24 := ⟨Try.underlying22, by kernel_rfl, rfl, by decide⟩
theorem Try.kN : KeyT Try.prog 3 natV natL (fun n => n < 4611686018427387904) := natT Try.underlying3
structure OkA (l : List Act) : Prop where
  len : l.length ≤ 60
  all : ∀ (i : Nat) (a : Act), l[i]? = some a → 1 ≤ a.kind ∧ a.kind ≤ 4 ∧ 0 ≤ a.txn ∧ a.txn < 6 ∧ 0 ≤ a.item ∧ a.item < 4
structure OkN (l : List An) : Prop where
  len : l.length ≤ 60
  all : ∀ (i : Nat) (a : An), l[i]? = some a → 1 ≤ a.kind ∧ a.kind ≤ 4 ∧ a.txn < 6 ∧ a.item < 4
theorem raw_of {r : List Act} (h : OkA r) : ∃ l : List An, r = l.map An.raw ∧ OkN l := by
  refine ⟨r.map fun a => ⟨a.kind, a.txn.toNat, a.item.toNat⟩, ?_, ⟨by rw [List.length_map]; exact h.len, fun i a hi => ?_⟩⟩
  · rw [List.map_map]
    conv => lhs; rw [← List.map_id r]
    refine List.map_congr_left fun a ha => ?_
    obtain ⟨i, hi⟩ := List.getElem?_of_mem ha
    have := h.all i a hi
    obtain ⟨k, t, m⟩ := a
    simp only [Function.comp, An.raw, id]
    simp at this
    rw [Int.toNat_of_nonneg (by omega), Int.toNat_of_nonneg (by omega)]
  · rw [List.getElem?_map] at hi
    cases e : r[i]? with
    | none => rw [e] at hi; cases hi
    | some b =>
      rw [e] at hi; cases hi
      have := h.all i b e
      simp; omega
theorem sls_raw {w : World} {v : Value} {l : List An} : SlS FR 3 w v (l.map An.raw) ↔ SlS FA 3 w v l := by
  constructor
  · rintro ⟨a, c, e, hm, hn, hc⟩
    rw [List.length_map] at e hm hn
    refine ⟨a, c, e, hm, hn, fun j x hx => ?_⟩
    exact hc j x.raw (by rw [List.getElem?_map, hx]; rfl)
  · rintro ⟨a, c, e, hm, hn, hc⟩
    refine ⟨a, c, by rw [List.length_map]; exact e, by rw [List.length_map]; exact hm, by rw [List.length_map]; exact hn, fun j x hx => ?_⟩
    rw [List.getElem?_map] at hx
    cases e2 : l[j]? with
    | none => rw [e2] at hx; cases hx
    | some y => rw [e2] at hx; cases hx; exact hc j y e2
theorem ok_raw {l : List An} (h : OkN l) : OkA (l.map An.raw) := by
  refine ⟨by rw [List.length_map]; exact h.len, fun i a hi => ?_⟩
  rw [List.getElem?_map] at hi
  cases e : l[i]? with
  | none => rw [e] at hi; cases hi
  | some b => rw [e] at hi; cases hi; have := h.all i b e; simp only [An.raw]; omega
def clashB (a b : An) : Bool := decide (a.kind ≤ 2 ∧ b.kind ≤ 2 ∧ a.txn ≠ b.txn ∧ a.item = b.item ∧ (a.kind = 2 ∨ b.kind = 2))
theorem clashB_iff {a b : An} : clashB a b = true ↔ a.kind ≤ 2 ∧ b.kind ≤ 2 ∧ a.txn ≠ b.txn ∧ a.item = b.item ∧ (a.kind = 2 ∨ b.kind = 2) := by simp [clashB]
/-- which must stand ahead of which, by the first acts -/
def Edge (l : List An) (a b : Nat) : Prop := ∃ (j i : Nat) (x y : An), j < i ∧ l[j]? = some x ∧ l[i]? = some y ∧ clashB x y = true ∧ x.txn = a ∧ y.txn = b
def Key (l : List An) (t : Nat) : Prop := ∃ (i : Nat) (x : An), l[i]? = some x ∧ x.txn = t
def pos (xs : List Int) (z : Int) : Int := if z ∈ xs then ((xs.idxOf z : Nat) : Int) else -1
theorem pos_eq {xs : List Int} {z : Int} {k : Nat} (h : xs[k]? = some z) (hn : ¬ z ∈ xs.take k) : pos xs z = (k : Int) := by
  unfold pos
  rw [if_pos (List.mem_of_getElem? h)]
  obtain ⟨hlt, rfl⟩ := List.getElem?_eq_some_iff.1 h
  congr 1
  have h1 := List.idxOf_lt_length_of_mem (List.getElem_mem hlt)
  have h2 := List.getElem_idxOf h1
  refine Nat.le_antisymm (Nat.le_of_not_lt fun hlt2 => ?_) (Nat.le_of_not_lt fun hlt2 => ?_)
  · have : xs.idxOf xs[k] ≤ k := by
      conv => lhs; arg 2; rw [← List.take_append_drop k xs]
      rw [List.idxOf_append, if_neg hn, List.drop_eq_getElem_cons hlt, List.idxOf_cons_self, List.length_take]; omega
    omega
  · refine hn (List.mem_of_getElem? (i := xs.idxOf xs[k]) ?_)
    rw [List.getElem?_take, if_pos hlt2, List.getElem?_eq_getElem h1, h2]
theorem pos_no {xs : List Int} {z : Int} (h : ¬ z ∈ xs) : pos xs z = -1 := by unfold pos; rw [if_neg h]
theorem pos_mem {xs : List Int} {z : Int} : 0 ≤ pos xs z ↔ z ∈ xs := by
  unfold pos; split
  · rename_i h; exact iff_of_true (by omega) h
  · rename_i h; exact iff_of_false (by omega) h
theorem pos_ge (xs : List Int) (z : Int) : -1 ≤ pos xs z := by unfold pos; split <;> omega
theorem pos_le (xs : List Int) (z : Int) : pos xs z ≤ xs.length := by
  unfold pos; split
  · have := List.idxOf_le_length (l := xs) (a := z); omega
  · omega
theorem pos_get {xs : List Int} {z : Int} (h : z ∈ xs) : xs[(pos xs z).toNat]? = some z := by
  unfold pos
  rw [if_pos h, Int.toNat_natCast]
  have h1 := List.idxOf_lt_length_of_mem h
  rw [List.getElem?_eq_getElem h1, List.getElem_idxOf h1]
theorem pos_inj {xs : List Int} {y z : Int} (hy : y ∈ xs) (hz : z ∈ xs) (h : pos xs y = pos xs z) : y = z := by
  have h1 := pos_get hy
  rw [h, pos_get hz] at h1
  cases h1; rfl
/-- a list that keeps all in order -/
structure Keeps (l : List An) (xs : List Int) : Prop where
  key : ∀ t : Nat, Key l t → (t : Int) ∈ xs
  ed : ∀ a b : Nat, Edge l a b → pos xs a ≤ pos xs b
  nd : xs.Nodup
end Go.Proofs.Ytcepfpbhfobbeaa
