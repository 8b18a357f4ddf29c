/- Plain laws of the ring that comes right: somebody is free; a move frees no more; where one is free the freedom goes round; and it comes so. No program here. -/
import Derived.Test.YtejbbnejpbpdmaaA5
namespace Go.Proofs.Ytejbbnejpbpdmaa

/-- who is free, of n machines with states X -/
def fr (n : Nat) (X : Nat → Int) (i : Nat) : Bool := if i = 0 then X 0 == X (n - 1) else !(X i == X (i - 1))
/-- the states behind a move -/
def mvX (k : Int) (X : Nat → Int) (i : Nat) : Nat → Int := fun j => if j = i then (if i = 0 then (X 0 + 1) % k else X (i - 1)) else X j

theorem fr_zero (n : Nat) (X : Nat → Int) : fr n X 0 = true ↔ X 0 = X (n - 1) := by simp [fr]
theorem fr_pos {n : Nat} {X : Nat → Int} {i : Nat} (h : 0 < i) : fr n X i = true ↔ X i ≠ X (i - 1) := by
  unfold fr; rw [if_neg (by omega)]; simp

theorem all_eq {n : Nat} {X : Nat → Int} (h : ∀ i, 0 < i → i < n → ¬ fr n X i = true) : ∀ i, i < n → X i = X 0
  | 0, _ => rfl
  | i + 1, hi => by
    have h1 := all_eq h i (by omega)
    have h2 := h (i + 1) (by omega) hi
    rw [fr_pos (by omega)] at h2
    simp only [Nat.add_sub_cancel, Classical.not_not] at h2
    rw [h2, h1]

theorem some_fr {n : Nat} (X : Nat → Int) (hn : 0 < n) : ∃ i, i < n ∧ fr n X i = true := by
  by_cases h : ∃ i, 0 < i ∧ i < n ∧ fr n X i = true
  · obtain ⟨i, _, h1, h2⟩ := h; exact ⟨i, h1, h2⟩
  · refine ⟨0, hn, (fr_zero n X).2 ?_⟩
    have := all_eq (n := n) (X := X) (fun i h0 h1 h2 => h ⟨i, h0, h1, h2⟩) (n - 1) (by omega)
    exact this.symm

theorem succ_ne {k x : Int} (hk : 2 ≤ k) (h0 : 0 ≤ x) (h1 : x < k) : (x + 1) % k ≠ x := by
  by_cases h : x + 1 = k
  · rw [h, Int.emod_self]; omega
  · rw [Int.emod_eq_of_lt (by omega) (by omega)]; omega

theorem mv_self {n : Nat} {k : Int} {X : Nat → Int} {i : Nat} (hn : 2 ≤ n) (hk : 2 ≤ k) (hi : i < n) (hx : ∀ j, j < n → 0 ≤ X j ∧ X j < k) (hf : fr n X i = true) : fr n (mvX k X i) i = false := by
  rw [Bool.eq_false_iff]
  by_cases h0 : i = 0
  · subst h0
    rw [Ne, fr_zero]
    rw [fr_zero] at hf
    have := hx 0 (by omega)
    simp only [mvX, if_true, if_neg (show ¬ n - 1 = 0 by omega)]
    rw [← hf]
    exact succ_ne hk this.1 this.2
  · rw [Ne, fr_pos (by omega)]
    simp only [mvX, if_true, if_neg h0, if_neg (show ¬ i - 1 = i by omega)]
    simp

theorem mv_other {n : Nat} {k : Int} {X : Nat → Int} {i j : Nat} (hn : 2 ≤ n) (hi : i < n) (hj : j < n) (h1 : j ≠ i) (h2 : j ≠ (i + 1) % n) : fr n (mvX k X i) j = fr n X j := by
  have h3 : ¬ (j = 0 ∧ i = n - 1) := by
    rintro ⟨rfl, rfl⟩
    rw [Nat.sub_add_cancel (by omega), Nat.mod_self] at h2
    exact h2 rfl
  have h4 : ¬ j = i + 1 := by
    rintro rfl
    rw [Nat.mod_eq_of_lt hj] at h2
    exact h2 rfl
  unfold fr
  by_cases h0 : j = 0
  · simp only [h0, if_true, mvX]
    rw [if_neg (by omega), if_neg (by omega)]
  · simp only [h0, if_false, mvX]
    rw [if_neg (by omega), if_neg (by omega)]

def frL (n : Nat) (X : Nat → Int) : List Nat := (List.range n).filter (fr n X)

/-- a sum over the first n numbers -/
def S : Nat → (Nat → Int) → Int
  | 0, _ => 0
  | n + 1, f => S n f + f n

theorem S_le {f g : Nat → Int} : ∀ (n : Nat), (∀ j, j < n → f j ≤ g j) → S n f ≤ S n g
  | 0, _ => Int.le_refl _
  | n + 1, h => by
    have h1 := S_le n (fun j hj => h j (by omega))
    have h2 := h n (by omega)
    simp only [S]; omega

theorem S_add (f g : Nat → Int) : ∀ n, S n (fun j => f j + g j) = S n f + S n g
  | 0 => rfl
  | n + 1 => by simp only [S, S_add f g n]; omega

theorem S_sub (f g : Nat → Int) : ∀ n, S n (fun j => f j - g j) = S n f - S n g
  | 0 => rfl
  | n + 1 => by simp only [S, S_sub f g n]; omega

theorem S_at (i : Nat) (c : Int) : ∀ n, S n (fun j => if j = i then c else 0) = if i < n then c else 0
  | 0 => rfl
  | n + 1 => by
    simp only [S, S_at i c n]
    by_cases h : i < n
    · rw [if_pos h, if_neg (by omega), if_pos (by omega)]; omega
    · by_cases h' : n = i
      · rw [if_neg h, if_pos h', if_pos (by omega)]; omega
      · rw [if_neg h, if_neg h', if_neg (by omega)]; omega

theorem S_nonneg {f : Nat → Int} : ∀ (n : Nat), (∀ j, j < n → 0 ≤ f j) → 0 ≤ S n f
  | 0, _ => Int.le_refl _
  | n + 1, h => by
    have h1 := S_nonneg n (fun j hj => h j (by omega))
    have h2 := h n (by omega)
    simp only [S]; omega

def one (b : Bool) : Int := if b then 1 else 0

theorem len_filter (p : Nat → Bool) : ∀ n, (((List.range n).filter p).length : Int) = S n (fun j => one (p j))
  | 0 => rfl
  | n + 1 => by
    rw [List.range_succ, List.filter_append, List.length_append, Int.natCast_add, len_filter p n]
    simp only [S, one]
    cases h : p n <;> simp [h]

theorem frL_le {n : Nat} {k : Int} {X : Nat → Int} {i : Nat} (hn : 2 ≤ n) (hk : 2 ≤ k) (hi : i < n) (hx : ∀ j, j < n → 0 ≤ X j ∧ X j < k) (hf : fr n X i = true) : (frL n (mvX k X i)).length ≤ (frL n X).length := by
  have h1 : S n (fun j => one (fr n (mvX k X i) j)) ≤ S n (fun j => (one (fr n X j) - (if j = i then 1 else 0)) + (if j = (i + 1) % n then 1 else 0)) := by
    refine S_le n fun j hj => ?_
    by_cases hji : j = i
    · subst hji
      rw [mv_self hn hk hi hx hf, hf, if_pos rfl]
      simp only [one, Bool.false_eq_true, if_false, if_true]
      split <;> omega
    · rw [if_neg hji]
      by_cases hjc : j = (i + 1) % n
      · rw [if_pos hjc]
        simp only [one]
        split <;> split <;> omega
      · rw [if_neg hjc, mv_other hn hi hj hji hjc]; omega
  rw [S_add, S_sub, S_at, S_at, if_pos hi, if_pos (Nat.mod_lt _ (by omega)), ← len_filter, ← len_filter] at h1
  unfold frL
  omega

/-! one who is free -/
theorem frL_pos {n : Nat} (X : Nat → Int) (hn : 0 < n) : 0 < (frL n X).length := by
  obtain ⟨i, hi, hf⟩ := some_fr X hn
  exact List.length_pos_of_mem (List.mem_filter.2 ⟨List.mem_range.2 hi, hf⟩)

theorem mem_frL {n : Nat} {X : Nat → Int} {i : Nat} : i ∈ frL n X ↔ i < n ∧ fr n X i = true := by
  unfold frL; rw [List.mem_filter, List.mem_range]

/-- where one is free, the next one is so behind its move -/
theorem frL_turn {n : Nat} {k : Int} {X : Nat → Int} {i : Nat} (hn : 2 ≤ n) (hk : 2 ≤ k) (hx : ∀ j, j < n → 0 ≤ X j ∧ X j < k) (h : frL n X = [i]) : frL n (mvX k X i) = [(i + 1) % n] := by
  have hm : i < n ∧ fr n X i = true := mem_frL.1 (by rw [h]; simp)
  have hle := frL_le hn hk hm.1 hx hm.2
  have hpos := frL_pos (mvX k X i) (show 0 < n by omega)
  rw [h] at hle
  match hq : frL n (mvX k X i) with
  | [] => rw [hq] at hpos; simp at hpos
  | [j] =>
    have hj : j < n ∧ fr n (mvX k X i) j = true := mem_frL.1 (by rw [hq]; simp)
    by_cases hji : j = i
    · rw [hji, mv_self hn hk hm.1 hx hm.2] at hj; cases hj.2
    · by_cases hjc : j = (i + 1) % n
      · rw [hjc]
      · rw [mv_other hn hm.1 hj.1 hji hjc] at hj
        have : j ∈ frL n X := mem_frL.2 hj
        rw [h] at this; simp at this; exact absurd this hji
  | a :: b :: l => rw [hq] at hle; simp at hle

end Go.Proofs.Ytejbbnejpbpdmaa
