/- Lists of dots: places exchanged; what is in order. No condition. -/
import Derived.Test.YtfpkfbffpkjgbaaS20
import Derived.Test.YtfpkfbffpkjgbaaW2
namespace Go.Proofs.Ytfpkfbffpkjgbaa
open Go.RowKit
set_option linter.unusedVariables false
set_option linter.unusedSimpArgs false
set_option maxRecDepth 100000

theorem swap_at {L : List Dk} {i j : Nat} {x y : Dk} (hi : L[i]? = some x) (hj : L[j]? = some y) (k : Nat) : ((L.set i y).set j x)[k]? = if k = j then some x else if k = i then some y else L[k]? := by
  have l1 := (List.getElem?_eq_some_iff.1 hi).1
  have l2 := (List.getElem?_eq_some_iff.1 hj).1
  by_cases e : k = j
  · subst e; rw [if_pos rfl, List.getElem?_set, if_pos rfl, if_pos (by rw [List.length_set]; exact l2)]
  · rw [if_neg e, List.getElem?_set, if_neg (fun h => e h.symm)]
    by_cases e2 : k = i
    · subst e2; rw [if_pos rfl, List.getElem?_set, if_pos rfl, if_pos l1]
    · rw [if_neg e2, List.getElem?_set, if_neg (fun h => e2 h.symm)]
theorem swap_perm {L : List Dk} {i j : Nat} {x y : Dk} (hi : L[i]? = some x) (hj : L[j]? = some y) : ((L.set i y).set j x).Perm L := by
  obtain ⟨l1, rfl⟩ := List.getElem?_eq_some_iff.1 hi
  obtain ⟨l2, rfl⟩ := List.getElem?_eq_some_iff.1 hj
  exact List.set_set_perm l1 l2
/-- the second list is the first with places of [a, b) exchanged -/
inductive Sh (a b : Nat) : List Dk → List Dk → Prop
  | refl (xs : List Dk) : Sh a b xs xs
  | swap {xs ys : List Dk} {i j : Nat} {x y : Dk} : Sh a b xs ys → a ≤ i → i < b → a ≤ j → j < b → ys[i]? = some x → ys[j]? = some y → Sh a b xs ((ys.set i y).set j x)
section
variable {a b : Nat} {xs ys zs : List Dk}
theorem Sh.len (h : Sh a b xs ys) : ys.length = xs.length := by
  induction h with
  | refl => rfl
  | swap _ _ _ _ _ _ _ ih => rw [List.length_set, List.length_set]; exact ih
theorem Sh.perm (h : Sh a b xs ys) : ys.Perm xs := by
  induction h with
  | refl => exact .refl _
  | swap _ _ _ _ _ h1 h2 ih => exact (swap_perm h1 h2).trans ih
theorem Sh.out (h : Sh a b xs ys) {i : Nat} (hi : i < a ∨ b ≤ i) : ys[i]? = xs[i]? := by
  induction h with
  | refl => rfl
  | swap _ _ _ _ _ h1 h2 ih => rw [swap_at h1 h2, if_neg (by omega), if_neg (by omega)]; exact ih
theorem Sh.inn (h : Sh a b xs ys) {i : Nat} (h0 : a ≤ i) (h1 : i < b) : ∃ j, a ≤ j ∧ j < b ∧ ys[i]? = xs[j]? := by
  induction h generalizing i with
  | refl => exact ⟨i, h0, h1, rfl⟩
  | swap _ q1 q2 q3 q4 g1 g2 ih =>
    rw [swap_at g1 g2]
    split
    · rw [← g1]; exact ih q1 q2
    · split
      · rw [← g2]; exact ih q3 q4
      · exact ih h0 h1
theorem Sh.trans (h : Sh a b xs ys) (h2 : Sh a b ys zs) : Sh a b xs zs := by
  induction h2 with
  | refl => exact h
  | swap _ q1 q2 q3 q4 g1 g2 ih => exact .swap ih q1 q2 q3 q4 g1 g2
theorem Sh.mono {a' b' : Nat} (h : Sh a b xs ys) (ha : a' ≤ a) (hb : b ≤ b') : Sh a' b' xs ys := by
  induction h with
  | refl => exact .refl _
  | swap _ q1 q2 q3 q4 g1 g2 ih => exact .swap ih (by omega) (by omega) (by omega) (by omega) g1 g2
/-- all of [a, b) are such -/
def All (P : Dk → Prop) (a b : Nat) (xs : List Dk) : Prop := ∀ i x, a ≤ i → i < b → xs[i]? = some x → P x
theorem All.sh {P : Dk → Prop} (h : All P a b xs) (hs : Sh a b xs ys) : All P a b ys := fun i x h0 h1 hx => by
  obtain ⟨j, j1, j2, j3⟩ := hs.inn h0 h1
  exact h j x j1 j2 (by rw [← j3]; exact hx)
/-- ..and if other places were exchanged -/
theorem All.sh' {P : Dk → Prop} {c d : Nat} (h : All P a b xs) (hs : Sh c d xs ys) (hd : (a ≤ c ∧ d ≤ b) ∨ d ≤ a ∨ b ≤ c) : All P a b ys := fun i x h0 h1 hx => by
  by_cases q : i < c ∨ d ≤ i
  · exact h i x h0 h1 (by rw [← hs.out q]; exact hx)
  · obtain ⟨j, j1, j2, j3⟩ := hs.inn (i := i) (by omega) (by omega)
    exact h j x (by omega) (by omega) (by rw [← j3]; exact hx)
/-- in order -/
def Srt (a b : Nat) (xs : List Dk) : Prop := ∀ p q x y, a ≤ p → p < q → q < b → xs[p]? = some x → xs[q]? = some y → kK x ≤ kK y
theorem Srt.sh {c d : Nat} (h : Srt a b xs) (hs : Sh c d xs ys) (hd : d ≤ a ∨ b ≤ c) : Srt a b ys := fun p q x y h0 h1 h2 hp hq =>
  h p q x y h0 h1 h2 (by rw [← hs.out (by omega)]; exact hp) (by rw [← hs.out (by omega)]; exact hq)
theorem Srt.one (a : Nat) (xs : List Dk) : Srt a (a + 1) xs := fun p q x y h0 h1 h2 => by omega
/-- all of the left are at most all of the right -/
theorem Srt.join {m : Nat} (h1 : Srt a m xs) (h2 : Srt m b xs) (h3 : ∀ p q x y, a ≤ p → p < m → m ≤ q → q < b → xs[p]? = some x → xs[q]? = some y → kK x ≤ kK y) : Srt a b xs := fun p q x y q0 q1 q2 hp hq => by
  by_cases e : q < m
  · exact h1 p q x y q0 q1 e hp hq
  · by_cases e2 : m ≤ p
    · exact h2 p q x y e2 q1 q2 hp hq
    · exact h3 p q x y q0 (by omega) (by omega) q2 hp hq
/-- in order up to i, but for place j -/
def Ins (a i j : Nat) (xs : List Dk) : Prop := ∀ p q x y, a ≤ p → p < q → q ≤ i → q ≠ j → xs[p]? = some x → xs[q]? = some y → kK x ≤ kK y
theorem Srt.ins {i : Nat} (h : Srt a i xs) : Ins a i i xs := fun p q x y h0 h1 h2 h3 => h p q x y h0 h1 (by omega)
theorem Ins.done {i j : Nat} (h : Ins a i j xs) (hj : j = a ∨ (a < j ∧ ∃ x y, xs[j - 1]? = some x ∧ xs[j]? = some y ∧ kK x ≤ kK y)) : Srt a (i + 1) xs := by
  intro p q x y h0 h1 h2 hp hq
  by_cases e : q = j
  · subst e
    rcases hj with h3 | ⟨h3, u, w, hu, hw, huw⟩
    · omega
    · rw [hw] at hq; cases hq
      by_cases e2 : p = q - 1
      · subst e2; rw [hu] at hp; cases hp; exact huw
      · exact Int.le_trans (h p (q - 1) x u h0 (by omega) (by omega) (by omega) hp hu) huw
  · exact h p q x y h0 h1 (by omega) e hp hq
theorem Ins.swap {i j : Nat} {x y : Dk} (h : Ins a i (j + 1) xs) (ha : a ≤ j) (hji : j + 1 ≤ i) (hx : xs[j]? = some x) (hy : xs[j + 1]? = some y) (hlt : kK y < kK x) : Ins a i j ((xs.set (j + 1) x).set j y) := by
  intro p q u w h0 h1 h2 h3 hp hq
  rw [swap_at hy hx] at hp hq
  rw [if_neg h3] at hq
  by_cases eq : q = j + 1
  · subst eq
    rw [if_pos rfl] at hq; cases hq
    by_cases ep : p = j
    · subst ep; rw [if_pos rfl] at hp; cases hp; omega
    · rw [if_neg ep, if_neg (by omega)] at hp
      exact h p j u _ h0 (by omega) (by omega) (by omega) hp hx
  · rw [if_neg eq] at hq
    by_cases ep : p = j
    · subst ep; rw [if_pos rfl] at hp; cases hp
      exact h (p + 1) q _ _ (by omega) (by omega) h2 (by omega) hy hq
    · rw [if_neg ep] at hp
      by_cases ep2 : p = j + 1
      · subst ep2; rw [if_pos rfl] at hp; cases hp
        exact h j q _ _ ha (by omega) h2 (by omega) hx hq
      · rw [if_neg ep2] at hp
        exact h p q u w h0 h1 h2 (by omega) hp hq
end
theorem set_keep {L : List Dk} {i j : Nat} {x y : Dk} (hj : L[j]? = some y) (hij : i ≠ j) : (L.set i x)[j]? = some y := by rw [List.getElem?_set, if_neg hij]; exact hj

end Go.Proofs.Ytfpkfbffpkjgbaa
