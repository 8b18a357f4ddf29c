/- Votes, and what is told. In plain words. No condition. -/
import Derived.Test.YtcblkjjkpffjhaaDoorA2
namespace Go.Proofs.YtcblkjjkpffjhaaDoor
open Go.RowKit
set_option linter.unusedVariables false
set_option linter.unusedSimpArgs false
set_option maxRecDepth 100000

theorem sum_perm {l l' : List Int} (h : l.Perm l') : l.sum = l'.sum := by
  induction h with
  | nil => rfl
  | cons x _ ih => simp only [List.sum_cons]; rw [ih]
  | swap x y l => simp only [List.sum_cons]; omega
  | trans _ _ h1 h2 => exact h1.trans h2
theorem sum_bd : ∀ {l : List Int}, (∀ x ∈ l, -1 ≤ x ∧ x ≤ 1) → -(l.length : Int) ≤ l.sum ∧ l.sum ≤ (l.length : Int)
  | [], _ => by simp
  | x :: l, h => by
    have h1 := h x (by simp)
    have h2 := sum_bd (l := l) fun y hy => h y (by simp [hy])
    simp only [List.sum_cons, List.length_cons]; omega
theorem vote_bd (b : Bool) : -1 ≤ vote b ∧ vote b ≤ 1 := by cases b <;> decide
/-- a map that holds so much and nothing else -/
structure GM (f : Nat → Option Bool) (ms : Mb) : Prop where
  get : ∀ j, getM ms j = f j
  nd : ms.Pairwise (fun p q => p.1 ≠ q.1)
theorem GM.mem {f : Nat → Option Bool} {ms : Mb} (h : GM f ms) {j : Nat} {v : Bool} : (j, v) ∈ ms ↔ f j = some v := by
  rw [← h.get]
  exact ⟨getM_of h.nd, getM_some⟩
theorem keys_len {β : Type} {ms : List (Nat × β)} (hn : ms.Pairwise (fun p q => p.1 ≠ q.1)) {n : Nat} (h : ∀ p ∈ ms, p.1 < n) : ms.length ≤ n := by
  have key : ∀ (n : Nat) (l : List Nat), l.Nodup → (∀ i ∈ l, i < n) → l.length ≤ n := by
    intro n
    induction n with
    | zero => intro l _ hl; cases l with
      | nil => simp
      | cons a l => have := hl a (by simp); omega
    | succ n ih =>
      intro l hn hl
      have h1 := ih (l.erase n) (hn.erase n) (fun i hi => by
        have h2 := hl i (List.mem_of_mem_erase hi)
        have h3 : i ≠ n := fun e => by subst e; exact absurd hi (hn.not_mem_erase)
        omega)
      have h2 : l.length ≤ (l.erase n).length + 1 := by
        by_cases hm : n ∈ l
        · rw [List.length_erase_of_mem hm]; omega
        · rw [List.erase_of_not_mem hm]; omega
      omega
  have := key n (ms.map (·.1)) (List.pairwise_map.2 hn) (fun i hi => by obtain ⟨p, hp, rfl⟩ := List.mem_map.1 hi; exact h p hp)
  rwa [List.length_map] at this
def sumK (l : Mb) (j : Nat) : Int := (l.map fun p => if p.1 = j then vote p.2 else 0).sum
theorem sumK_perm {l r : Mb} {p : Nat × Bool} (h : l.Perm (p :: r)) (j : Nat) : sumK l j = (if p.1 = j then vote p.2 else 0) + sumK r j := by
  unfold sumK; rw [sum_perm (h.map _)]; rfl
theorem sumK_get : ∀ {l : Mb}, l.Pairwise (fun p q => p.1 ≠ q.1) → ∀ j, sumK l j = match getM l j with | some v => vote v | none => 0
  | [], _, j => rfl
  | p :: l, hn, j => by
    have h1 := List.pairwise_cons.1 hn
    have ih := sumK_get h1.2 j
    have e : sumK (p :: l) j = (if p.1 = j then vote p.2 else 0) + sumK l j := rfl
    rw [e]
    by_cases q : p.1 = j
    · have h2 : getM l j = none := getM_none.2 fun r hr hq => h1.1 r hr (q.trans hq.symm)
      rw [h2] at ih
      have h3 : getM (p :: l) j = some p.2 := getM_of hn (by rw [← q]; simp)
      rw [ih, if_pos q, h3]; simp
    · have h3 : getM (p :: l) j = getM l j := by
        cases hg : getM l j with
        | none =>
          refine getM_none.2 fun r hr hq => ?_
          rcases List.mem_cons.1 hr with e | e
          · rw [e] at hq; exact q hq
          · exact getM_none.1 hg r e hq
        | some v => exact getM_of hn (List.mem_cons_of_mem _ (getM_some hg))
      rw [if_neg q, h3, ih]; simp
theorem sumK_bd (l : Mb) (j : Nat) : -(l.length : Int) ≤ sumK l j ∧ sumK l j ≤ (l.length : Int) := by
  have := sum_bd (l := l.map fun p => if p.1 = j then vote p.2 else 0) (fun x hx => by
    obtain ⟨p, _, rfl⟩ := List.mem_map.1 hx
    split
    · exact vote_bd _
    · decide)
  rwa [List.length_map] at this
section
variable (c : Cp) (d : Nat) (way : List Nat) (s : Nat) (x : Bool)
/-- what one tells of another one -/
def contr (i j : Nat) : Int := if i = j then vote (sentP c way i x) else if (delS s i).testBit j = true then vote (sprd c d (way ++ [i]) (delS s i) (sentP c way i x) j) else 0
theorem contr_bd (i j : Nat) : -1 ≤ contr c d way s x i j ∧ contr c d way s x i j ≤ 1 := by
  unfold contr
  split
  · exact vote_bd _
  · split
    · exact vote_bd _
    · decide
def sumC (l : Mb) (j : Nat) : Int := (l.map fun p => contr c d way s x p.1 j).sum
theorem sumC_bd (l : Mb) (j : Nat) : -(l.length : Int) ≤ sumC c d way s x l j ∧ sumC c d way s x l j ≤ (l.length : Int) := by
  have := sum_bd (l := l.map fun p => contr c d way s x p.1 j) (fun y hy => by
    obtain ⟨p, _, rfl⟩ := List.mem_map.1 hy
    exact contr_bd ..)
  rwa [List.length_map] at this
theorem sumC_perm {l r : Mb} {p : Nat × Bool} (h : l.Perm (p :: r)) (j : Nat) : sumC c d way s x l j = contr c d way s x p.1 j + sumC c d way s x r j := by
  unfold sumC; rw [sum_perm (h.map _)]; rfl
/-- all that is told of one -/
theorem sprd_sum {ms : Mb} (hs : s < 128) (h : GM (fun j => if s.testBit j = true then some (sentP c way j x) else none) ms) {j : Nat} (hj : s.testBit j = true) : sprd c (d + 1) way s x j = decide (0 < sumC c d way s x ms j) := by
  have hp : (ms.map (·.1)).Perm (elems s) := by
    refine (List.perm_ext_iff_of_nodup (List.pairwise_map.2 h.nd) (elems_nodup s)).2 fun a => ?_
    rw [mem_elems hs, List.mem_map]
    constructor
    · rintro ⟨⟨k, v⟩, hm, rfl⟩
      have := h.mem.1 hm
      by_cases q : s.testBit k = true
      · exact q
      · rw [if_neg q] at this; cases this
    · intro q
      exact ⟨(a, sentP c way a x), h.mem.2 (if_pos q), rfl⟩
  have e : sumC c d way s x ms j = ((elems s).map fun i => if i = j then vote (sentP c way i x) else vote (sprd c d (way ++ [i]) (delS s i) (sentP c way i x) j)).sum := by
    have e1 : sumC c d way s x ms j = ((ms.map (·.1)).map fun i => contr c d way s x i j).sum := by unfold sumC; rw [List.map_map]; rfl
    rw [e1, sum_perm (hp.map _)]
    congr 1
    refine List.map_congr_left fun i hi => ?_
    unfold contr
    by_cases q : i = j
    · rw [if_pos q, if_pos q]
    · rw [if_neg q, if_neg q, if_pos]
      rw [delS_bit hs, hj]; simpa using fun e => q e.symm
  unfold sprd
  rw [e]
end
end Go.Proofs.YtcblkjjkpffjhaaDoor
