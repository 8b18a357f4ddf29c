/- What the program's lists are in the plain law's words. -/
import Derived.Test.YtejbbnejpbpdmaaM2
namespace Go.Proofs.Ytejbbnejpbpdmaa

def fn (xs : List Int) : Nat → Int := fun j => xs.getD j 0

theorem aheadF_zero {xs : List Int} (_hn : 0 < xs.length) : aheadF xs 0 = fn xs (xs.length - 1) := by
  unfold aheadF fn
  rw [Nat.zero_add, Nat.mod_eq_of_lt (by omega)]
theorem aheadF_pos {xs : List Int} {i : Nat} (h0 : 0 < i) (hi : i < xs.length) : aheadF xs i = fn xs (i - 1) := by
  unfold aheadF fn
  rw [show i + xs.length - 1 = (i - 1) + xs.length by omega, Nat.add_mod_right, Nat.mod_eq_of_lt (by omega)]

theorem freeF_fr {xs : List Int} {i : Nat} (hi : i < xs.length) : freeF xs i = fr xs.length (fn xs) i := by
  unfold freeF fr
  by_cases h0 : i = 0
  · subst h0
    rw [aheadF_zero hi, if_pos rfl]
    show ((fn xs 0 == fn xs (xs.length - 1)) == true) = _
    simp
  · rw [aheadF_pos (by omega) hi, if_neg h0, show (i == 0) = false by simpa using h0]
    show ((fn xs i == fn xs (i - 1)) == false) = _
    simp

theorem freeL_frL (xs : List Int) : freeL xs = frL xs.length (fn xs) := by
  unfold freeL frL
  exact List.filter_congr fun i hi => freeF_fr (List.mem_range.1 hi)

theorem set_mv {k : Int} {xs : List Int} {i : Nat} (hi : i < xs.length) : fn (xs.set i (nextF k xs i)) = mvX k (fn xs) i := by
  funext j
  unfold fn mvX
  rw [List.getD_eq_getElem?_getD, List.getElem?_set]
  by_cases hj : i = j
  · subst hj
    rw [if_pos rfl, if_pos rfl, if_pos hi]
    simp only [Option.getD_some]
    unfold nextF
    by_cases h0 : i = 0
    · simp [h0]
    · rw [if_neg h0, if_neg h0, aheadF_pos (by omega) hi]; rfl
  · rw [if_neg hj, if_neg (Ne.symm hj)]; rfl

theorem valid_of {k : Int} {xs : List Int} (h : checkF k xs = 0) : Valid xs.length k (fn xs) := fun j hj => by
  have := (check_ok h).2.2.2.2 (xs[j]) (List.getElem_mem hj)
  unfold fn
  simpa [List.getD, hj] using this

theorem check_of {k : Int} {xs : List Int} (h2 : 2 ≤ xs.length) (h6 : xs.length ≤ 6) (hk : 2 ≤ k) (hk2 : k ≤ 1000) (hv : Valid xs.length k (fn xs)) : checkF k xs = 0 := by
  unfold checkF
  rw [if_neg (by omega), if_pos]
  unfold okStates
  refine List.all_eq_true.2 fun x hx => ?_
  obtain ⟨j, hj, rfl⟩ := List.mem_iff_getElem.1 hx
  have := hv j hj
  unfold fn at this
  simpa [List.getD, hj] using this

theorem check_mv {k : Int} {xs : List Int} {i : Nat} (h : checkF k xs = 0) (hi : i < xs.length) : checkF k (xs.set i (nextF k xs i)) = 0 := by
  obtain ⟨h1, h2, h3, h4, _⟩ := check_ok h
  refine check_of (by simpa using h1) (by simpa using h2) h3 h4 ?_
  rw [List.length_set, set_mv hi]
  exact mv_valid h3 hi (valid_of h)

theorem free_of_mem {xs : List Int} {i : Nat} (h : i ∈ freeL xs) : i < xs.length ∧ freeF xs i = true := by
  unfold freeL at h
  rw [List.mem_filter, List.mem_range] at h
  exact h

theorem moveCode_ok {k : Int} {xs : List Int} {i : Nat} (h : checkF k xs = 0) (hi : i ∈ freeL xs) : moveCode k xs (i : Int) = 0 := by
  obtain ⟨h1, h2⟩ := free_of_mem hi
  unfold moveCode
  rw [if_pos h, if_neg (by omega), Int.toNat_natCast, h2]; rfl

theorem moveL_ok {k : Int} {xs : List Int} {i : Nat} (h : checkF k xs = 0) (hi : i ∈ freeL xs) : moveL k xs (i : Int) = xs.set i (nextF k xs i) := by
  unfold moveL
  rw [if_pos (moveCode_ok h hi), Int.toNat_natCast]

theorem freeL_ne {k : Int} {xs : List Int} (h : checkF k xs = 0) : 0 < (freeL xs).length := by
  rw [freeL_frL]; exact frL_pos _ (by have := (check_ok h).1; omega)

theorem freeL_mv {k : Int} {xs : List Int} {i : Nat} (h : checkF k xs = 0) (hi : i ∈ freeL xs) : (freeL (xs.set i (nextF k xs i))).length ≤ (freeL xs).length := by
  obtain ⟨h1, h2, h3, h4, _⟩ := check_ok h
  obtain ⟨h5, h6⟩ := free_of_mem hi
  rw [freeL_frL, freeL_frL, List.length_set, set_mv h5]
  exact frL_le h1 h3 h5 (valid_of h) (by rw [← freeF_fr h5]; exact h6)

theorem freeL_turn {k : Int} {xs : List Int} {i : Nat} (h : checkF k xs = 0) (hi : freeL xs = [i]) : freeL (xs.set i (nextF k xs i)) = [(i + 1) % xs.length] := by
  obtain ⟨h1, h2, h3, h4, _⟩ := check_ok h
  have hm : i ∈ freeL xs := by rw [hi]; simp
  rw [freeL_frL, List.length_set, set_mv (free_of_mem hm).1]
  exact frL_turn h1 h3 (valid_of h) (by rw [← freeL_frL]; exact hi)

theorem freeL_le (xs : List Int) : (freeL xs).length ≤ xs.length := filter_range_le _ _

end Go.Proofs.Ytejbbnejpbpdmaa
