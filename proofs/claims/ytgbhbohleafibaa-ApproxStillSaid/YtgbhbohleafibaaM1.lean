/- Nearer and nearer: the plain laws. -/
import Derived.Test.YtgbhbohleafibaaA3
namespace Go.Proofs.Ytgbhbohleafibaa
set_option linter.unusedVariables false

/-! ### places in order, by counting -/
theorem srt_le {l S : List Int} (hp : S.Perm l) (hs : S.Pairwise (· ≤ ·)) {k : Nat} {t y : Int} (hy : S[k]? = some y) (hc : k + 1 ≤ l.countP fun z => decide (z ≤ t)) : y ≤ t := by
  by_cases h : y ≤ t
  · exact h
  exfalso
  rw [← hp.countP_eq] at hc
  have hk := (List.getElem?_eq_some_iff.1 hy).1
  rw [← List.take_append_drop k S, List.countP_append] at hc
  have h1 : (S.drop k).countP (fun z => decide (z ≤ t)) = 0 := by
    rw [List.countP_eq_zero]
    intro z hz
    obtain ⟨i, hi⟩ := List.getElem?_of_mem hz
    rw [List.getElem?_drop] at hi
    have : y ≤ z := by
      rcases Nat.eq_zero_or_pos i with rfl | hpos
      · rw [Nat.add_zero, hy] at hi; cases hi; omega
      · obtain ⟨q1, q2⟩ := List.getElem?_eq_some_iff.1 hi
        obtain ⟨q3, q4⟩ := List.getElem?_eq_some_iff.1 hy
        rw [← q2, ← q4]
        exact (List.pairwise_iff_getElem.1 hs) k (k + i) q3 q1 (by omega)
    simp; omega
  have h2 : (S.take k).countP (fun z => decide (z ≤ t)) ≤ k := Nat.le_trans List.countP_le_length (by rw [List.length_take]; omega)
  omega
theorem srt_ge {l S : List Int} (hp : S.Perm l) (hs : S.Pairwise (· ≤ ·)) {k : Nat} {t y : Int} (hy : S[k]? = some y) (hc : l.length - k ≤ l.countP fun z => decide (t ≤ z)) : t ≤ y := by
  by_cases h : t ≤ y
  · exact h
  exfalso
  rw [← hp.countP_eq, ← hp.length_eq] at hc
  have hk := (List.getElem?_eq_some_iff.1 hy).1
  rw [← List.take_append_drop (k + 1) S, List.countP_append] at hc
  have h1 : (S.take (k + 1)).countP (fun z => decide (t ≤ z)) = 0 := by
    rw [List.countP_eq_zero]
    intro z hz
    obtain ⟨i, hi⟩ := List.getElem?_of_mem hz
    rw [List.getElem?_take] at hi
    split at hi
    · rename_i hlt
      have : z ≤ y := by
        rcases Nat.lt_or_eq_of_le (show i ≤ k by omega) with hlt | rfl
        · obtain ⟨q1, q2⟩ := List.getElem?_eq_some_iff.1 hi
          obtain ⟨q3, q4⟩ := List.getElem?_eq_some_iff.1 hy
          rw [← q2, ← q4]
          exact (List.pairwise_iff_getElem.1 hs) i k q1 q3 hlt
        · rw [hy] at hi; cases hi; omega
      simp; omega
    · cases hi
  have h2 : (S.drop (k + 1)).countP (fun z => decide (t ≤ z)) ≤ S.length - (k + 1) := Nat.le_trans List.countP_le_length (by rw [List.length_drop]; omega)
  simp only [List.take_append_drop] at hc
  omega
theorem srt_cnt_le {S : List Int} (hs : S.Pairwise (· ≤ ·)) {k : Nat} {y : Int} (hy : S[k]? = some y) : k + 1 ≤ S.countP fun z => decide (z ≤ y) := by
  have hk := (List.getElem?_eq_some_iff.1 hy).1
  rw [← List.take_append_drop (k + 1) S, List.countP_append]
  have h1 : (S.take (k + 1)).countP (fun z => decide (z ≤ y)) = k + 1 := by
    rw [List.countP_eq_length.2, List.length_take]
    · omega
    intro z hz
    obtain ⟨i, hi⟩ := List.getElem?_of_mem hz
    rw [List.getElem?_take] at hi
    split at hi
    · rename_i hlt
      rcases Nat.lt_or_eq_of_le (show i ≤ k by omega) with hlt | rfl
      · obtain ⟨q1, q2⟩ := List.getElem?_eq_some_iff.1 hi
        obtain ⟨q3, q4⟩ := List.getElem?_eq_some_iff.1 hy
        rw [← q2, ← q4]
        exact decide_eq_true ((List.pairwise_iff_getElem.1 hs) i k q1 q3 hlt)
      · rw [hy] at hi; cases hi; simp
    · cases hi
  omega
theorem srt_cnt_ge {S : List Int} (hs : S.Pairwise (· ≤ ·)) {k : Nat} {y : Int} (hy : S[k]? = some y) : S.length - k ≤ S.countP fun z => decide (y ≤ z) := by
  have hk := (List.getElem?_eq_some_iff.1 hy).1
  have h0 := List.countP_append (p := fun z => decide (y ≤ z)) (l₁ := S.take k) (l₂ := S.drop k)
  rw [List.take_append_drop] at h0
  have h1 : (S.drop k).countP (fun z => decide (y ≤ z)) = S.length - k := by
    rw [List.countP_eq_length.2, List.length_drop]
    intro z hz
    obtain ⟨i, hi⟩ := List.getElem?_of_mem hz
    rw [List.getElem?_drop] at hi
    rcases Nat.eq_zero_or_pos i with rfl | hpos
    · rw [Nat.add_zero, hy] at hi; cases hi; simp
    · obtain ⟨q1, q2⟩ := List.getElem?_eq_some_iff.1 hi
      obtain ⟨q3, q4⟩ := List.getElem?_eq_some_iff.1 hy
      rw [← q2, ← q4]
      exact decide_eq_true ((List.pairwise_iff_getElem.1 hs) k (k + i) q3 q1 (by omega))
  omega

/-! ### who doesn't lie -/
theorem heard_cnt (x : Nat) (vs ls : List Int) (j : Nat) (p : Int → Bool) : (loyL x vs vs.length).countP p ≤ (heardL x vs ls j vs.length).countP p := by
  unfold loyL heardL
  rw [List.countP_map, List.countP_map, List.countP_filter]
  refine List.countP_mono_left fun i hi h => ?_
  have hlt := List.mem_range.1 hi
  simp only [Function.comp, Bool.and_eq_true, Bool.not_eq_true'] at h ⊢
  rw [if_pos hlt]
  unfold heardF
  rw [h.2]; exact h.1
theorem loy_many {x n f : Nat} {l : List Int} (hl : l.length = n) (hf : fewF x n f = true) (hn : n ≤ 9) : n - f ≤ (loyL x l n).length := by
  unfold fewF at hf
  simp only [Bool.and_eq_true, decide_eq_true_eq] at hf
  have h2 : (sizeF x : Int) ≤ f := hf.2
  have h3 : ((List.range n).filter fun i => x.testBit i).length ≤ sizeF x := by
    unfold sizeF
    have : List.range 32 = List.range n ++ (List.range (32 - n)).map (n + ·) := by
      rw [← List.range_add]; congr 1; omega
    rw [this, List.filter_append, List.length_append]; omega
  have h4 : (loyL x l n).length + ((List.range n).filter fun i => x.testBit i).length = n := by
    unfold loyL
    rw [List.length_map]
    have := (List.filter_append_perm (fun i => !x.testBit i) (List.range n)).length_eq
    rw [List.length_append, List.length_range] at this
    simpa using this
  omega

/-- in between -/
theorem mid_of {f x n : Nat} {vs ls : List Int} {j : Nat} {lo hi : Int} (hn : vs.length = n) (h3 : 3 * f < n) (hg : n - f ≤ (loyL x vs n).length) (hb : ∀ y ∈ loyL x vs n, lo ≤ y ∧ y ≤ hi) :
    ∃ A B, (srtI (heardL x vs ls j n))[f]? = some A ∧ (srtI (heardL x vs ls j n))[n - 1 - f]? = some B ∧ lo ≤ A ∧ A ≤ hi ∧ lo ≤ B ∧ B ≤ hi ∧
      ∀ m, (srtI (loyL x vs n))[f]? = some m → A ≤ m ∧ m ≤ B := by
  subst hn
  have hl := srtI_len (heardL x vs ls j vs.length)
  rw [heardL_len] at hl
  have hp := srtI_perm (heardL x vs ls j vs.length)
  have hs := srtI_sorted (heardL x vs ls j vs.length)
  have hll : (heardL x vs ls j vs.length).length = vs.length := heardL_len _ _ _ _ _
  have hc := heard_cnt x vs ls j
  obtain ⟨A, hA⟩ := get_of_lt (show f < (srtI (heardL x vs ls j vs.length)).length by omega)
  obtain ⟨B, hB⟩ := get_of_lt (show vs.length - 1 - f < (srtI (heardL x vs ls j vs.length)).length by omega)
  have hlo : (loyL x vs vs.length).countP (fun z => decide (lo ≤ z)) = (loyL x vs vs.length).length := List.countP_eq_length.2 fun y hy => by simpa using (hb y hy).1
  have hhi : (loyL x vs vs.length).countP (fun z => decide (z ≤ hi)) = (loyL x vs vs.length).length := List.countP_eq_length.2 fun y hy => by simpa using (hb y hy).2
  have c1 := hc fun z => decide (lo ≤ z)
  have c2 := hc fun z => decide (z ≤ hi)
  refine ⟨A, B, hA, hB, srt_ge hp hs hA (by omega), srt_le hp hs hA (by omega), srt_ge hp hs hB (by omega), srt_le hp hs hB (by omega), fun m hm => ?_⟩
  have k1 := srt_cnt_le (srtI_sorted _) hm
  have k2 := srt_cnt_ge (srtI_sorted _) hm
  rw [(srtI_perm _).countP_eq] at k1 k2
  rw [srtI_len] at k2
  have c3 := hc fun z => decide (z ≤ m)
  have c4 := hc fun z => decide (m ≤ z)
  exact ⟨srt_le hp hs hA (by omega), srt_ge hp hs hB (by omega)⟩

theorem newF_of {f x : Nat} {vs ls : List Int} {j : Nat} {A B : Int} (hA : (srtI (heardL x vs ls j vs.length))[f]? = some A) (hB : (srtI (heardL x vs ls j vs.length))[vs.length - 1 - f]? = some B) : newF f x vs ls j = (A + B) / 2 := by
  unfold newF; rw [List.getD, List.getD, hA, hB]; rfl

/-- O2 -/
theorem halves {f x : Nat} {vs ls : List Int} {lo hi : Int} (h3 : 3 * f < vs.length) (hn : vs.length ≤ 9) (hf : fewF x vs.length f = true) (hb : ∀ y ∈ loyL x vs vs.length, lo ≤ y ∧ y ≤ hi) :
    ∃ c d : Int, lo ≤ c ∧ d ≤ hi ∧ 2 * (d - c) ≤ hi - lo + 1 ∧ ∀ j, c ≤ newF f x vs ls j ∧ newF f x vs ls j ≤ d := by
  have hg := loy_many (l := vs) rfl hf hn
  obtain ⟨m, hm⟩ := get_of_lt (show f < (srtI (loyL x vs vs.length)).length by rw [srtI_len]; omega)
  have hmm := hb m ((srtI_perm _).mem_iff.1 (List.mem_of_getElem? hm))
  refine ⟨(lo + m) / 2, (m + hi) / 2, by omega, by omega, by omega, fun j => ?_⟩
  obtain ⟨A, B, hA, hB, a1, a2, b1, b2, h⟩ := mid_of (ls := ls) (j := j) rfl h3 hg hb
  obtain ⟨q1, q2⟩ := h m hm
  rw [newF_of hA hB]
  omega
theorem newL_get {f x k : Nat} {vs ls : List Int} {i : Nat} (h : i < k) : (newL f x vs ls k)[i]? = some (newF f x vs ls i) := by
  unfold newL; rw [List.getElem?_map, List.getElem?_range h]; rfl
theorem loy_new {f x k : Nat} {vs ls : List Int} {y : Int} (h : y ∈ loyL x (newL f x vs ls k) k) : ∃ j, j < k ∧ x.testBit j = false ∧ y = newF f x vs ls j := by
  obtain ⟨i, h1, h2, h3⟩ := loyL_mem.1 h
  rw [List.getD, newL_get h1] at h3
  exact ⟨i, h1, h2, h3.symm⟩
theorem loy_len_eq (x : Nat) (l m : List Int) (k : Nat) : (loyL x l k).length = (loyL x m k).length := by simp [loyL]

/-- what is not too far out stays so -/
theorem new_ok {f x : Nat} {vs ls : List Int} (ok : OkA f x vs ls) : OkA f x (newL f x vs ls vs.length) ls := by
  obtain ⟨h1, h9, hf0, hf3, hxn, hvf, hlf⟩ := ok
  refine ⟨by rw [newL_len]; exact h1, by rw [newL_len]; exact h9, hf0, by rw [newL_len]; exact hf3, by rw [newL_len]; exact hxn, ?_, hlf⟩
  rw [List.any_eq_false]
  intro y hy
  obtain ⟨j, hj, rfl⟩ := List.mem_map.1 (show y ∈ (List.range vs.length).map (newF f x vs ls) from hy)
  have hl := srtI_len (heardL x vs ls j vs.length)
  rw [heardL_len] at hl
  obtain ⟨A, hA⟩ := get_of_lt (show f < (srtI (heardL x vs ls j vs.length)).length by omega)
  obtain ⟨B, hB⟩ := get_of_lt (show vs.length - 1 - f < (srtI (heardL x vs ls j vs.length)).length by omega)
  have a := heard_bd hvf hlf ((srtI_perm _).mem_iff.1 (List.mem_of_getElem? hA))
  have b := heard_bd hvf hlf ((srtI_perm _).mem_iff.1 (List.mem_of_getElem? hB))
  rw [newF_of hA hB, farB_no.2 (by omega)]; simp

/-- no value lower, no new value lower -/
theorem new_mono {f x : Nat} {vs us ls : List Int} {j : Nat} (hl : vs.length = us.length) (h3 : 3 * f < vs.length) (h : ∀ (i : Nat) (a b : Int), vs[i]? = some a → us[i]? = some b → a ≤ b) : newF f x vs ls j ≤ newF f x us ls j := by
  have key : ∀ k, k < vs.length → ∀ A B, (srtI (heardL x vs ls j vs.length))[k]? = some A → (srtI (heardL x us ls j us.length))[k]? = some B → A ≤ B := fun k hk A B hA hB => by
    refine srt_le (srtI_perm _) (srtI_sorted _) hA ?_
    have c := srt_cnt_le (srtI_sorted _) hB
    rw [(srtI_perm _).countP_eq] at c
    refine Nat.le_trans c ?_
    unfold heardL
    rw [List.countP_map, List.countP_map, hl]
    refine List.countP_mono_left fun i hi hc => ?_
    have hlt := List.mem_range.1 hi
    simp only [Function.comp, decide_eq_true_eq, if_pos hlt] at hc ⊢
    unfold heardF at *
    split at hc
    · rw [if_pos (by assumption), hl]; exact hc
    · rw [if_neg (by assumption)]
      obtain ⟨a, ha⟩ := get_of_lt (show i < vs.length by omega)
      obtain ⟨b, hb⟩ := get_of_lt hlt
      have := h i a b ha hb
      rw [List.getD, hb] at hc
      rw [List.getD, ha]
      simp at hc ⊢; omega
  have l1 := srtI_len (heardL x vs ls j vs.length)
  have l2 := srtI_len (heardL x us ls j us.length)
  rw [heardL_len] at l1 l2
  obtain ⟨A, hA⟩ := get_of_lt (show f < (srtI (heardL x vs ls j vs.length)).length by omega)
  obtain ⟨B, hB⟩ := get_of_lt (show vs.length - 1 - f < (srtI (heardL x vs ls j vs.length)).length by omega)
  obtain ⟨A', hA'⟩ := get_of_lt (show f < (srtI (heardL x us ls j us.length)).length by omega)
  obtain ⟨B', hB'⟩ := get_of_lt (show us.length - 1 - f < (srtI (heardL x us ls j us.length)).length by omega)
  have k1 := key f (by omega) A A' hA hA'
  have k2 := key (vs.length - 1 - f) (by omega) B B' hB (by rw [hl]; exact hB')
  rw [newF_of hA hB, newF_of hA' hB']
  omega
/-- one value of all -/
theorem new_still {f x : Nat} {vs ls : List Int} {z : Int} (h3 : 3 * f < vs.length) (hn : vs.length ≤ 9) (hf : fewF x vs.length f = true) (hz : ∀ y ∈ vs, y = z) (j : Nat) : newF f x vs ls j = z := by
  have hg := loy_many (l := vs) rfl hf hn
  have hb : ∀ y ∈ loyL x vs vs.length, z ≤ y ∧ y ≤ z := fun y hy => by
    obtain ⟨i, h1, _, h2⟩ := loyL_mem.1 hy
    obtain ⟨a, ha⟩ := get_of_lt h1
    rw [List.getD, ha] at h2
    have := hz a (List.mem_of_getElem? ha)
    simp at h2; omega
  obtain ⟨A, B, hA, hB, a1, a2, b1, b2, _⟩ := mid_of (ls := ls) (j := j) rfl h3 hg hb
  rw [newF_of hA hB]; omega

/-- round by round -/
def manyL (f x : Nat) (vs ls : List Int) : Nat → List Int
  | 0 => vs
  | k + 1 => newL f x (manyL f x vs ls k) ls (manyL f x vs ls k).length
theorem manyL_len (f x : Nat) (vs ls : List Int) : ∀ k, (manyL f x vs ls k).length = vs.length
  | 0 => rfl
  | k + 1 => by rw [manyL, newL_len, manyL_len f x vs ls k]
theorem manyL_ok {f x : Nat} {vs ls : List Int} (ok : OkA f x vs ls) : ∀ k, OkA f x (manyL f x vs ls k) ls
  | 0 => ok
  | k + 1 => new_ok (manyL_ok ok k)
theorem many_near {f x : Nat} {vs ls : List Int} (ok : OkA f x vs ls) (hf : fewF x vs.length f = true) : ∀ k, k ≤ 43 → ∃ lo hi : Int, hi - lo ≤ 2199023255552 / 2 ^ k + 1 ∧ ∀ y ∈ loyL x (manyL f x vs ls k) vs.length, lo ≤ y ∧ y ≤ hi
  | 0, _ => ⟨-1099511627776, 1099511627776, by decide, fun y hy => by
      obtain ⟨i, h1, _, h2⟩ := loyL_mem.1 hy
      obtain ⟨a, ha⟩ := get_of_lt (show i < vs.length from h1)
      have := List.any_eq_false.1 ok.2.2.2.2.2.1 a (List.mem_of_getElem? ha)
      have := farB_no.1 (by simpa using this)
      rw [manyL, List.getD, ha] at h2
      simp at h2; omega⟩
  | k + 1, hk => by
    obtain ⟨lo, hi, h1, h2⟩ := many_near ok hf k (by omega)
    have hl := manyL_len f x vs ls k
    have okk := manyL_ok ok k
    rw [← hl] at h2
    obtain ⟨c, d, q1, q2, q3, q4⟩ := halves (f := f) (x := x) (ls := ls) (by have := okk.2.2.2.1; omega) okk.2.1 (by rw [hl]; exact hf) h2
    refine ⟨c, d, ?_, fun y hy => ?_⟩
    · have : (2199023255552 : Int) / 2 ^ (k + 1) = 2199023255552 / 2 ^ k / 2 := by rw [Int.pow_succ, Int.ediv_ediv_of_nonneg (Int.pow_nonneg (by decide))]
      rw [this]; omega
    · rw [manyL, ← hl] at hy
      obtain ⟨j, _, _, rfl⟩ := loy_new hy
      exact q4 j
end Go.Proofs.Ytgbhbohleafibaa
