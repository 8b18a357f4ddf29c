/- Lamport, Shostak and Pease: those who are loyal agree. In plain words. No condition. -/
import Derived.Test.YtcblkjjkpffjhaaDoorA5
import Derived.Test.YtcblkjjkpffjhaaDoorL6
namespace Go.Proofs.YtcblkjjkpffjhaaDoor
open Go.RowKit
set_option linter.unusedVariables false
set_option linter.unusedSimpArgs false
set_option maxRecDepth 100000

theorem filter_ne {l : List Nat} (hn : l.Nodup) {i : Nat} (h : i ∈ l) : (l.filter fun j => decide (j ≠ i)).length + 1 = l.length := by
  induction l with
  | nil => cases h
  | cons a l ih =>
    have h1 := List.nodup_cons.1 hn
    by_cases e : a = i
    · subst e
      rw [List.filter_cons_of_neg (by simp), List.filter_eq_self.2 (fun j hj => by
        have : j ≠ a := fun q => h1.1 (q ▸ hj)
        simpa using this), List.length_cons]
    · have h2 : i ∈ l := by
        rcases List.mem_cons.1 h with q | q
        · exact absurd q.symm e
        · exact q
      rw [List.filter_cons_of_pos (by simpa using e), List.length_cons, List.length_cons, ih h1.2 h2]
theorem elems_del {s : Nat} (hs : s < 128) (i : Nat) : elems (delS s i) = (elems s).filter fun j => decide (j ≠ i) := by
  unfold elems
  rw [List.filter_filter]
  refine List.filter_congr fun j _ => ?_
  rw [delS_bit hs, Bool.and_comm]
theorem sum_lo {p : Nat → Bool} {f : Nat → Int} : ∀ {l : List Nat}, (∀ i ∈ l, p i = false → f i = 1) → (∀ i ∈ l, -1 ≤ f i ∧ f i ≤ 1) → (l.length : Int) - 2 * ((l.filter p).length : Int) ≤ (l.map f).sum
  | [], _, _ => by simp
  | i :: l, h1, h2 => by
    have ih := sum_lo (l := l) (fun j hj => h1 j (by simp [hj])) (fun j hj => h2 j (by simp [hj]))
    have hi := h2 i (by simp)
    rw [List.map_cons, List.sum_cons, List.length_cons]
    by_cases e : p i = true
    · rw [List.filter_cons_of_pos e, List.length_cons]; omega
    · rw [List.filter_cons_of_neg e, h1 i (by simp) (by simpa using e)]; omega
theorem sum_hi {p : Nat → Bool} {f : Nat → Int} : ∀ {l : List Nat}, (∀ i ∈ l, p i = false → f i = -1) → (∀ i ∈ l, -1 ≤ f i ∧ f i ≤ 1) → (l.map f).sum ≤ 2 * ((l.filter p).length : Int) - (l.length : Int)
  | [], _, _ => by simp
  | i :: l, h1, h2 => by
    have ih := sum_hi (l := l) (fun j hj => h1 j (by simp [hj])) (fun j hj => h2 j (by simp [hj]))
    have hi := h2 i (by simp)
    rw [List.map_cons, List.sum_cons, List.length_cons]
    by_cases e : p i = true
    · rw [List.filter_cons_of_pos e, List.length_cons]; omega
    · rw [List.filter_cons_of_neg e, h1 i (by simp) (by simpa using e)]; omega
theorem lastW_snoc (way : List Nat) (i : Nat) : lastW (way ++ [i]) = i := by
  unfold lastW
  rw [List.getD_eq_getElem?_getD, List.length_append]
  show ((way ++ [i])[way.length + 1 - 1]?).getD 0 = i
  rw [Nat.add_sub_cancel, List.getElem?_append_right (Nat.le_refl _), Nat.sub_self]; rfl
/-- how many of a set are traitors -/
def trN (c : Cp) (s : Nat) : Nat := ((elems s).filter fun i => c.tr.testBit i).length
theorem del_len {s i : Nat} (hs : s < 128) (hi : s.testBit i = true) : (elems (delS s i)).length + 1 = (elems s).length := by
  rw [elems_del hs]; exact filter_ne (elems_nodup s) ((mem_elems hs).2 hi)
theorem del_tr {c : Cp} {s i : Nat} (hs : s < 128) (hi : s.testBit i = true) : trN c (delS s i) + (if c.tr.testBit i = true then 1 else 0) = trN c s := by
  unfold trN
  rw [elems_del hs, List.filter_filter]
  have e : ((elems s).filter fun a => c.tr.testBit a && decide (a ≠ i)) = ((elems s).filter fun a => c.tr.testBit a).filter fun a => decide (a ≠ i) := by
    rw [List.filter_filter]; exact List.filter_congr fun a _ => by rw [Bool.and_comm]
  rw [e]
  split
  · rename_i h
    exact filter_ne (List.Pairwise.filter _ (elems_nodup s)) (List.mem_filter.2 ⟨(mem_elems hs).2 hi, h⟩)
  · rename_i h
    rw [List.filter_eq_self.2 (fun a ha => by
      have : a ≠ i := fun q => h (q ▸ (List.mem_filter.1 ha).2)
      simpa using this), Nat.add_zero]
theorem sent_loyal {c : Cp} {way : List Nat} (h : ¬ c.tr.testBit (lastW way) = true) (j : Nat) (x : Bool) : sentP c way j x = x := by unfold sentP; rw [if_neg h]
/-- who is loyal is believed -/
theorem loyal (c : Cp) : ∀ (d : Nat) (way : List Nat) (s : Nat) (x : Bool) (j : Nat), s < 128 → ¬ c.tr.testBit (lastW way) = true → 2 * trN c s + d ≤ (elems s).length → s.testBit j = true → ¬ c.tr.testBit j = true → sprd c d way s x j = x
  | 0, way, s, x, j, _, hl, _, _, _ => sent_loyal hl j x
  | d + 1, way, s, x, j, hs, hl, hn, hj, hjl => by
    unfold sprd
    have hf : ∀ i ∈ elems s, c.tr.testBit i = false → (if i = j then vote (sentP c way i x) else vote (sprd c d (way ++ [i]) (delS s i) (sentP c way i x) j)) = vote x := by
      intro i hi hil
      have his := (mem_elems hs).1 hi
      rw [sent_loyal hl]
      split
      · rfl
      · rename_i hne
        have h1 := del_len hs his
        have h2 := del_tr (c := c) hs his
        rw [if_neg (by rw [hil]; decide)] at h2
        rw [loyal c d (way ++ [i]) (delS s i) x j (delS_lt _ _) (by rw [lastW_snoc, hil]; decide) (by omega) (by rw [delS_bit hs, hj]; simpa using fun q => hne q.symm) hjl]
    have hb : ∀ i ∈ elems s, -1 ≤ (if i = j then vote (sentP c way i x) else vote (sprd c d (way ++ [i]) (delS s i) (sentP c way i x) j)) ∧ (if i = j then vote (sentP c way i x) else vote (sprd c d (way ++ [i]) (delS s i) (sentP c way i x) j)) ≤ 1 := fun i _ => by
      split <;> exact vote_bd _
    cases x with
    | true =>
      have := sum_lo (p := fun i => c.tr.testBit i) hf hb
      unfold trN at hn
      rw [decide_eq_true_iff]; omega
    | false =>
      have := sum_hi (p := fun i => c.tr.testBit i) hf hb
      unfold trN at hn
      rw [decide_eq_false_iff_not]; omega
/-- LAMPORT, SHOSTAK, PEASE -/
theorem agree (c : Cp) : ∀ (d : Nat) (way : List Nat) (s : Nat) (x : Bool) (j k : Nat), s < 128 → trN c s + (if c.tr.testBit (lastW way) = true then 1 else 0) ≤ d → 3 * d ≤ (elems s).length → s.testBit j = true → s.testBit k = true → ¬ c.tr.testBit j = true → ¬ c.tr.testBit k = true → sprd c d way s x j = sprd c d way s x k
  | d, way, s, x, j, k, hs, ht, hn, hj, hk, hjl, hkl => by
    by_cases hl : c.tr.testBit (lastW way) = true
    · rw [if_pos hl] at ht
      cases d with
      | zero => omega
      | succ d =>
        unfold sprd
        have hsum : ((elems s).map fun i => if i = j then vote (sentP c way i x) else vote (sprd c d (way ++ [i]) (delS s i) (sentP c way i x) j)) = ((elems s).map fun i => if i = k then vote (sentP c way i x) else vote (sprd c d (way ++ [i]) (delS s i) (sentP c way i x) k)) := by
          refine List.map_congr_left fun i hi => ?_
          have his := (mem_elems hs).1 hi
          have h1 := del_len hs his
          have h2 := del_tr (c := c) hs his
          by_cases ej : i = j
          · by_cases ek : i = k
            · rw [if_pos ej, if_pos ek]
            · rw [if_pos ej, if_neg ek]
              have hil : ¬ c.tr.testBit i = true := by rw [ej]; exact hjl
              rw [if_neg hil] at h2
              rw [loyal c d (way ++ [i]) (delS s i) _ k (delS_lt _ _) (by rw [lastW_snoc]; exact hil) (by omega) (by rw [delS_bit hs, hk]; simpa using fun q => ek q.symm) hkl]
          · by_cases ek : i = k
            · rw [if_neg ej, if_pos ek]
              have hil : ¬ c.tr.testBit i = true := by rw [ek]; exact hkl
              rw [if_neg hil] at h2
              rw [loyal c d (way ++ [i]) (delS s i) _ j (delS_lt _ _) (by rw [lastW_snoc]; exact hil) (by omega) (by rw [delS_bit hs, hj]; simpa using fun q => ej q.symm) hjl]
            · rw [if_neg ej, if_neg ek, agree c d (way ++ [i]) (delS s i) _ j k (delS_lt _ _) (by rw [lastW_snoc]; omega) (by omega) (by rw [delS_bit hs, hj]; simpa using fun q => ej q.symm) (by rw [delS_bit hs, hk]; simpa using fun q => ek q.symm) hjl hkl]
        rw [hsum]
    · rw [if_neg hl] at ht
      rw [loyal c d way s x j hs hl (by omega) hj hjl, loyal c d way s x k hs hl (by omega) hk hkl]

theorem few_tr {c : Cp} {n m : Nat} (h7 : n ≤ 7) (hf : sizeF c.tr ≤ m) : trN c (2 ^ n - 2) + (if c.tr.testBit (lastW [0]) = true then 1 else 0) ≤ m := by
  have hs := mask_lt h7
  have e : trN c (2 ^ n - 2) + (if c.tr.testBit (lastW [0]) = true then 1 else 0) ≤ sizeF c.tr := by
    have h0 : (2 ^ n - 2).testBit 0 = false := by
      rcases Nat.eq_zero_or_pos n with q | q
      · subst q; decide
      · rw [show (0 : Nat) = (⟨0, by decide⟩ : Fin 8).val from rfl, mask_all ⟨n, by omega⟩ ⟨0, by decide⟩]; rfl
    have key : ((elems (2 ^ n - 2)).filter fun i => c.tr.testBit i).length + (if c.tr.testBit 0 = true then 1 else 0) ≤ ((List.range 7).filter fun i => c.tr.testBit i).length := by
      unfold elems
      rw [List.filter_filter]
      obtain ⟨T, hr⟩ : ∃ T, List.range 7 = 0 :: T := ⟨_, rfl⟩
      rw [hr, List.filter_cons_of_neg (by rw [h0]; simp)]
      have h1 : ((List.filter (fun a => c.tr.testBit a && (2 ^ n - 2).testBit a) T).length) ≤ (List.filter (fun a => c.tr.testBit a) T).length := by
        have : List.filter (fun a => c.tr.testBit a && (2 ^ n - 2).testBit a) T = List.filter (fun a => (2 ^ n - 2).testBit a) (List.filter (fun a => c.tr.testBit a) T) := by
          rw [List.filter_filter]; exact List.filter_congr fun a _ => Bool.and_comm _ _
        rw [this]; exact List.length_filter_le ..
      by_cases q : c.tr.testBit 0 = true
      · rw [if_pos q, List.filter_cons_of_pos (by simpa using q), List.length_cons]; omega
      · rw [if_neg q, List.filter_cons_of_neg (by simpa using q)]; omega
    have k2 : ((List.range 7).filter fun i => c.tr.testBit i).length ≤ sizeF c.tr := by
      unfold sizeF
      have : List.range 32 = List.range 7 ++ (List.range 25).map (7 + ·) := by decide
      rw [this, List.filter_append, List.length_append]; omega
    exact Nat.le_trans key k2
  omega
theorem mask_len {n : Nat} (h1 : 1 ≤ n) (h7 : n ≤ 7) : (elems (2 ^ n - 2)).length = n - 1 := by
  have : ∀ n : Fin 8, 1 ≤ n.val → (elems (2 ^ n.val - 2)).length = n.val - 1 := by decide
  exact this ⟨n, by omega⟩ h1
/-- what two that are loyal hold -/
theorem play_agree {c : Cp} {n m : Nat} {x : Bool} (h2 : 2 ≤ n) (h7 : n ≤ 7) (h3 : 3 * m < n) (hf : sizeF c.tr ≤ m) {j k : Nat} (hj : 1 ≤ j ∧ j < n) (hk : 1 ≤ k ∧ k < n) (hjl : ¬ c.tr.testBit j = true) (hkl : ¬ c.tr.testBit k = true) : sprd c m [0] (2 ^ n - 2) x j = sprd c m [0] (2 ^ n - 2) x k :=
  agree c m [0] _ x j k (mask_lt h7) (few_tr h7 hf) (by rw [mask_len (by omega) h7]; omega) (mask_bit h7 hj.1 hj.2) (mask_bit h7 hk.1 hk.2) hjl hkl
theorem play_loyal {c : Cp} {n m : Nat} {x : Bool} (h2 : 2 ≤ n) (h7 : n ≤ 7) (h3 : 3 * m < n) (hf : sizeF c.tr ≤ m) (h0 : ¬ c.tr.testBit 0 = true) {j : Nat} (hj : 1 ≤ j ∧ j < n) (hjl : ¬ c.tr.testBit j = true) : sprd c m [0] (2 ^ n - 2) x j = x := by
  have h1 := few_tr (c := c) h7 hf
  exact loyal c m [0] _ x j (mask_lt h7) h0 (by rw [mask_len (by omega) h7]; omega) (mask_bit h7 hj.1 hj.2) hjl
end Go.Proofs.YtcblkjjkpffjhaaDoor
