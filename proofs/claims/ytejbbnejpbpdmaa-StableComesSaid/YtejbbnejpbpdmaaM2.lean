/- Plain law of the ring that comes right: with as many states as machines at least, behind so many moves just one is free. No program here. -/
import Derived.Test.YtejbbnejpbpdmaaM1
namespace Go.Proofs.Ytejbbnejpbpdmaa

def Valid (n : Nat) (k : Int) (X : Nat → Int) : Prop := ∀ j, j < n → 0 ≤ X j ∧ X j < k

theorem mv_valid {n : Nat} {k : Int} {X : Nat → Int} {i : Nat} (hk : 2 ≤ k) (hi : i < n) (hx : Valid n k X) : Valid n k (mvX k X i) := fun j hj => by
  unfold mvX
  split
  · split
    · exact ⟨Int.emod_nonneg _ (by omega), Int.emod_lt_of_pos _ (by omega)⟩
    · exact hx (i - 1) (by omega)
  · exact hx j hj

/-- how far the frees of all but the first have to go -/
def Phi (n : Nat) (X : Nat → Int) : Int := S n (fun j => if 0 < j ∧ fr n X j = true then (n : Int) - j else 0)

theorem Phi_nonneg (n : Nat) (X : Nat → Int) : 0 ≤ Phi n X := S_nonneg n fun j hj => by split <;> omega

theorem S_down (n : Nat) : ∀ m, m ≤ n → 0 < m → S m (fun j => if 0 < j then (n : Int) - j else 0) = ((m : Int) - 1) * n - (m : Int) * (m - 1) / 2
  | 1, _, _ => by simp [S]
  | m + 2, h, _ => by
    have ih := S_down n (m + 1) (by omega) (by omega)
    simp only [S] at ih ⊢
    rw [ih, if_pos (by omega)]
    have e1 : (((m + 2 : Nat) : Int)) = (m : Int) + 2 := by omega
    have e2 : (((m + 1 : Nat) : Int)) = (m : Int) + 1 := by omega
    rw [e1, e2]
    have a1 : ((m : Int) + 2) * ((m : Int) + 2 - 1) = ((m : Int) + 1) * ((m : Int) + 1 - 1) + 2 * ((m : Int) + 1) := by
      rw [show (m : Int) + 2 - 1 = (m : Int) + 1 by omega, show (m : Int) + 1 - 1 = (m : Int) by omega, Int.add_mul, Int.mul_comm ((m : Int) + 1) m]
    rw [a1, show ((m : Int) + 1) * ((m : Int) + 1 - 1) + 2 * ((m : Int) + 1) = ((m : Int) + 1) * ((m : Int) + 1 - 1) + ((m : Int) + 1) * 2 by omega, Int.add_mul_ediv_right _ _ (by omega)]
    have a2 : ((m : Int) + 2 - 1) * (n : Int) = ((m : Int) + 1 - 1) * n + n := by
      rw [show (m : Int) + 2 - 1 = ((m : Int) + 1 - 1) + 1 by omega, Int.add_mul, Int.one_mul]
    rw [a2]; omega

theorem Phi_le {n : Nat} (X : Nat → Int) (hn : 0 < n) : Phi n X ≤ (n : Int) * (n - 1) / 2 := by
  have h1 : Phi n X ≤ S n (fun j => if 0 < j then (n : Int) - j else 0) := S_le n fun j hj => by
    by_cases h0 : 0 < j
    · rw [if_pos h0]; split <;> omega
    · rw [if_neg (by omega), if_neg h0]; exact Int.le_refl _
  have h2 := S_down n n (Nat.le_refl _) hn
  have h3 : ((n : Int) - 1) * n = (n : Int) * (n - 1) := Int.mul_comm _ _
  have h4 : 2 * ((n : Int) * (n - 1) / 2) ≤ (n : Int) * (n - 1) := Int.mul_ediv_self_le (by omega)
  have h5 : (n : Int) * (n - 1) = 2 * ((n : Int) * (n - 1) / 2) := by
    have : ((n : Int) * (n - 1)) % 2 = 0 := by
      rw [Int.mul_emod]
      rcases Int.emod_two_eq (n : Int) with h | h
      · rw [h]; simp
      · rw [show ((n : Int) - 1) % 2 = 0 by omega]; simp
    omega
  omega

theorem Phi_dec {n : Nat} {k : Int} {X : Nat → Int} {i : Nat} (hn : 2 ≤ n) (hk : 2 ≤ k) (hi : i < n) (h0 : 0 < i) (hx : Valid n k X) (hf : fr n X i = true) : Phi n (mvX k X i) ≤ Phi n X - 1 := by
  have h1 : Phi n (mvX k X i) ≤ S n (fun j => ((if 0 < j ∧ fr n X j = true then (n : Int) - j else 0) - (if j = i then (n : Int) - i else 0)) + (if j = i + 1 then (n : Int) - (i + 1) else 0)) := by
    refine S_le n fun j hj => ?_
    by_cases hji : j = i
    · subst hji
      rw [mv_self hn hk hi hx hf, hf, if_pos rfl, if_neg (by simp), if_pos ⟨h0, rfl⟩, if_neg (by omega)]; omega
    · rw [if_neg hji]
      by_cases hjc : j = i + 1
      · rw [if_pos hjc]
        split <;> split <;> omega
      · rw [if_neg hjc]
        by_cases hj0 : j = 0
        · rw [if_neg (by omega), if_neg (by omega)]; omega
        · have hjm : j ≠ (i + 1) % n := by
            by_cases h : i + 1 < n
            · rw [Nat.mod_eq_of_lt h]; exact hjc
            · rw [show i + 1 = n by omega, Nat.mod_self]; exact hj0
          rw [mv_other hn hi hj hji hjm]; omega
  rw [S_add, S_sub, S_at, S_at, if_pos hi] at h1
  unfold Phi at *
  split at h1 <;> omega

/-- a state on the way: v is a value that none but the first had; c moves of the first are left till it has it -/
def Way (n : Nat) (k v : Int) (c : Nat) (X : Nat → Int) : Prop :=
  (0 < c ∧ (c : Int) < k ∧ (X 0 + c) % k = v ∧ ∀ j, 0 < j → j < n → X j ≠ v) ∨
  (c = 0 ∧ ∃ m, m + 1 < n ∧ (∀ j, j ≤ m → X j = v) ∧ ∀ j, m < j → j < n → X j ≠ v)

def Legit (n : Nat) (X : Nat → Int) : Prop := ∃ i, frL n X = [i]

theorem legit_same {n : Nat} {v : Int} {X : Nat → Int} (hn : 2 ≤ n) (h : ∀ j, j < n → X j = v) : Legit n X := by
  refine ⟨0, ?_⟩
  have hf : ∀ j, j < n → fr n X j = (j == 0) := fun j hj => by
    by_cases h0 : j = 0
    · subst h0; rw [(fr_zero n X).2 (by rw [h 0 hj, h (n - 1) (by omega)])]; rfl
    · have : ¬ fr n X j = true := by rw [fr_pos (by omega), h j hj, h (j - 1) (by omega)]; simp
      rw [Bool.eq_false_iff.2 this]; simp [h0]
  obtain ⟨m, rfl⟩ : ∃ m, n = m + 1 := ⟨n - 1, by omega⟩
  have : (List.range (m + 1)).filter (fr (m + 1) X) = (List.range (m + 1)).filter (fun i => i == 0) :=
    List.filter_congr fun i hi => hf i (List.mem_range.1 hi)
  unfold frL
  rw [this, List.range_succ_eq_map]
  simp

theorem mod_succ {x k : Int} {c : Nat} {v : Int} (h : (x + c) % k = v) (hc : 0 < c) : ((x + 1) % k + ((c - 1 : Nat) : Int)) % k = v := by
  rw [Int.emod_add_emod, ← h]
  congr 1; omega

theorem way_step {n : Nat} {k v : Int} {c : Nat} {X : Nat → Int} {i : Nat} (hn : 2 ≤ n) (hi : i < n) (hv : 0 ≤ v ∧ v < k) (hx : Valid n k X) (hf : fr n X i = true) (hw : Way n k v c X) :
    Legit n (mvX k X i) ∨ (i = 0 ∧ 0 < c ∧ Way n k v (c - 1) (mvX k X i)) ∨ (0 < i ∧ Way n k v c (mvX k X i)) := by
  rcases hw with ⟨hc, hck, hcv, ho⟩ | ⟨rfl, m, hm, h1, h2⟩
  · by_cases h0 : i = 0
    · subst h0
      refine .inr (.inl ⟨rfl, hc, ?_⟩)
      have hx0 := hx 0 (by omega)
      have hstep := mod_succ hcv hc
      by_cases hc1 : c = 1
      · refine .inr ⟨by omega, 0, by omega, fun j hj => ?_, fun j hj hjn => ?_⟩
        · obtain rfl : j = 0 := by omega
          simp only [mvX, if_true]
          subst hc1
          simpa using hcv
        · simp only [mvX, if_neg (show ¬ j = 0 by omega)]; exact ho j hj hjn
      · refine .inl ⟨by omega, by omega, ?_, fun j hj hjn => ?_⟩
        · simp only [mvX, if_true]; exact hstep
        · simp only [mvX, if_neg (show ¬ j = 0 by omega)]; exact ho j hj hjn
    · refine .inr (.inr ⟨by omega, .inl ⟨hc, hck, ?_, fun j hj hjn => ?_⟩⟩)
      · simp only [mvX, if_neg (show ¬ 0 = i by omega)]; exact hcv
      · simp only [mvX]
        split
        · by_cases h1 : i = 1
          · subst h1
            intro he
            have hx0 := hx 0 (by omega)
            simp only [Nat.sub_self] at he
            rw [he] at hcv
            have : (v + c) % k ≠ v := by
              by_cases hh : v + c < k
              · rw [Int.emod_eq_of_lt (by omega) hh]; omega
              · rw [show v + (c : Int) = (v + c - k) + k by omega, Int.add_emod_right, Int.emod_eq_of_lt (by omega) (by omega)]; omega
            exact this hcv
          · exact ho (i - 1) (by omega) (by omega)
        · exact ho j hj hjn
  · by_cases h0 : i = 0
    · exfalso
      subst h0
      rw [fr_zero, h1 0 (by omega)] at hf
      exact h2 (n - 1) (by omega) (by omega) hf.symm
    · by_cases him : i ≤ m
      · exfalso
        rw [fr_pos (by omega), h1 i him, h1 (i - 1) (by omega)] at hf
        exact hf rfl
      · by_cases hi1 : i = m + 1
        · by_cases hlast : m + 2 < n
          · refine .inr (.inr ⟨by omega, .inr ⟨rfl, m + 1, by omega, fun j hj => ?_, fun j hj hjn => ?_⟩⟩)
            · simp only [mvX]
              split
              · exact h1 (i - 1) (by omega)
              · exact h1 j (by omega)
            · simp only [mvX, if_neg (show ¬ j = i by omega)]; exact h2 j (by omega) hjn
          · refine .inl (legit_same (v := v) hn fun j hj => ?_)
            simp only [mvX]
            split
            · exact h1 (i - 1) (by omega)
            · exact h1 j (by omega)
        · refine .inr (.inr ⟨by omega, .inr ⟨rfl, m, hm, fun j hj => ?_, fun j hj hjn => ?_⟩⟩)
          · simp only [mvX, if_neg (show ¬ j = i by omega)]; exact h1 j hj
          · simp only [mvX]
            split
            · exact h2 (i - 1) (by omega) (by omega)
            · exact h2 j hj hjn

/-- b moves more, and it has come right -/
def Soon (n : Nat) (k v : Int) (b : Int) (X : Nat → Int) : Prop :=
  Valid n k X ∧ (Legit n X ∨ ∃ c : Nat, Way n k v c X ∧ (c : Int) * ((n : Int) * (n - 1) / 2 + 1) + Phi n X ≤ b)

theorem soon_step {n : Nat} {k v : Int} {b : Int} {X : Nat → Int} {i : Nat} (hn : 2 ≤ n) (hk : 2 ≤ k) (hi : i < n) (hv : 0 ≤ v ∧ v < k) (hf : fr n X i = true) (h : Soon n k v b X) : Soon n k v (b - 1) (mvX k X i) := by
  obtain ⟨hx, h⟩ := h
  refine ⟨mv_valid hk hi hx, ?_⟩
  rcases h with ⟨j, hj⟩ | ⟨c, hw, hb⟩
  · left
    have hm : i ∈ frL n X := mem_frL.2 ⟨hi, hf⟩
    rw [hj] at hm
    simp at hm
    subst hm
    exact ⟨_, frL_turn hn hk hx hj⟩
  · rcases way_step hn hi hv hx hf hw with h | ⟨rfl, hc, h⟩ | ⟨h0, h⟩
    · exact .inl h
    · refine .inr ⟨_, h, ?_⟩
      have h1 := Phi_le (mvX k X 0) (show 0 < n by omega)
      have h2 := Phi_nonneg n X
      generalize (n : Int) * (n - 1) / 2 = q at *
      have : (c : Int) * (q + 1) = ((c - 1 : Nat) : Int) * (q + 1) + (q + 1) := by
        rw [show (c : Int) = ((c - 1 : Nat) : Int) + 1 by omega, Int.add_mul, Int.one_mul]
      omega
    · exact .inr ⟨_, h, by have := Phi_dec hn hk hi h0 hx hf; omega⟩

theorem soon_legit {n : Nat} {k v : Int} {b : Int} {X : Nat → Int} (hn : 2 ≤ n) (h : Soon n k v b X) (hb : b < 0) : Legit n X := by
  rcases h.2 with h | ⟨c, _, hc⟩
  · exact h
  · exfalso
    have h1 := Phi_nonneg n X
    have h2 := Phi_le X (show 0 < n by omega)
    have h3 : 0 ≤ (c : Int) * ((n : Int) * (n - 1) / 2 + 1) := Int.mul_nonneg (by omega) (by omega)
    omega

theorem not_in : ∀ (k : Nat) (l : List Int), l.length < k → ∃ v : Nat, v < k ∧ (v : Int) ∉ l
  | 0, _, h => by omega
  | k + 1, l, h => by
    by_cases hk : (k : Int) ∈ l
    · have hl := List.length_erase_of_mem hk
      have hpos := List.length_pos_of_mem hk
      obtain ⟨v, hv, hn⟩ := not_in k (l.erase (k : Int)) (by omega)
      exact ⟨v, by omega, fun hm => hn ((List.mem_erase_of_ne (by omega)).2 hm)⟩
    · exact ⟨k, by omega, hk⟩

/-- so many moves suffice -/
theorem soon_start {n : Nat} {k : Int} {X : Nat → Int} (hn : 2 ≤ n) (hk : 2 ≤ k) (hnk : (n : Int) ≤ k) (hx : Valid n k X) :
    ∃ v, (0 ≤ v ∧ v < k) ∧ Soon n k v ((k + 1) * ((n : Int) * (n - 1) / 2 + 1) - 1) X := by
  obtain ⟨v, hv, hno⟩ := not_in k.toNat ((List.range (n - 1)).map fun j => X (j + 1)) (by simp; omega)
  have hno' : ∀ j, 0 < j → j < n → X j ≠ (v : Int) := fun j h0 hj he => hno (List.mem_map.2 ⟨j - 1, List.mem_range.2 (by omega), by rw [Nat.sub_add_cancel (by omega)]; exact he⟩)
  refine ⟨v, by omega, hx, .inr ⟨((v : Int) - X 0).emod k |>.toNat, ?_, ?_⟩⟩
  · have hx0 := hx 0 (by omega)
    have h1 := Int.emod_nonneg ((v : Int) - X 0) (show k ≠ 0 by omega)
    have h2 := Int.emod_lt_of_pos ((v : Int) - X 0) (show 0 < k by omega)
    have h3 : (X 0 + ((v : Int) - X 0) % k) % k = v := by
      rw [Int.add_emod_emod, show X 0 + ((v : Int) - X 0) = v by omega]
      exact Int.emod_eq_of_lt (by omega) (by omega)
    show Way n k v (((v : Int) - X 0) % k).toNat X
    generalize ((v : Int) - X 0) % k = c at *
    by_cases hc : c = 0
    · subst hc
      refine .inr ⟨rfl, 0, by omega, fun j hj => ?_, fun j hj hjn => hno' j (by omega) hjn⟩
      obtain rfl : j = 0 := by omega
      rw [Int.add_zero, Int.emod_eq_of_lt hx0.1 hx0.2] at h3; exact h3
    · refine .inl ⟨by omega, by omega, by rw [Int.toNat_of_nonneg h1]; exact h3, hno'⟩
  · have h1 : (((v : Int) - X 0) % k).toNat < k.toNat := by
      have h1 := Int.emod_nonneg ((v : Int) - X 0) (show k ≠ 0 by omega)
      have h2 := Int.emod_lt_of_pos ((v : Int) - X 0) (show 0 < k by omega)
      omega
    have h2 := Phi_le X (show 0 < n by omega)
    have h4 := Phi_nonneg n X
    show ((((v : Int) - X 0) % k).toNat : Int) * _ + _ ≤ _
    generalize (((v : Int) - X 0) % k).toNat = c at *
    generalize (n : Int) * (n - 1) / 2 = q at *
    have h3 : (c : Int) * (q + 1) ≤ k * (q + 1) := Int.mul_le_mul_of_nonneg_right (by omega) (by omega)
    rw [Int.add_mul, Int.one_mul]
    omega

end Go.Proofs.Ytejbbnejpbpdmaa
