/- Plain laws of the phases and their kings: what all loyal ones hold stays; a phase with a loyal king lets them agree; without a liar most decide. No program here. -/
import Derived.Test.YthlhmilckenoaaaA4
namespace Go.Proofs.Ythlhmilckenoaaa

def cnt (p : Nat → Bool) : Nat → Nat
  | 0 => 0
  | m + 1 => cnt p m + (if p m then 1 else 0)

theorem cnt_le_of {p q : Nat → Bool} : ∀ m, (∀ i, i < m → p i = true → q i = true) → cnt p m ≤ cnt q m
  | 0, _ => Nat.le_refl _
  | m + 1, h => by
    have ih := cnt_le_of m (fun i hi => h i (by omega))
    have hm := h m (by omega)
    unfold cnt
    cases hp : p m
    · simp; omega
    · rw [hm hp]; simp; omega

theorem cnt_le (p : Nat → Bool) : ∀ m, cnt p m ≤ m
  | 0 => Nat.le_refl _
  | m + 1 => by have := cnt_le p m; unfold cnt; split <;> omega

theorem cnt_mono (p : Nat → Bool) {a : Nat} : ∀ {b : Nat}, a ≤ b → cnt p a ≤ cnt p b
  | 0, h => by obtain rfl : a = 0 := by omega
               exact Nat.le_refl _
  | b + 1, h => by
    by_cases hab : a = b + 1
    · subst hab; exact Nat.le_refl _
    · have := cnt_mono p (a := a) (b := b) (by omega)
      have : cnt p b ≤ cnt p (b + 1) := by rw [cnt]; omega
      omega

theorem cnt_all {p : Nat → Bool} : ∀ m, (∀ i, i < m → p i = true) → cnt p m = m
  | 0, _ => rfl
  | m + 1, h => by unfold cnt; rw [cnt_all m (fun i hi => h i (by omega)), h m (by omega)]; rfl

theorem cnt_three {p q r : Nat → Bool} : ∀ m, (∀ i, i < m → (if p i then 1 else 0) + (if q i then 1 else 0) + (if r i then 1 else 0) = (1 : Nat)) → cnt p m + cnt q m + cnt r m = m
  | 0, _ => rfl
  | m + 1, h => by
    have ih := cnt_three m (fun i hi => h i (by omega))
    have hm := h m (by omega)
    unfold cnt; omega

theorem cnt_filter (p : Nat → Bool) : ∀ m, ((List.range m).filter p).length = cnt p m
  | 0 => rfl
  | m + 1 => by
    rw [List.range_succ, List.filter_append, List.length_append, cnt_filter p m, cnt]
    cases h : p m <;> simp [h]

/-- how many lie; how many loyal ones hold true; how many false -/
def nL (li n : Nat) : Nat := cnt (fun i => li.testBit i) n
def nT (li : Nat) (vs : List Bool) (n : Nat) : Nat := cnt (fun i => !li.testBit i && vs.getD i false) n
def nF (li : Nat) (vs : List Bool) (n : Nat) : Nat := cnt (fun i => !li.testBit i && !vs.getD i false) n

theorem n_sum (li : Nat) (vs : List Bool) (n : Nat) : nL li n + nT li vs n + nF li vs n = n :=
  cnt_three n fun i _ => by cases li.testBit i <;> cases vs.getD i false <;> rfl

theorem yes_bounds (n li : Nat) (ls : List Nat) (vs : List Bool) (j a : Nat) : ∀ m, cnt (fun i => !li.testBit i && vs.getD i false) m ≤ yesF n li ls vs j a m ∧ yesF n li ls vs j a m ≤ cnt (fun i => !li.testBit i && vs.getD i false) m + cnt (fun i => li.testBit i) m
  | 0 => ⟨Nat.le_refl _, Nat.le_refl _⟩
  | m + 1 => by
    obtain ⟨h1, h2⟩ := yes_bounds n li ls vs j a m
    unfold yesF cnt
    by_cases hl : li.testBit m = true
    · simp only [hl, Bool.not_true, Bool.false_and, Bool.false_eq_true, if_false, if_true]
      constructor <;> split <;> omega
    · have hl' : li.testBit m = false := by simpa using hl
      have hs : saysF n li ls m j a (vs.getD m false) = vs.getD m false := by unfold saysF; rw [hl']; rfl
      rw [hs]
      simp only [hl', Bool.not_false, Bool.true_and, Bool.false_eq_true, if_false]
      constructor <;> split <;> omega

theorem yes_b (n li : Nat) (ls : List Nat) (vs : List Bool) (j a : Nat) : nT li vs n ≤ yesF n li ls vs j a n ∧ yesF n li ls vs j a n ≤ nT li vs n + nL li n := yes_bounds n li ls vs j a n

/-- all loyal ones hold b -/
def Hold (li n : Nat) (vs : List Bool) (b : Bool) : Prop := ∀ i, i < n → li.testBit i = false → vs.getD i false = b

theorem hold_T {li n : Nat} {vs : List Bool} (h : Hold li n vs true) : nF li vs n = 0 := by
  have : nF li vs n ≤ cnt (fun _ => false) n := cnt_le_of n fun i hi hp => by
    cases hl : li.testBit i
    · rw [h i hi hl, hl] at hp; cases hp
    · rw [hl] at hp; cases hp
  have h0 : ∀ m, cnt (fun _ => false) m = 0 := fun m => by induction m with
    | zero => rfl
    | succ m ih => unfold cnt; rw [ih]; rfl
  rw [h0] at this; omega
theorem hold_F {li n : Nat} {vs : List Bool} (h : Hold li n vs false) : nT li vs n = 0 := by
  have : nT li vs n ≤ cnt (fun _ => false) n := cnt_le_of n fun i hi hp => by
    cases hl : li.testBit i
    · rw [h i hi hl, hl] at hp; cases hp
    · rw [hl] at hp; cases hp
  have h0 : ∀ m, cnt (fun _ => false) m = 0 := fun m => by induction m with
    | zero => rfl
    | succ m ih => unfold cnt; rw [ih]; rfl
  rw [h0] at this; omega

theorem phase_get {n li : Nat} {ls : List Nat} {vs : List Bool} {k t j : Nat} (hj : j < n) : (phaseF n li ls vs k t).getD j false = (if n + 2 * t < 2 * pollC n li ls vs j (2 * k) then pollB n li ls vs j (2 * k) else saysF n li ls k j (2 * k + 1) (pollB n li ls vs k (2 * k))) := by
  unfold phaseF
  rw [List.getD_eq_getElem?_getD, List.getElem?_map, List.getElem?_range hj]; rfl

theorem hold_stays {n li t k : Nat} {ls : List Nat} {vs : List Bool} {b : Bool} (hn : 4 * t < n) (hl : nL li n ≤ t) (h : Hold li n vs b) : Hold li n (phaseF n li ls vs k t) b := by
  intro j hj hlj
  rw [phase_get hj]
  obtain ⟨y1, y2⟩ := yes_b n li ls vs j (2 * k)
  have hs := n_sum li vs n
  cases b with
  | true =>
    have hf := hold_T h
    have hy : n < 2 * yesF n li ls vs j (2 * k) n := by omega
    have hB : pollB n li ls vs j (2 * k) = true := decide_eq_true hy
    have hC : pollC n li ls vs j (2 * k) = yesF n li ls vs j (2 * k) n := if_pos hy
    rw [hB, hC, if_pos (by omega)]
  | false =>
    have hf := hold_F h
    have hy : ¬ n < 2 * yesF n li ls vs j (2 * k) n := by omega
    have hB : pollB n li ls vs j (2 * k) = false := decide_eq_false hy
    have hC : pollC n li ls vs j (2 * k) = n - yesF n li ls vs j (2 * k) n := if_neg hy
    rw [hB, hC, if_pos (by omega)]

theorem hold_king {n li t k : Nat} {ls : List Nat} {vs : List Bool} (hk : k < n) (hlk : li.testBit k = false) (hl : nL li n ≤ t) : ∃ b, Hold li n (phaseF n li ls vs k t) b := by
  have hs := n_sum li vs n
  by_cases hex : ∃ j, j < n ∧ li.testBit j = false ∧ n + 2 * t < 2 * pollC n li ls vs j (2 * k)
  · obtain ⟨j, hj, hlj, hc⟩ := hex
    obtain ⟨y1, y2⟩ := yes_b n li ls vs j (2 * k)
    have hyle := yesF_le n li ls vs j (2 * k) n
    have key : ∀ b, (∀ j', j' < n → pollB n li ls vs j' (2 * k) = b) → Hold li n (phaseF n li ls vs k t) b := fun b hb i hi hli => by
      rw [phase_get hi, hb i hi, hb k hk]
      split
      · rfl
      · unfold saysF; rw [hlk]; rfl
    by_cases hy : n < 2 * yesF n li ls vs j (2 * k) n
    · have hC : pollC n li ls vs j (2 * k) = yesF n li ls vs j (2 * k) n := if_pos hy
      rw [hC] at hc
      refine ⟨true, key true fun j' _ => ?_⟩
      obtain ⟨z1, z2⟩ := yes_b n li ls vs j' (2 * k)
      exact decide_eq_true (by omega)
    · have hC : pollC n li ls vs j (2 * k) = n - yesF n li ls vs j (2 * k) n := if_neg hy
      rw [hC] at hc
      refine ⟨false, key false fun j' _ => ?_⟩
      obtain ⟨z1, z2⟩ := yes_b n li ls vs j' (2 * k)
      exact decide_eq_false (by omega)
  · refine ⟨pollB n li ls vs k (2 * k), fun i hi hli => ?_⟩
    rw [phase_get hi, if_neg (fun h => hex ⟨i, hi, hli, h⟩)]
    unfold saysF; rw [hlk]; rfl

theorem hold_iter {n li t : Nat} {ls : List Nat} {vs : List Bool} {b : Bool} (hn : 4 * t < n) (hl : nL li n ≤ t) {k : Nat} (h : Hold li n (iterF n li ls vs t k) b) : ∀ d, Hold li n (iterF n li ls vs t (k + d)) b
  | 0 => h
  | d + 1 => hold_stays hn hl (hold_iter hn hl h d)

theorem some_king {li t : Nat} (h : nL li (t + 1) ≤ t) : ∃ k, k ≤ t ∧ li.testBit k = false := by
  refine Classical.byContradiction fun hno => ?_
  have : nL li (t + 1) = t + 1 := cnt_all _ fun i hi => by
    cases hb : li.testBit i
    · exact absurd ⟨i, by omega, hb⟩ hno
    · rfl
  omega

/-- BERMAN, GARAY, PERRY -/
theorem agrees {n li t : Nat} {ls : List Nat} {vs : List Bool} (hn : 4 * t < n) (hl : nL li n ≤ t) :
    (∃ b, Hold li n (iterF n li ls vs t (t + 1)) b) ∧ ∀ b, Hold li n vs b → Hold li n (iterF n li ls vs t (t + 1)) b := by
  constructor
  · obtain ⟨k, hk, hlk⟩ := some_king (li := li) (t := t) (Nat.le_trans (cnt_mono _ (show t + 1 ≤ n by omega)) hl)
    obtain ⟨b, hb⟩ := hold_king (ls := ls) (vs := iterF n li ls vs t k) (show k < n by omega) hlk hl
    have hb' : Hold li n (iterF n li ls vs t (k + 1)) b := hb
    have := hold_iter hn hl hb' (t - k)
    rw [show k + 1 + (t - k) = t + 1 by omega] at this
    exact ⟨b, this⟩
  · intro b hb
    have := hold_iter hn hl (k := 0) (ls := ls) (vs := vs) (b := b) hb (t + 1)
    rw [Nat.zero_add] at this; exact this

/-- without a liar -/
theorem true_phase {n t k : Nat} {ls : List Nat} {vs : List Bool} (_hk : k < n) : ∀ j, j < n → (phaseF n 0 ls vs k t).getD j false = decide (n < 2 * nT 0 vs n) := by
  intro j hj
  have hL : nL 0 n = 0 := by
    have : ∀ m, cnt (fun i => (0 : Nat).testBit i) m = 0 := fun m => by
      induction m with
      | zero => rfl
      | succ m ih => unfold cnt; rw [ih]; simp
    exact this n
  have hB : ∀ j', pollB n 0 ls vs j' (2 * k) = decide (n < 2 * nT 0 vs n) := fun j' => by
    obtain ⟨y1, y2⟩ := yes_b n 0 ls vs j' (2 * k)
    unfold pollB
    rw [show yesF n 0 ls vs j' (2 * k) n = nT 0 vs n by omega]
  rw [phase_get hj, hB j, hB k]
  split
  · rfl
  · unfold saysF; simp

theorem true_iter {n t : Nat} {ls : List Nat} {vs : List Bool} (hn : t < n) : ∀ k, k ≤ t → ∀ j, j < n → (iterF n 0 ls vs t (k + 1)).getD j false = decide (n < 2 * nT 0 vs n)
  | 0, _ => true_phase (Nat.lt_of_le_of_lt (Nat.zero_le t) hn)
  | k + 1, hk => by
    have ih := true_iter (ls := ls) (vs := vs) hn k (by omega)
    intro j hj
    have h1 := true_phase (n := n) (t := t) (k := k + 1) (ls := ls) (vs := iterF n 0 ls vs t (k + 1)) (by omega) j hj
    show (phaseF n 0 ls (iterF n 0 ls vs t (k + 1)) (k + 1) t).getD j false = _
    rw [h1]
    by_cases hb : n < 2 * nT 0 vs n
    · rw [decide_eq_true hb] at ih ⊢
      have : nT 0 (iterF n 0 ls vs t (k + 1)) n = n := cnt_all n fun i hi => by rw [ih i hi]; simp
      rw [this]; exact decide_eq_true (by omega)
    · rw [decide_eq_false hb] at ih ⊢
      have : nT 0 (iterF n 0 ls vs t (k + 1)) n = 0 := hold_F fun i hi _ => ih i hi
      rw [this]; exact decide_eq_false (by omega)

end Go.Proofs.Ythlhmilckenoaaa
