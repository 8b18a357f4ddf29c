/- The bakery in plain words: at most one is in, whoever has its ticket goes in first, one alone goes in. -/
import Derived.Test.YthpbdckiiljegaaA6
namespace Go.Proofs.Ythpbdckiiljegaa
set_option linter.unusedVariables false

/-- what holds of one alone -/
def OneP (n : Nat) (p : Pr) : Prop := p.at_ ≤ 5 ∧ (p.at_ ≤ 1 → p.tk = 0) ∧ (p.ch = true ↔ (p.at_ = 1 ∨ p.at_ = 2)) ∧ (2 ≤ p.at_ → 1 ≤ p.tk) ∧ (p.at_ = 1 → p.k ≤ n) ∧ (p.at_ = 2 → p.k = n) ∧ (p.at_ = 3 → p.k ≤ n) ∧ (p.at_ = 4 → p.k < n) ∧ (p.at_ = 5 → p.k = n)
/-- i's ticket is ahead of j's, or will be -/
def Ah (i j : Nat) (p q : Pr) : Prop := q.at_ = 0 ∨ (q.at_ = 1 ∧ (q.k ≤ i ∨ p.tk ≤ q.m)) ∨ (2 ≤ q.at_ ∧ (p.tk < q.tk ∨ p.tk = q.tk ∧ i < j))
/-- what holds of two -/
def TwoP (i j : Nat) (p q : Pr) : Prop := 3 ≤ p.at_ → (j < p.k → Ah i j p q) ∧ (p.at_ = 4 → j = p.k → q.at_ ≤ 2 → Ah i j p q)
structure BInv (n : Nat) (ps : List Pr) : Prop where
  len : ps.length = n
  one : ∀ (i : Nat) (p : Pr), ps[i]? = some p → OneP n p
  two : ∀ (i j : Nat) (p q : Pr), i ≠ j → ps[i]? = some p → ps[j]? = some q → TwoP i j p q

theorem OneP.step {n i : Nat} {ps : List Pr} {p : Pr} (hl : ps.length = n) (h : OneP n p) : OneP n (pStep ps p i) := by
  have h0 := h
  obtain ⟨h1, h2, h3, h4, h5, h6, h7, h8, h9⟩ := h
  have hc : 3 ≤ p.at_ → p.ch = false := fun e => by
    cases hc : p.ch
    · rfl
    · have := h3.1 hc; omega
  unfold pStep lookF
  by_cases e0 : p.at_ = 0
  · rw [if_pos e0]; unfold OneP; simp; exact h2 (by omega)
  rw [if_neg e0]
  by_cases e1 : p.at_ = 1
  · rw [if_pos e1]
    have hct := h3.2 (.inl e1)
    split
    · unfold OneP; simp; exact ⟨hct, by omega⟩
    · unfold OneP; simp [e1]; exact ⟨h2 (by omega), hct, by have := h5 e1; omega⟩
  rw [if_neg e1]
  by_cases e2 : p.at_ = 2
  · rw [if_pos e2]; unfold OneP; simp; exact h4 (by omega)
  rw [if_neg e2]
  by_cases e3 : p.at_ = 3
  · rw [if_pos e3]
    have hcf := hc (by omega)
    split
    · unfold OneP; simp; exact ⟨hcf, h4 (by omega), by omega⟩
    · split
      · exact h0
      · unfold OneP; simp; exact ⟨hcf, h4 (by omega), by have := h7 e3; omega⟩
  rw [if_neg e3]
  by_cases e4 : p.at_ = 4
  · rw [if_pos e4]
    have hcf := hc (by omega)
    split
    · exact h0
    · unfold OneP; simp; exact ⟨hcf, h4 (by omega), by have := h8 e4; omega⟩
  rw [if_neg e4]
  unfold OneP; simp; exact hc (by omega)

/-- the other one steps -/
theorem Ah.stepq {n i j : Nat} {ps : List Pr} {p q : Pr} (hl : ps.length = n) (hi : ps[i]? = some p) (hp : 3 ≤ p.at_) (hq : OneP n q) (h : Ah i j p q) : Ah i j p (pStep ps q j) := by
  have hin := (List.getElem?_eq_some_iff.1 hi).1
  obtain ⟨h1, h2, h3, h4, h5, h6, h7, h8, h9⟩ := hq
  unfold Ah at *
  unfold pStep lookF
  rcases (by omega : q.at_ = 0 ∨ q.at_ = 1 ∨ q.at_ = 2 ∨ q.at_ = 3 ∨ q.at_ = 4 ∨ q.at_ = 5) with e | e | e | e | e | e
  · simp [e]
  · rw [if_neg (by omega), if_pos e]
    have hh : q.k ≤ i ∨ p.tk ≤ q.m := by omega
    split
    · right; right
      refine ⟨by simp, ?_⟩
      dsimp only; omega
    · right; left
      refine ⟨e, ?_⟩
      dsimp only
      by_cases hk : q.k = i
      · right; rw [hk]; unfold tkOf; rw [hi]; dsimp only; omega
      · omega
  · rw [if_neg (by omega), if_neg (by omega), if_pos e]; right; right; dsimp only; omega
  · rw [if_neg (by omega), if_neg (by omega), if_neg (by omega), if_pos e]
    split
    · right; right; dsimp only; omega
    · split
      · exact h
      · right; right; dsimp only; omega
  · rw [if_neg (by omega), if_neg (by omega), if_neg (by omega), if_neg (by omega), if_pos e]
    split
    · exact h
    · right; right; dsimp only; omega
  · rw [if_neg (by omega), if_neg (by omega), if_neg (by omega), if_neg (by omega), if_neg (by omega)]; left; rfl

theorem pStep_at {ps : List Pr} {p : Pr} {i : Nat} (h : 3 ≤ (pStep ps p i).at_) : (p.at_ = 2 ∧ pStep ps p i = { p with ch := false, k := 0, at_ := 3 }) ∨ (p.at_ = 3 ∧ ((p.k = ps.length ∧ pStep ps p i = { p with at_ := 5 }) ∨ (p.k ≠ ps.length ∧ chOf ps p.k = true ∧ pStep ps p i = p) ∨ (p.k ≠ ps.length ∧ chOf ps p.k = false ∧ pStep ps p i = { p with at_ := 4 }))) ∨
    (p.at_ = 4 ∧ ((tkOf ps p.k ≠ 0 ∧ (tkOf ps p.k < p.tk ∨ tkOf ps p.k = p.tk ∧ p.k < i) ∧ pStep ps p i = p) ∨ (¬ (tkOf ps p.k ≠ 0 ∧ (tkOf ps p.k < p.tk ∨ tkOf ps p.k = p.tk ∧ p.k < i)) ∧ pStep ps p i = { p with k := p.k + 1, at_ := 3 }))) := by
  unfold pStep lookF at *
  by_cases e0 : p.at_ = 0
  · simp [e0] at h
  rw [if_neg e0] at *
  by_cases e1 : p.at_ = 1
  · rw [if_pos e1] at h; split at h <;> simp at h; omega
  rw [if_neg e1] at *
  by_cases e2 : p.at_ = 2
  · rw [if_pos e2] at *; exact .inl ⟨e2, rfl⟩
  rw [if_neg e2] at *
  by_cases e3 : p.at_ = 3
  · right; left
    rw [if_pos e3] at *
    refine ⟨e3, ?_⟩
    by_cases hk : p.k = ps.length
    · left; rw [if_pos hk]; exact ⟨hk, rfl⟩
    · right; rw [if_neg hk]
      cases hc : chOf ps p.k
      · right; exact ⟨hk, rfl, by simp⟩
      · left; exact ⟨hk, rfl, by simp⟩
  rw [if_neg e3] at *
  by_cases e4 : p.at_ = 4
  · right; right
    rw [if_pos e4] at *
    refine ⟨e4, ?_⟩
    by_cases hk : tkOf ps p.k ≠ 0 ∧ (tkOf ps p.k < p.tk ∨ tkOf ps p.k = p.tk ∧ p.k < i)
    · left; rw [if_pos hk]; exact ⟨hk.1, hk.2, rfl⟩
    · right; rw [if_neg hk]; exact ⟨hk, rfl⟩
  rw [if_neg e4] at h
  simp at h

theorem TwoP.stepp {n i j : Nat} {ps : List Pr} {p q : Pr} (hl : ps.length = n) (hij : i ≠ j) (hj : ps[j]? = some q) (hp : OneP n p) (hq : OneP n q) (h : TwoP i j p q) : TwoP i j (pStep ps p i) q := by
  intro hat
  rcases pStep_at hat with ⟨e, h1⟩ | ⟨e, ⟨hk, h1⟩ | ⟨hk, hc, h1⟩ | ⟨hk, hc, h1⟩⟩ | ⟨e, ⟨hz, hc, h1⟩ | ⟨hc, h1⟩⟩
  · rw [h1]; exact ⟨fun hlt => by simp at hlt, fun hlt => by simp at hlt⟩
  · have := h (by omega)
    rw [h1]; exact ⟨this.1, fun hlt => by simp at hlt⟩
  · rw [h1]; exact h (by omega)
  · have := h (by omega)
    rw [h1]
    refine ⟨this.1, fun _ hjk hq2 => ?_⟩
    dsimp only at hjk
    have : q.ch = false := by unfold chOf at hc; rw [← hjk, hj] at hc; exact hc
    obtain ⟨q1, q2, q3, q4, _⟩ := hq
    have : q.at_ = 0 := by
      rcases (by omega : q.at_ = 0 ∨ q.at_ = 1 ∨ q.at_ = 2) with e | e | e
      · exact e
      · rw [q3.2 (.inl e)] at this; cases this
      · rw [q3.2 (.inr e)] at this; cases this
    exact .inl this
  · rw [h1]; exact h (by omega)
  · obtain ⟨g1, g2⟩ := h (by omega)
    rw [h1]
    refine ⟨fun hlt => ?_, fun hlt => by simp at hlt⟩
    dsimp only at hlt
    by_cases hjk : j = p.k
    · by_cases hq2 : q.at_ ≤ 2
      · exact g2 e hjk hq2
      · obtain ⟨q1, q2, q3, q4, _⟩ := hq
        have ht : tkOf ps p.k = q.tk := by unfold tkOf; rw [← hjk, hj]
        rw [ht] at hc
        have := q4 (by omega)
        right; right
        refine ⟨by omega, ?_⟩
        dsimp only
        omega
    · exact g1 (by omega)

theorem TwoP.stepq {n i j : Nat} {ps : List Pr} {p q : Pr} (hl : ps.length = n) (hi : ps[i]? = some p) (hq : OneP n q) (h : TwoP i j p q) : TwoP i j p (pStep ps q j) := by
  intro hat
  obtain ⟨h1, h2⟩ := h hat
  refine ⟨fun hlt => (h1 hlt).stepq hl hi hat hq, fun e hjk hq2 => ?_⟩
  by_cases hq3 : q.at_ ≤ 2
  · exact (h2 e hjk hq3).stepq hl hi hat hq
  · obtain ⟨q1, _⟩ := hq
    left
    rcases (by omega : q.at_ = 5 ∨ q.at_ = 3 ∨ q.at_ = 4) with e5 | e5 | e5
    · unfold pStep; simp [e5]
    · exfalso
      unfold pStep at hq2
      rw [if_neg (by omega), if_neg (by omega), if_neg (by omega), if_pos e5] at hq2
      split at hq2
      · dsimp only at hq2; omega
      · split at hq2
        · omega
        · dsimp only at hq2; omega
    · exfalso
      unfold pStep at hq2
      rw [if_neg (by omega), if_neg (by omega), if_neg (by omega), if_neg (by omega), if_pos e5] at hq2
      split at hq2
      · omega
      · dsimp only at hq2; omega

theorem BInv.step {n : Nat} {s : St} (h : BInv n s.1) (k : Nat) : BInv n (stepS s k).1 := by
  unfold stepS
  cases hk : s.1[k]? with
  | none => exact h
  | some p =>
    dsimp only
    have hkl := (List.getElem?_eq_some_iff.1 hk).1
    have get : ∀ i q, (s.1.set k (pStep s.1 p k))[i]? = some q → (i = k ∧ q = pStep s.1 p k) ∨ (i ≠ k ∧ s.1[i]? = some q) := fun i q hq => by
      rw [List.getElem?_set] at hq
      by_cases e : k = i
      · subst e; rw [if_pos rfl, if_pos hkl] at hq; cases hq; exact .inl ⟨rfl, rfl⟩
      · rw [if_neg e] at hq; exact .inr ⟨fun e' => e e'.symm, hq⟩
    refine ⟨by simpa using h.len, fun i q hq => ?_, fun i j a b hij ha hb => ?_⟩
    · rcases get i q hq with ⟨rfl, rfl⟩ | ⟨_, hq⟩
      · exact (h.one _ _ hk).step h.len
      · exact h.one _ _ hq
    · rcases get i a ha with ⟨rfl, rfl⟩ | ⟨hik, ha⟩
      · rcases get j b hb with ⟨rfl, rfl⟩ | ⟨hjk, hb⟩
        · exact absurd rfl hij
        · exact (h.two _ _ _ _ hij hk hb).stepp h.len hij hb (h.one _ _ hk) (h.one _ _ hb)
      · rcases get j b hb with ⟨rfl, rfl⟩ | ⟨hjk, hb⟩
        · exact (h.two i j a p hij (by assumption) hk).stepq h.len (by assumption) (h.one _ _ hk)
        · exact h.two _ _ _ _ hij ha hb
theorem BInv.stepI {n : Nat} {s : St} (h : BInv n s.1) (x : Int) : BInv n (stepI n s x).1 := by
  unfold Ythpbdckiiljegaa.stepI; split
  · exact h
  · exact h.step _
theorem BInv.run {n : Nat} : ∀ (xs : List Int) {s : St}, BInv n s.1 → BInv n (runI n s xs).1
  | [], _, h => h
  | x :: xs, s, h => BInv.run xs (s := Ythpbdckiiljegaa.stepI n s x) (h.stepI x)
theorem BInv.start (n : Nat) : BInv n (s0 n).1 := by
  have key : ∀ i p, (s0 n).1[i]? = some p → p = p0 := fun i p h => by
    have := List.mem_of_getElem? h
    simp [s0] at this; exact this.2
  refine ⟨by simp [s0], fun i p h => ?_, fun i j p q _ h h' => ?_⟩
  · rw [key i p h]; simp [OneP, p0]
  · rw [key i p h]; intro h; simp [p0] at h

/-- at most one is in -/
theorem BInv.excl {n : Nat} {ps : List Pr} (h : BInv n ps) {i j : Nat} {p q : Pr} (hi : ps[i]? = some p) (hj : ps[j]? = some q) (hp : p.at_ = 5) (hq : q.at_ = 5) : i = j := by
  by_cases e : i = j
  · exact e
  exfalso
  have h1 := (h.one _ _ hi).2.2.2.2.2.2.2.2 hp
  have h2 := (h.one _ _ hj).2.2.2.2.2.2.2.2 hq
  have l1 := (List.getElem?_eq_some_iff.1 hi).1
  have l2 := (List.getElem?_eq_some_iff.1 hj).1
  rw [h.len] at l1 l2
  have a := (h.two _ _ _ _ e hi hj (by omega)).1 (by omega)
  have b := (h.two _ _ _ _ (fun e' => e e'.symm) hj hi (by omega)).1 (by omega)
  unfold Ah at a b
  omega

/-- how many are in -/
def inN (ps : List Pr) : Nat := (ps.filter fun p => p.at_ == 5).length
theorem inN_le : ∀ {ps : List Pr}, (∀ (i j : Nat) (p q : Pr), ps[i]? = some p → ps[j]? = some q → p.at_ = 5 → q.at_ = 5 → i = j) → inN ps ≤ 1
  | [], _ => by simp [inN]
  | p :: ps, h => by
    unfold inN
    by_cases e : p.at_ = 5
    · have : ps.filter (fun p => p.at_ == 5) = [] := List.filter_eq_nil_iff.2 fun q hq he => by
        obtain ⟨j, hj⟩ := List.getElem?_of_mem hq
        have := h 0 (j + 1) p q rfl (by simpa using hj) e (by simpa using he)
        omega
      simp [e, this]
    · rw [List.filter_cons_of_neg (by simpa using e)]
      exact inN_le fun i j a b ha hb h1 h2 => by
        have := h (i + 1) (j + 1) a b (by simpa using ha) (by simpa using hb) h1 h2
        omega
theorem BInv.most {n : Nat} {ps : List Pr} (h : BInv n ps) : inN ps ≤ 1 := inN_le fun _ _ _ _ hi hj hp hq => h.excl hi hj hp hq

/-! ### what is done later changes nothing -/
theorem runI_append (n : Nat) (s : St) (xs ys : List Int) : runI n s (xs ++ ys) = runI n (runI n s xs) ys := by simp [runI]
theorem stepI_front (n : Nat) (s : St) (x : Int) : ∃ r, (stepI n s x).2 = s.2 ++ r := by
  unfold stepI
  split
  · exact ⟨[], by simp⟩
  · unfold stepS
    split
    · exact ⟨[], by simp⟩
    · dsimp only; split
      · exact ⟨_, rfl⟩
      · exact ⟨[], by simp⟩
theorem runI_front (n : Nat) : ∀ (xs : List Int) (s : St), ∃ r, (runI n s xs).2 = s.2 ++ r
  | [], s => ⟨[], by simp [runI]⟩
  | x :: xs, s => by
    obtain ⟨r, h⟩ := stepI_front n s x
    obtain ⟨r', h'⟩ := runI_front n xs (stepI n s x)
    exact ⟨r ++ r', by rw [show runI n s (x :: xs) = runI n (stepI n s x) xs from rfl, h', h, List.append_assoc]⟩

/-! ### who has its ticket goes in first -/
/-- i waits, and j is behind it -/
def Wt (i j : Nat) (p q : Pr) : Prop := (p.at_ = 3 ∨ p.at_ = 4) ∧ Ah i j p q ∧ q.at_ ≠ 5 ∧ (q.at_ = 3 ∨ q.at_ = 4 → q.k ≤ i)
/-- i's turn first -/
def Fst (i j : Nat) (r : List Nat) : Prop := j ∉ r ∨ ∃ r0 r1, r = r0 ++ i :: r1 ∧ j ∉ r0
theorem Fst.more {i j : Nat} {r t : List Nat} (h : ∃ r0 r1, r = r0 ++ i :: r1 ∧ j ∉ r0) : Fst i j (r ++ t) := by
  obtain ⟨r0, r1, rfl, h⟩ := h
  exact .inr ⟨r0, r1 ++ t, by simp, h⟩

theorem Wt.step {n i j k : Nat} {s : St} (I : BInv n s.1) (hij : i ≠ j) {p q : Pr} (hi : s.1[i]? = some p) (hj : s.1[j]? = some q) (h : Wt i j p q) :
    ∃ r, (stepS s k).2 = s.2 ++ r ∧ j ∉ r ∧ (i ∈ r ∨ ∃ p' q', (stepS s k).1[i]? = some p' ∧ (stepS s k).1[j]? = some q' ∧ Wt i j p' q') := by
  obtain ⟨hp, hah, hq5, hqk⟩ := h
  have hil := (List.getElem?_eq_some_iff.1 hi).1
  have hjl := (List.getElem?_eq_some_iff.1 hj).1
  unfold stepS
  cases hk : s.1[k]? with
  | none => exact ⟨[], by simp, by simp, .inr ⟨p, q, hi, hj, hp, hah, hq5, hqk⟩⟩
  | some x =>
    dsimp only
    by_cases eki : k = i
    · subst eki
      rw [hk] at hi; cases hi
      cases hg : goesIn s.1 p
      · refine ⟨[], by simp, by simp, .inr ⟨pStep s.1 p k, q, by rw [List.getElem?_set, if_pos rfl, if_pos hil], by rw [List.getElem?_set, if_neg hij]; exact hj, ?_⟩⟩
        have hT : (pStep s.1 p k).tk = p.tk ∧ ((pStep s.1 p k).at_ = 3 ∨ (pStep s.1 p k).at_ = 4) := by
          unfold goesIn at hg
          unfold pStep
          rcases hp with e | e
          · rw [if_neg (by omega), if_neg (by omega), if_neg (by omega), if_pos e]
            simp [e] at hg
            rw [if_neg hg]; split <;> simp [e]
          · rw [if_neg (by omega), if_neg (by omega), if_neg (by omega), if_neg (by omega), if_pos e]
            split <;> simp [e]
        refine ⟨hT.2, ?_, hq5, hqk⟩
        unfold Ah at *; rw [hT.1]; exact hah
      · refine ⟨[k], by simp, by simp; exact fun e => hij e.symm, .inl (by simp)⟩
    · by_cases ekj : k = j
      · subst ekj
        rw [hk] at hj; cases hj
        have o := I.one _ _ hk
        have op := I.one _ _ hi
        have hah' := hah.stepq I.len hi (by omega) o
        have hg : goesIn s.1 q = false := by
          unfold goesIn
          by_cases e : q.at_ = 3
          · have := hqk (.inl e)
            have : q.k ≠ s.1.length := by omega
            simp [this]
          · simp [e]
        rw [hg]
        refine ⟨[], by simp, by simp, .inr ⟨p, pStep s.1 q k, by rw [List.getElem?_set, if_neg eki]; exact hi, by rw [List.getElem?_set, if_pos rfl, if_pos hjl], hp, hah', ?_⟩⟩
        by_cases h3 : 3 ≤ (pStep s.1 q k).at_
        · rcases pStep_at h3 with ⟨e, h1⟩ | ⟨e, ⟨hk', h1⟩ | ⟨hk', hc, h1⟩ | ⟨hk', hc, h1⟩⟩ | ⟨e, ⟨hz, hc, h1⟩ | ⟨hc, h1⟩⟩
          · rw [h1]; simp
          · have := hqk (.inl e); omega
          · rw [h1]; exact ⟨hq5, hqk⟩
          · rw [h1]; simp; exact hqk (.inl e)
          · rw [h1]; exact ⟨hq5, hqk⟩
          · rw [h1]; simp
            have hle := hqk (.inr e)
            by_cases hki : q.k = i
            · exfalso
              have ht : tkOf s.1 q.k = p.tk := by unfold tkOf; rw [hki, hi]
              rw [ht, hki] at hc
              have := op.2.2.2.1 (by omega)
              unfold Ah at hah
              omega
            · omega
        · exact ⟨by omega, by omega⟩
      · refine ⟨if goesIn s.1 x then [k] else [], by split <;> simp, by split <;> simp; exact fun e => ekj e.symm, .inr ⟨p, q, by rw [List.getElem?_set, if_neg eki]; exact hi, by rw [List.getElem?_set, if_neg ekj]; exact hj, hp, hah, hq5, hqk⟩⟩

theorem Wt.run {n i j : Nat} (hij : i ≠ j) : ∀ (xs : List Int) {s : St}, BInv n s.1 → ∀ {p q : Pr}, s.1[i]? = some p → s.1[j]? = some q → Wt i j p q → ∃ r, (runI n s xs).2 = s.2 ++ r ∧ Fst i j r
  | [], s, _, _, _, _, _, _ => ⟨[], by simp [runI], .inl (by simp)⟩
  | x :: xs, s, I, p, q, hi, hj, h => by
    have key : ∃ r, (stepI n s x).2 = s.2 ++ r ∧ j ∉ r ∧ (i ∈ r ∨ ∃ p' q', (stepI n s x).1[i]? = some p' ∧ (stepI n s x).1[j]? = some q' ∧ Wt i j p' q') := by
      unfold stepI
      split
      · exact ⟨[], by simp, by simp, .inr ⟨p, q, hi, hj, h⟩⟩
      · exact h.step I hij hi hj
    obtain ⟨r, h1, h2, h3⟩ := key
    have e : runI n s (x :: xs) = runI n (stepI n s x) xs := rfl
    rw [e]
    rcases h3 with h3 | ⟨p', q', h4, h5, h6⟩
    · obtain ⟨r', h'⟩ := runI_front n xs (stepI n s x)
      refine ⟨r ++ r', by rw [h', h1, List.append_assoc], Fst.more ?_⟩
      obtain ⟨a, b, hab⟩ := List.append_of_mem h3
      exact ⟨a, b, hab, fun hm => h2 (by rw [hab]; simp [hm])⟩
    · obtain ⟨r', h7, h8⟩ := Wt.run hij xs (I.stepI x) h4 h5 h6
      refine ⟨r ++ r', by rw [h7, h1, List.append_assoc], ?_⟩
      rcases h8 with h8 | ⟨a, b, rfl, h8⟩
      · exact .inl (by simp [h2, h8])
      · exact .inr ⟨r ++ a, b, by simp, by simp [h2, h8]⟩

theorem Wt.start {i j : Nat} {p q : Pr} (hp : p.at_ = 3 ∨ p.at_ = 4) (hq : q.at_ = 0) : Wt i j p q := ⟨hp, .inl hq, by omega, by omega⟩

/-! ### one alone -/
/-- how many steps till it goes in -/
def mu (n : Nat) (p : Pr) : Nat :=
  if p.at_ = 5 then 3 * n + 6 else if p.at_ = 0 then 3 * n + 5 else if p.at_ = 1 then (n - p.k) + 2 * n + 4 else if p.at_ = 2 then 2 * n + 3 else if p.at_ = 3 then 2 * (n - p.k) + 1 else 2 * (n - p.k)
def Lone (i : Nat) (ps : List Pr) : Prop := ∀ j q, j ≠ i → ps[j]? = some q → q.at_ = 0
theorem alone_step {n i : Nat} {s : St} (I : BInv n s.1) {p : Pr} (hi : s.1[i]? = some p) (h : Lone i s.1) :
    ((stepS s i).2 = s.2 ++ [i]) ∨ ((stepS s i).2 = s.2 ∧ ∃ p', (stepS s i).1[i]? = some p' ∧ Lone i (stepS s i).1 ∧ mu n p' + 1 ≤ mu n p) := by
  have hil := (List.getElem?_eq_some_iff.1 hi).1
  have o := I.one _ _ hi
  unfold stepS
  simp only [hi]
  cases hg : goesIn s.1 p
  · right
    refine ⟨by simp, pStep s.1 p i, by rw [List.getElem?_set, if_pos rfl, if_pos hil], fun j q hj hq => ?_, ?_⟩
    · rw [List.getElem?_set, if_neg (fun e => hj e.symm)] at hq; exact h j q hj hq
    · obtain ⟨h1, h2, h3, h4, h5, h6, h7, h8, h9⟩ := o
      have hl := I.len
      rcases (by omega : p.at_ = 0 ∨ p.at_ = 1 ∨ p.at_ = 2 ∨ p.at_ = 3 ∨ p.at_ = 4 ∨ p.at_ = 5) with e | e | e | e | e | e
      · unfold pStep mu; simp [e]; omega
      · have := h5 e
        unfold pStep lookF
        rw [if_neg (by omega), if_pos e]
        unfold mu
        split
        · first | (simp [e]; done) | (simp [e]; omega)
        · first | (simp [e]; done) | (simp [e]; omega)
      · unfold pStep mu; simp [e]
      · unfold goesIn at hg
        simp [e] at hg
        have hc : chOf s.1 p.k = false := by
          unfold chOf
          cases hq : s.1[p.k]? with
          | none => rfl
          | some q =>
            dsimp only
            have oq := I.one _ _ hq
            have : q.at_ ≠ 1 ∧ q.at_ ≠ 2 := by
              by_cases ek : p.k = i
              · rw [ek, hi] at hq; cases hq; omega
              · have := h _ _ ek hq; omega
            cases hqc : q.ch
            · rfl
            · have := oq.2.2.1.1 hqc; omega
        unfold pStep
        rw [if_neg (by omega), if_neg (by omega), if_neg (by omega), if_pos e, if_neg hg, hc]
        have := h7 e
        unfold mu; simp [e]
      · have hc : ¬ (tkOf s.1 p.k ≠ 0 ∧ (tkOf s.1 p.k < p.tk ∨ tkOf s.1 p.k = p.tk ∧ p.k < i)) := by
          unfold tkOf
          cases hq : s.1[p.k]? with
          | none => simp
          | some q =>
            dsimp only
            by_cases ek : p.k = i
            · rw [ek, hi] at hq; cases hq; omega
            · have h0 := h _ _ ek hq
              have := (I.one _ _ hq).2.1 (by omega)
              omega
        have := h8 e
        unfold pStep
        rw [if_neg (by omega), if_neg (by omega), if_neg (by omega), if_neg (by omega), if_pos e, if_neg hc]
        unfold mu; simp [e]; omega
      · unfold pStep mu; simp [e]
  · left; simp

theorem alone_run {n i : Nat} (hin : i < n) : ∀ (N : Nat) {s : St}, BInv n s.1 → ∀ {p : Pr}, s.1[i]? = some p → Lone i s.1 → mu n p ≤ N → ∃ r, (runI n s (List.replicate N (i : Int))).2 = s.2 ++ i :: r
  | 0, s, I, p, hi, h, hmu => by
    exfalso
    have o := I.one _ _ hi
    unfold mu at hmu
    obtain ⟨h1, h2, h3, h4, h5, h6, h7, h8, h9⟩ := o
    repeat' split at hmu
    all_goals omega
  | N + 1, s, I, p, hi, h, hmu => by
    have e : runI n s (List.replicate (N + 1) (i : Int)) = runI n (stepS s i) (List.replicate N (i : Int)) := by
      rw [List.replicate_succ]
      show runI n (stepI n s (i : Int)) _ = _
      unfold stepI
      rw [if_neg (by omega)]; rfl
    rw [e]
    rcases alone_step I hi h with h1 | ⟨h1, p', h2, h3, h4⟩
    · obtain ⟨r, hr⟩ := runI_front n (List.replicate N (i : Int)) (stepS s i)
      exact ⟨r, by rw [hr, h1]; simp⟩
    · obtain ⟨r, hr⟩ := alone_run hin N (I.step i) h2 h3 (by omega)
      exact ⟨r, by rw [hr, h1]⟩
theorem mu_le {n : Nat} {p : Pr} (h : OneP n p) : mu n p ≤ 3 * n + 6 := by
  obtain ⟨h1, h2, h3, h4, h5, h6, h7, h8, h9⟩ := h
  unfold mu
  repeat' split
  all_goals omega

end Go.Proofs.Ythpbdckiiljegaa
