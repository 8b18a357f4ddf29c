/- What a script leads to: done just if nobody works and nothing is on its way. Plain words, no program. -/
import Derived.Test.YtgnpngiecnkfiaaM1
namespace Go.Proofs.Ytgnpngiecnkfiaa
open Go.RowKit
set_option linter.unusedVariables false
set_option linter.unusedSimpArgs false

theorem does_same {s : QS} {k : Int} {i j : Sm} (h : (doesQ s k i j).1 ≠ 0) : (doesQ s k i j).2 = s := by
  unfold doesQ at h ⊢
  cases hx : s.ps[i.val]? with
  | none => rfl
  | some x =>
    rw [hx] at h
    dsimp only at h ⊢
    repeat' split
    all_goals first
      | rfl
      | (exfalso; apply h; simp [*])
theorem does_prc (s : QS) (k : Int) (i j : Sm) {a : Nat} (h : a ≠ i.val) : prc (doesQ s k i j).2 a = prc s a := by
  unfold doesQ
  cases hx : s.ps[i.val]? with
  | none => rfl
  | some x =>
    obtain ⟨ps, ca, an, dn⟩ := s
    dsimp only at hx ⊢
    repeat' split
    all_goals first
      | rfl
      | (rw [prc_set (ca' := ca) (an' := an) (dn' := dn) hx, if_neg h])
theorem settle_prc (s : QS) (i : Sm) {a : Nat} (h : a ≠ i.val) : prc (settleQ s i) a = prc s a := by
  unfold settleQ
  cases hx : s.ps[i.val]? with
  | none => rfl
  | some x =>
    obtain ⟨ps, ca, an, dn⟩ := s
    dsimp only at hx ⊢
    repeat' split
    all_goals first
      | rfl
      | (rw [prc_set (ca' := ca) (an' := an) (dn' := dn) hx, if_neg h])
theorem settle_self (s : QS) (i : Sm) (hb : (prc (settleQ s i) i.val).bound = true) : (prc (settleQ s i) i.val).works = true ∨ 0 < (prc (settleQ s i) i.val).owes := by
  unfold settleQ at hb ⊢
  cases hx : s.ps[i.val]? with
  | none => rw [hx] at hb; dsimp only at hb; unfold prc at hb; rw [hx] at hb; cases hb
  | some x =>
    rw [hx] at hb
    have ex := prc_of hx
    obtain ⟨ps, ca, an, dn⟩ := s
    dsimp only at hx hb ⊢
    split
    · rename_i h
      rw [if_pos h, ex] at hb
      rw [ex]
      rcases h with h | h | h
      · rw [h] at hb; cases hb
      · exact .inl h
      · exact .inr h
    · rename_i h
      rw [if_neg h] at hb
      exfalso
      split at hb <;> (rw [prc_set (ca' := ca) (an' := an) (dn' := dn) hx, if_pos rfl] at hb; cases hb)
theorem Stl.step {n : Nat} {s : QS} (h : Stl s) (c : Cm) : Stl (stepQ n s c).2 := by
  unfold stepQ
  split
  · exact h
  · split
    · exact h
    · dsimp only
      split
      · refine ⟨fun a hb => ?_⟩
        by_cases e : a.val = (smI c.who).val
        · rw [e] at hb ⊢; exact settle_self _ _ hb
        · rw [settle_prc _ _ e, does_prc _ _ _ _ e] at hb ⊢; exact h.st a hb
      · rename_i hc
        rw [does_same hc]; exact h
theorem Tr.step {n : Nat} {s : QS} (T : Tr s) (c : Cm) : Tr (stepQ n s c).2 := by
  unfold stepQ
  split
  · exact T
  · split
    · exact T
    · dsimp only
      split
      · exact (T.does _ _ _).settle _
      · exact T.does _ _ _
theorem qs0_prc {n i : Nat} (h : 1 ≤ n) : (i = 0 → prc (qs0 n) i = ⟨true, true, none, 0⟩) ∧ (i ≠ 0 → (prc (qs0 n) i).works = false ∧ (prc (qs0 n) i).bound = false ∧ (prc (qs0 n) i).owes = 0) := by
  unfold prc qs0
  dsimp only
  rw [List.getElem?_set]
  refine ⟨fun e => ?_, fun e => ?_⟩
  · subst e; rw [if_pos rfl, if_pos (by simp; omega)]; rfl
  · rw [if_neg fun h => e h.symm]
    rw [List.getElem?_replicate]
    split <;> exact ⟨rfl, rfl, rfl⟩
theorem Tr.zero {n : Nat} (h : 1 ≤ n) : Tr (qs0 n) := by
  have h0 := (qs0_prc (i := 0) h).1 rfl
  have hz : ∀ {i : Nat}, i ≠ 0 → _ := fun {i} e => (qs0_prc (n := n) (i := i) h).2 e
  have ht : ∀ a q : Sm, tok (qs0 n) a q = 0 := fun a q => by
    unfold tok chd
    rw [if_neg]
    · rfl
    · rintro ⟨h1, h2⟩
      by_cases e : q.val = 0
      · rw [e, h0] at h2; cases h2
      · rw [(hz e).2.1] at h1; cases h1
  refine ⟨fun i => ?_, fun i hw => ?_, fun i hb => ?_, ⟨fun _ => 0, 0, fun _ => Nat.le_refl _, fun i p h1 h2 => ?_⟩, fun i h1 h2 => ?_, fun _ => by rw [h0], by rw [h0]; exact ⟨fun h => (by cases h), fun h => (by cases h)⟩⟩
  · rw [SS_zero (ht i)]
    by_cases e : i.val = 0
    · rw [e, h0]; rfl
    · rw [(hz e).2.2]; rfl
  · by_cases e : i.val = 0
    · rw [e, h0]
    · rw [(hz e).1] at hw; cases hw
  · by_cases e : i.val = 0
    · rw [e, h0]
    · exact (hz e).2.2
  · by_cases e : i.val = 0
    · rw [e, h0] at h2; cases h2
    · rw [(hz e).2.1] at h1; cases h1
  · by_cases e : i.val = 0
    · exact e
    · rw [(hz e).2.1] at h1; cases h1
theorem Stl.zero {n : Nat} (h : 1 ≤ n) : Stl (qs0 n) := ⟨fun i hb => by
  by_cases e : i.val = 0
  · rw [e, (qs0_prc (i := 0) h).1 rfl]; exact .inl rfl
  · rw [((qs0_prc (i := i.val) h).2 e).2.1] at hb; cases hb⟩
def NdQ (s : QS) : Prop := s.ca.Pairwise (fun p q => p.1 ≠ q.1) ∧ s.an.Pairwise (fun p q => p.1 ≠ q.1)
theorem NdQ.zero (n : Nat) : NdQ (qs0 n) := ⟨List.Pairwise.nil, List.Pairwise.nil⟩
theorem NdQ.does {s : QS} (h : NdQ s) (k : Int) (i j : Sm) : NdQ (doesQ s k i j).2 := by
  unfold doesQ
  cases hx : s.ps[i.val]? with
  | none => exact h
  | some x =>
    dsimp only
    repeat' split
    all_goals first
      | exact h
      | exact ⟨putM_nodup _ _ h.1, h.2⟩
      | exact ⟨putM_nodup _ _ h.1, putM_nodup _ _ h.2⟩
      | exact ⟨h.1, putM_nodup _ _ h.2⟩
theorem NdQ.settle {s : QS} (h : NdQ s) (i : Sm) : NdQ (settleQ s i) := by
  unfold settleQ
  cases hx : s.ps[i.val]? with
  | none => exact h
  | some x =>
    dsimp only
    repeat' split
    all_goals first
      | exact h
      | exact ⟨h.1, putM_nodup _ _ h.2⟩
theorem NdQ.step {n : Nat} {s : QS} (h : NdQ s) (c : Cm) : NdQ (stepQ n s c).2 := by
  unfold stepQ
  split
  · exact h
  · split
    · exact h
    · dsimp only
      split
      · exact (h.does _ _ _).settle _
      · exact h.does _ _ _
theorem Tr.run {n : Nat} : ∀ (l : List Cm) {s : QS}, Tr s → Tr (stQ n s l)
  | [], _, h => h
  | c :: l, _, h => Tr.run l (h.step c)
theorem Stl.run {n : Nat} : ∀ (l : List Cm) {s : QS}, Stl s → Stl (stQ n s l)
  | [], _, h => h
  | c :: l, _, h => Stl.run l (h.step c)
theorem NdQ.run {n : Nat} : ∀ (l : List Cm) {s : QS}, NdQ s → NdQ (stQ n s l)
  | [], _, h => h
  | c :: l, _, h => NdQ.run l (h.step c)

theorem le_sumM {l : Cn} {p : (Sm × Sm) × Nat} (h : p ∈ l) : p.2 ≤ sumM l := by
  induction l with
  | nil => cases h
  | cons q l ih =>
    rw [sumM]
    rcases List.mem_cons.1 h with e | h
    · subst e; omega
    · have := ih h; omega
theorem cnt_le_sumM (l : Cn) (k : Sm × Sm) : cnt l k ≤ sumM l := by
  unfold cnt
  cases h : getM l k with
  | none => exact Nat.zero_le _
  | some x => exact le_sumM (getM_some h)
theorem sumM_zero {l : Cn} (hn : l.Pairwise (fun p q => p.1 ≠ q.1)) (h : ∀ k, cnt l k = 0) : sumM l = 0 := by
  have := sumM_le (m := 0) (l := l) fun p hp => by
    have := h p.1
    unfold cnt at this
    rw [getM_of hn (show (p.1, p.2) ∈ l from hp)] at this
    exact Nat.le_of_eq this
  omega
theorem sumM_put (k : Sm × Sm) (x : Nat) : ∀ l : Cn, sumM (putM l k x) + cnt l k = sumM l + x
  | [] => by simp [putM, sumM, cnt, getM]
  | (b, y) :: l => by
    have ih := sumM_put k x l
    unfold cnt at ih ⊢
    by_cases e : b = k
    · subst e
      simp only [putM, getM, if_true, sumM, Option.getD_some]; omega
    · simp only [putM, getM, if_neg e, sumM]; omega

-- done: nobody works, nobody is bound, nothing is on its way
theorem quiet_rest {s : QS} (T : Tr s) (N : NdQ s) (h : s.dn = true) : awQ s 2 = 0 ∧ sumM s.ca = 0 := by
  have h1 := (T.rest h).2
  have h2 := sumM_zero N.1 fun k => (h1 k.1 k.2).1
  have h3 := sumM_zero N.2 fun k => (h1 k.1 k.2).2
  exact ⟨by simp only [awQ]; omega, h2⟩
-- nobody works, and nothing is on its way: done
theorem quiet_tells {s : QS} (T : Tr s) (S : Stl s) (hw : ∀ i : Sm, (prc s i.val).works = false) (ha : awQ s 2 = 0) : s.dn = true := by
  simp only [awQ] at ha
  obtain ⟨r, K, hK, hr⟩ := T.rk
  have key : ∀ m, ∀ i : Sm, K - r i ≤ m → (prc s i.val).bound = false := by
    intro m
    induction m with
    | zero =>
      intro i hi
      cases hb : (prc s i.val).bound with
      | false => rfl
      | true =>
        exfalso
        rcases S.st i hb with h | h
        · rw [hw i] at h; cases h
        · have h1 := T.ow i
          obtain ⟨j, hj⟩ := SS_pos (f := tok s i) (by omega)
          have h2 := cnt_le_sumM s.ca (i, j)
          have h3 := cnt_le_sumM s.an (j, i)
          unfold tok chd at hj
          by_cases hc : (prc s j.val).bound = true ∧ (prc s j.val).to = some i
          · have := hr j i hc.1 hc.2
            have := hK j
            omega
          · rw [if_neg hc] at hj; omega
    | succ m ih =>
      intro i hi
      cases hb : (prc s i.val).bound with
      | false => rfl
      | true =>
        exfalso
        rcases S.st i hb with h | h
        · rw [hw i] at h; cases h
        · have h1 := T.ow i
          obtain ⟨j, hj⟩ := SS_pos (f := tok s i) (by omega)
          have h2 := cnt_le_sumM s.ca (i, j)
          have h3 := cnt_le_sumM s.an (j, i)
          unfold tok chd at hj
          by_cases hc : (prc s j.val).bound = true ∧ (prc s j.val).to = some i
          · have h4 := hr j i hc.1 hc.2
            have h5 := hK j
            have := ih j (by omega)
            rw [hc.1] at this; cases this
          · rw [if_neg hc] at hj; omega
  exact T.dn.2 (key _ (smN 0) (Nat.le_refl _))
-- when done, nothing changes any more
theorem does_dead {s : QS} (T : Tr s) (h : s.dn = true) (k : Int) {i j : Sm} (hi : i.val < s.ps.length) : (doesQ s k i j).1 ≠ 0 := by
  obtain ⟨h1, h2⟩ := T.rest h
  unfold doesQ
  obtain ⟨x, hx⟩ : ∃ x, s.ps[i.val]? = some x := ⟨_, List.getElem?_eq_getElem hi⟩
  have h3 := (h1 i).2
  rw [prc_of hx] at h3
  rw [hx]
  dsimp only
  rw [h3, (h2 j i).1, (h2 j i).2]
  simp only [Bool.false_eq_true, if_false, if_true]
  repeat' split
  all_goals (dsimp only; omega)
theorem smI_lt {n : Nat} {x : Int} (h6 : n ≤ 6) (h : isB n x = true) : (smI x).val < n := by
  unfold isB at h
  have := of_decide_eq_true h
  unfold smI; dsimp only; omega
theorem step_dead {n : Nat} {s : QS} (T : Tr s) (h : s.dn = true) (hl : s.ps.length = n) (h6 : n ≤ 6) (c : Cm) : (stepQ n s c).1 ≠ 0 ∧ (stepQ n s c).2 = s := by
  unfold stepQ
  split
  · exact ⟨by dsimp only; decide, rfl⟩
  · split
    · exact ⟨by dsimp only; decide, rfl⟩
    · rename_i h1 h2
      have hb : isB n c.who = true := by
        cases e : isB n c.who with
        | true => rfl
        | false => exact absurd (.inl e) h2
      have hd := does_dead T h c.kind (i := smI c.who) (j := smI c.other) (by rw [hl]; exact smI_lt h6 hb)
      exact ⟨hd, by dsimp only; rw [if_neg hd]; exact does_same hd⟩
theorem run_dead {n : Nat} (h6 : n ≤ 6) : ∀ (l : List Cm) {s : QS}, Tr s → s.dn = true → s.ps.length = n → stQ n s l = s ∧ ∀ x ∈ codesQ n s l, x ≠ 0
  | [], s, T, h, hl => ⟨rfl, fun x hx => by cases hx⟩
  | c :: l, s, T, h, hl => by
    have h1 := step_dead T h hl h6 c
    rw [stQ, codesQ, h1.2]
    have h2 := run_dead h6 l T h hl
    refine ⟨h2.1, fun x hx => ?_⟩
    rcases List.mem_cons.1 hx with e | hx
    · rw [e]; exact h1.1
    · exact h2.2 x hx
-- the calls that nobody took
def dC (k x : Int) : Int := (if x = 0 ∧ k = 1 then 1 else 0) - (if x = 0 ∧ k = 2 then 1 else 0)
def nC : List Cm → List Int → Int
  | c :: cs, x :: xs => dC c.kind x + nC cs xs
  | _, _ => 0
theorem settle_ca (s : QS) (i : Sm) : (settleQ s i).ca = s.ca := by
  unfold settleQ
  cases s.ps[i.val]? with
  | none => rfl
  | some x =>
    dsimp only
    repeat' split
    all_goals rfl
theorem dC_ne {k x : Int} (h : x ≠ 0) : dC k x = 0 := by unfold dC; rw [if_neg (fun e => h e.1), if_neg (fun e => h e.1)]; rfl
theorem dC_other {k : Int} (x : Int) (h1 : k ≠ 1) (h2 : k ≠ 2) : dC k x = 0 := by unfold dC; rw [if_neg (fun e => h1 e.2), if_neg (fun e => h2 e.2)]; rfl
theorem does_ca {s : QS} (k : Int) {i j : Sm} (hi : i.val < s.ps.length) : (sumM (doesQ s k i j).2.ca : Int) = sumM s.ca + dC k (doesQ s k i j).1 := by
  unfold doesQ
  obtain ⟨x, hx⟩ : ∃ x, s.ps[i.val]? = some x := ⟨_, List.getElem?_eq_getElem hi⟩
  rw [hx]
  dsimp only
  by_cases k1 : k = 1
  · subst k1
    rw [if_pos rfl]
    cases hw : x.works with
    | true =>
      have := sumM_put (i, j) (cnt s.ca (i, j) + 1) s.ca
      rw [if_pos rfl]
      dsimp only
      rw [show dC 1 0 = 1 from rfl]
      unfold inc
      omega
    | false => rw [if_neg (by decide)]; dsimp only; rw [dC_ne (by decide)]; omega
  · rw [if_neg k1]
    by_cases k3 : k = 3
    · subst k3
      rw [if_pos rfl]
      cases hw : x.works
      · rw [if_neg (by decide)]; dsimp only; rw [dC_ne (by decide)]; omega
      · rw [if_pos rfl]; dsimp only; rw [dC_other _ (by decide) (by decide)]; omega
    · rw [if_neg k3]
      by_cases k2 : k = 2
      · subst k2
        rw [if_pos rfl]
        by_cases hc : cnt s.ca (j, i) = 0
        · rw [if_pos hc]; dsimp only; rw [dC_ne (by decide)]; omega
        · rw [if_neg hc]
          have := sumM_put (j, i) (cnt s.ca (j, i) - 1) s.ca
          cases hb : x.bound
          · rw [if_neg (by decide)]; dsimp only; rw [show dC 2 0 = -1 from rfl]; unfold dec; omega
          · rw [if_pos rfl]; dsimp only; rw [show dC 2 0 = -1 from rfl]; unfold dec; omega
      · rw [if_neg k2]
        split <;> (dsimp only; rw [dC_other _ k1 k2]; omega)
theorem step_ca {n : Nat} {s : QS} (hl : s.ps.length = n) (h6 : n ≤ 6) (c : Cm) : (sumM (stepQ n s c).2.ca : Int) = sumM s.ca + dC c.kind (stepQ n s c).1 := by
  unfold stepQ
  split
  · dsimp only; rw [dC_ne (by decide)]; omega
  · split
    · dsimp only; rw [dC_ne (by decide)]; omega
    · rename_i h1 h2
      have hb : isB n c.who = true := by
        cases e : isB n c.who with
        | true => rfl
        | false => exact absurd (.inl e) h2
      have hd := does_ca (s := s) c.kind (i := smI c.who) (j := smI c.other) (by rw [hl]; exact smI_lt h6 hb)
      dsimp only
      rw [← hd]
      split
      · rw [settle_ca]
      · rfl
theorem run_ca {n : Nat} (h6 : n ≤ 6) : ∀ (l : List Cm) {s : QS}, s.ps.length = n → (sumM (stQ n s l).ca : Int) = sumM s.ca + nC l (codesQ n s l)
  | [], s, hl => by simp [stQ, nC]
  | c :: l, s, hl => by
    have h1 := step_ca hl h6 c
    have h2 := run_ca h6 l (s := (stepQ n s c).2) (by rw [stepQ_len]; exact hl)
    rw [stQ, codesQ, nC, h2, h1]; omega
theorem nC_app : ∀ {l l' : List Cm} {x x' : List Int}, l.length = x.length → nC (l ++ l') (x ++ x') = nC l x + nC l' x'
  | [], l', [], x', h => by simp [nC]
  | c :: l, l', y :: x, x', h => by
    have := nC_app (l := l) (l' := l') (x := x) (x' := x') (by simpa using h)
    simp only [List.cons_append, nC, this]; omega
  | [], _, _ :: _, _, h => by cases h
  | _ :: _, _, [], _, h => by cases h
end Go.Proofs.Ytgnpngiecnkfiaa
