/- What is always so of the copies and ops. In plain words. No condition. -/
import Derived.Test.YtjiefamdpbnngaaA3
namespace Go.Proofs.Ytjiefamdpbnngaa
open Go.RowKit
set_option linter.unusedVariables false
set_option linter.unusedSimpArgs false
set_option maxRecDepth 100000

structure InvR (n m : Nat) (s : RS) : Prop where
  len : s.cs.length = n
  nlen : s.now.length = 4
  cnt : s.ops.length ≤ m
  now : ∀ (c k : Nat), s.now[c]? = some (some k) → ∃ o, s.ops[k]? = some o ∧ o.who = c ∧ o.to < 0
  live : ∀ (k : Nat) (o : Oq), s.ops[k]? = some o → o.to < 0 → s.now[o.who]? = some (some k) ∧ o.many = cp (fun i => decide (i ∈ o.seen)) n ∧ 2 * o.many ≤ n
  old : ∀ (k : Nat) (o : Oq), s.ops[k]? = some o → o.who < 4 ∧ o.to < m ∧ -1 ≤ o.to ∧ o.frm < m ∧ o.best.n ≤ m ∧ o.many ≤ n ∧ (∀ i ∈ o.seen, i < n)
  cs : ∀ (i : Nat) (c : Sd), s.cs[i]? = some c → c.n ≤ m
theorem InvR.zero (n : Nat) : InvR n 0 (rs0 n) := by
  refine ⟨by simp [rs0], by simp [rs0], by simp [rs0], fun c k h => ?_, fun k o h => by simp [rs0] at h, fun k o h => by simp [rs0] at h, fun i c h => ?_⟩
  · simp only [rs0, List.getElem?_replicate] at h; split at h <;> cases h
  · simp only [rs0, List.getElem?_replicate] at h; split at h
    · cases h; exact Nat.le_refl _
    · cases h
theorem InvR.wait {n m : Nat} {s : RS} (h : InvR n m s) : InvR n (m + 1) s :=
  ⟨h.len, h.nlen, Nat.le_succ_of_le h.cnt, h.now, h.live, fun k o ho => by obtain ⟨h1, h2, h3, h4, h5, h6⟩ := h.old k o ho; exact ⟨h1, by omega, h3, by omega, by omega, h6⟩, fun i c hc => Nat.le_succ_of_le (h.cs i c hc)⟩
theorem getD_now {s : RS} {c k : Nat} (h : s.now.getD c none = some k) : s.now[c]? = some (some k) := by
  rw [List.getD_eq_getElem?_getD] at h
  cases e : s.now[c]? with
  | none => rw [e] at h; cases h
  | some x => rw [e] at h; simp at h; rw [h]
theorem store_get {cs : List Sd} {i j : Nat} {s c : Sd} (h : (storeR cs i s)[j]? = some c) : cs[j]? = some c ∨ (j = i ∧ c = s) := by
  unfold storeR at h
  split at h
  · split at h
    · by_cases e : i = j
      · subst e
        rw [List.getElem?_set_self (by have := List.getElem?_eq_some_iff.1 ‹cs[i]? = some _›; exact this.1)] at h
        cases h; exact .inr ⟨rfl, rfl⟩
      · rw [List.getElem?_set_ne e] at h; exact .inl h
    · exact .inl h
  · exact .inl h
theorem InvR.store {n m : Nat} {s : RS} (h : InvR n m s) (i : Nat) (x : Sd) (hx : x.n ≤ m) : InvR n m ⟨storeR s.cs i x, s.ops, s.now⟩ :=
  ⟨by rw [storeR_len]; exact h.len, h.nlen, h.cnt, h.now, h.live, h.old, fun j c hc => by
    rcases store_get hc with h1 | ⟨_, rfl⟩
    · exact h.cs j c h1
    · exact hx⟩
theorem InvR.begin {n m c : Nat} {s : RS} {wr : Bool} {val : Int} (h : InvR n m s) (hc : c < 4) : InvR n (m + 1) (beginR s c wr val m).2 := by
  unfold beginR
  split
  · exact h.wait
  · rename_i hn
    have hnow : ∀ k, s.now[c]? = some (some k) → False := fun k hk => by
      rw [List.getD_eq_getElem?_getD, hk] at hn; cases hn
    dsimp only
    refine ⟨h.len, by rw [List.length_set]; exact h.nlen, by rw [List.length_append]; have := h.cnt; simp; omega, fun c' k hk => ?_, fun k o ho hto => ?_, fun k o ho => ?_, fun i c hc => Nat.le_succ_of_le (h.cs i c hc)⟩
    · by_cases e : c = c'
      · subst e
        rw [List.getElem?_set_self (by rw [h.nlen]; exact hc)] at hk
        cases hk
        exact ⟨newO c wr val m, by rw [List.getElem?_append_right (Nat.le_refl _), Nat.sub_self]; rfl, rfl, by show (-1 : Int) < 0; decide⟩
      · rw [List.getElem?_set_ne e] at hk
        obtain ⟨o, ho, h1, h2⟩ := h.now c' k hk
        exact ⟨o, by rw [List.getElem?_append_left (List.getElem?_eq_some_iff.1 ho).1]; exact ho, h1, h2⟩
    · rcases Nat.lt_or_ge k s.ops.length with hk | hk
      · rw [List.getElem?_append_left hk] at ho
        obtain ⟨h1, h2, h3⟩ := h.live k o ho hto
        have : c ≠ o.who := fun e => hnow k (by rw [e]; exact h1)
        exact ⟨by rw [List.getElem?_set_ne this]; exact h1, h2, h3⟩
      · rw [List.getElem?_append_right hk] at ho
        have hkl := (List.getElem?_eq_some_iff.1 ho).1
        simp at hkl
        have e : k = s.ops.length := by omega
        subst e
        rw [Nat.sub_self] at ho
        simp at ho; subst ho
        refine ⟨by unfold newO; dsimp only; rw [List.getElem?_set_self (by rw [h.nlen]; exact hc)], ?_, by unfold newO; simp⟩
        unfold newO; dsimp only
        rw [cp_none fun i _ => by simp]
    · rcases Nat.lt_or_ge k s.ops.length with hk | hk
      · rw [List.getElem?_append_left hk] at ho
        obtain ⟨h1, h2, h3, h4, h5, h6⟩ := h.old k o ho
        exact ⟨h1, by omega, h3, by omega, by omega, h6⟩
      · rw [List.getElem?_append_right hk] at ho
        have hkl := (List.getElem?_eq_some_iff.1 ho).1
        simp at hkl
        rw [show k - s.ops.length = 0 by omega] at ho
        simp at ho; subst ho
        unfold newO sd0
        exact ⟨hc, by simp; omega, by simp, by simp, by simp, by simp, fun i hi => by simp at hi⟩
theorem best_le {n m : Nat} {s : RS} (h : InvR n m s) {o : Oq} (hb : o.best.n ≤ m) (i : Nat) : (seeR s.cs i o).best.n ≤ m := by
  unfold seeR; dsimp only
  split
  · exact hb
  · split
    · rename_i c hc; split
      · exact h.cs i c hc
      · exact hb
    · exact hb
theorem InvR.reach {n m c i : Nat} {s : RS} (h : InvR n m s) (h1n : 1 ≤ n) (hi : i < n) : InvR n (m + 1) (reachR s c i m).2 := by
  unfold reachR
  split
  · exact h.wait
  · rename_i k hk
    have hk := getD_now hk
    obtain ⟨o, ho, hw, hto⟩ := h.now c k hk
    rw [ho]
    dsimp only
    obtain ⟨h1, h2, h3, h4, h5, h6, h7⟩ := h.old k o ho
    obtain ⟨h8, h9, h10⟩ := h.live k o ho hto
    have hkl := (List.getElem?_eq_some_iff.1 ho).1
    split
    · exact h.wait
    · rename_i hs
      have hcp : cp (fun j => decide (j ∈ o.seen ++ [i])) n = o.many + 1 := by
        rw [h9]
        refine cp_add hi (by simpa using hs) fun j => ?_
        by_cases e : i = j
        · subst e; simp
        · simp [e, Ne.symm e]
      have hbl := best_le h (o := o) h5 i
      have hcs : (if o.sec = true then storeR s.cs i o.best else s.cs).length = n := by split; rw [storeR_len]; exact h.len; exact h.len
      have hcv : ∀ (j : Nat) (x : Sd), (if o.sec = true then storeR s.cs i o.best else s.cs)[j]? = some x → x.n ≤ m + 1 := fun j x hx => by
        split at hx
        · rcases store_get hx with q | ⟨_, rfl⟩
          · have := h.cs j x q; omega
          · omega
        · have := h.cs j x hx; omega
      have hseen : ∀ j ∈ o.seen ++ [i], j < n := fun j hj => by
        rcases List.mem_append.1 hj with q | q
        · exact h7 j q
        · simp at q; omega
      have hset : ∀ (o' : Oq) (k' : Nat) (x : Oq), (s.ops.set k o')[k']? = some x → (k' = k ∧ x = o') ∨ (k' ≠ k ∧ s.ops[k']? = some x) := fun o' k' x hx => by
        by_cases e : k = k'
        · subst e; rw [List.getElem?_set_self hkl] at hx; cases hx; exact .inl ⟨rfl, rfl⟩
        · rw [List.getElem?_set_ne e] at hx; exact .inr ⟨Ne.symm e, hx⟩
      split
      · rename_i ht
        rw [h.len] at ht
        refine ⟨hcs, h.nlen, by rw [List.length_set]; exact Nat.le_succ_of_le h.cnt, fun c' k' hk' => ?_, fun k' x hx hxt => ?_, fun k' x hx => ?_, hcv⟩
        · obtain ⟨o', ho', e1, e2⟩ := h.now c' k' hk'
          by_cases e : k = k'
          · subst e
            cases ho.symm.trans ho'
            exact ⟨_, List.getElem?_set_self hkl, e1, e2⟩
          · exact ⟨o', by rw [List.getElem?_set_ne e]; exact ho', e1, e2⟩
        · rcases hset _ _ _ hx with ⟨rfl, rfl⟩ | ⟨hne, hx⟩
          · exact ⟨h8, hcp.symm, ht⟩
          · exact h.live k' x hx hxt
        · rcases hset _ _ _ hx with ⟨rfl, rfl⟩ | ⟨hne, hx⟩
          · exact ⟨h1, by show o.to < _; omega, h3, by show o.frm < _; omega, by omega, by show o.many + 1 ≤ n; omega, hseen⟩
          · obtain ⟨g1, g2, g3, g4, g5, g6⟩ := h.old k' x hx
            exact ⟨g1, by omega, g3, by omega, by omega, g6⟩
      · rename_i ht
        by_cases hsec : o.sec = true
        · rw [if_pos hsec, if_pos hsec]
          rw [if_pos hsec] at hcs hcv
          have hT : turnO (seeR s.cs i o) m = { (seeR s.cs i o) with to := (m : Int), val := if o.wr then o.val else (seeR s.cs i o).best.val } := by
            unfold turnO; rw [if_pos (show (seeR s.cs i o).sec = true from hsec)]; rfl
          refine ⟨hcs, by rw [List.length_set]; exact h.nlen, by rw [List.length_set]; exact Nat.le_succ_of_le h.cnt, fun c' k' hk' => ?_, fun k' x hx hxt => ?_, fun k' x hx => ?_, hcv⟩
          · have hc' : o.who ≠ c' := fun e => by
              subst e; rw [List.getElem?_set_self (by rw [h.nlen]; exact h1)] at hk'; cases hk'
            rw [List.getElem?_set_ne hc'] at hk'
            obtain ⟨o', ho', e1, e2⟩ := h.now c' k' hk'
            have : k ≠ k' := fun e => by subst e; cases ho.symm.trans ho'; exact hc' e1
            exact ⟨o', by rw [List.getElem?_set_ne this]; exact ho', e1, e2⟩
          · rcases hset _ _ _ hx with ⟨rfl, rfl⟩ | ⟨hne, hx⟩
            · rw [hT] at hxt; simp at hxt; omega
            · obtain ⟨g1, g2, g3⟩ := h.live k' x hx hxt
              refine ⟨?_, g2, g3⟩
              by_cases e : o.who = x.who
              · rw [e] at h8; rw [h8] at g1; cases g1; exact absurd rfl hne
              · rw [List.getElem?_set_ne e]; exact g1
          · rcases hset _ _ _ hx with ⟨rfl, rfl⟩ | ⟨hne, hx⟩
            · rw [hT]
              exact ⟨h1, by show (m : Int) < _; omega, by show (-1 : Int) ≤ (m : Int); omega, by show o.frm < _; omega, by show (seeR s.cs i o).best.n ≤ _; omega, by show o.many + 1 ≤ n; omega, hseen⟩
            · obtain ⟨g1, g2, g3, g4, g5, g6⟩ := h.old k' x hx
              exact ⟨g1, by omega, g3, by omega, by omega, g6⟩
        · rw [if_neg hsec, if_neg hsec]
          rw [if_neg hsec] at hcs hcv
          have hT : turnO (seeR s.cs i o) m = { (seeR s.cs i o) with sec := true, seen := [], many := 0, best := if o.wr then ⟨(seeR s.cs i o).best.n + 1, o.who, o.val⟩ else (seeR s.cs i o).best } := by
            unfold turnO; rw [if_neg (show ¬ (seeR s.cs i o).sec = true from hsec)]; rfl
          refine ⟨hcs, h.nlen, by rw [List.length_set]; exact Nat.le_succ_of_le h.cnt, fun c' k' hk' => ?_, fun k' x hx hxt => ?_, fun k' x hx => ?_, hcv⟩
          · obtain ⟨o', ho', e1, e2⟩ := h.now c' k' hk'
            by_cases e : k = k'
            · subst e
              cases ho.symm.trans ho'
              exact ⟨_, List.getElem?_set_self hkl, by rw [hT]; exact e1, by rw [hT]; exact e2⟩
            · exact ⟨o', by rw [List.getElem?_set_ne e]; exact ho', e1, e2⟩
          · rcases hset _ _ _ hx with ⟨rfl, rfl⟩ | ⟨hne, hx⟩
            · rw [hT]
              refine ⟨h8, ?_, Nat.zero_le _⟩
              show 0 = _
              rw [cp_none fun i _ => by simp]
            · exact h.live k' x hx hxt
          · rcases hset _ _ _ hx with ⟨rfl, rfl⟩ | ⟨hne, hx⟩
            · rw [hT]
              refine ⟨h1, by show o.to < _; omega, h3, by show o.frm < _; omega, ?_, Nat.zero_le _, fun j hj => by simp at hj⟩
              show (if o.wr = true then (⟨(seeR s.cs i o).best.n + 1, o.who, o.val⟩ : Sd) else (seeR s.cs i o).best).n ≤ m + 1
              split
              · show (seeR s.cs i o).best.n + 1 ≤ m + 1; omega
              · omega
            · obtain ⟨g1, g2, g3, g4, g5, g6⟩ := h.old k' x hx
              exact ⟨g1, by omega, g3, by omega, by omega, g6⟩
theorem InvR.late {n m i : Nat} {k : Int} {s : RS} (h : InvR n m s) : InvR n (m + 1) (lateR s i k).2 := by
  unfold lateR
  split
  · exact h.wait
  · split
    · exact h.wait
    · rename_i o ho
      split
      · exact (h.store i o.best (h.old _ o ho).2.2.2.2.1).wait
      · exact h.wait
theorem InvR.step {n m : Nat} {s : RS} (h : InvR n m s) (h1 : 1 ≤ n) (c : Cl) : InvR n (m + 1) (stepR s c m).2 := by
  unfold stepR
  split
  · exact h.wait
  · split
    · exact h.wait
    · rename_i hk ha
      rw [h.len] at ha
      split
      · exact h.begin (by omega)
      · split
        · exact h.reach h1 (by omega)
        · exact h.late
theorem InvR.run {n : Nat} (h1 : 1 ≤ n) : ∀ (l : List Cl) {m : Nat} {s : RS}, InvR n m s → InvR n (m + l.length) (stR s m l)
  | [], m, s, h => h
  | c :: l, m, s, h => by
    have := InvR.run h1 l (h.step h1 c)
    rw [show m + (c :: l).length = m + 1 + l.length by simp; omega]; exact this
end Go.Proofs.Ytjiefamdpbnngaa
