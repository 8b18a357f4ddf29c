/- When all has come. Plain words. No condition. -/
import Derived.Test.YteejbaindbiimaaM2
namespace Go.Proofs.Yteejbaindbiimaa
open Go.RowKit
set_option linter.unusedVariables false
set_option linter.unusedSimpArgs false
set_option maxRecDepth 100000

theorem flt_lt {f g : Nat → Bool} : ∀ {l : List Nat} {a : Nat}, a ∈ l → (∀ x, f x = true → g x = true) → g a = true → f a = false → (l.filter f).length < (l.filter g).length
  | [], a, h, _, _, _ => by cases h
  | c :: l, a, h, hi, hg, hf => by
    have hle : (l.filter f).length ≤ (l.filter g).length := by
      clear h
      induction l with
      | nil => simp
      | cons d l ih =>
        by_cases q : f d = true
        · rw [List.filter_cons_of_pos q, List.filter_cons_of_pos (hi d q)]; simp only [List.length_cons]; omega
        · rw [List.filter_cons_of_neg q]
          by_cases q2 : g d = true
          · rw [List.filter_cons_of_pos q2]; simp only [List.length_cons]; omega
          · rw [List.filter_cons_of_neg q2]; exact ih
    rcases List.mem_cons.1 h with e | e
    · subst e
      rw [List.filter_cons_of_pos hg, List.filter_cons_of_neg (by rw [hf]; decide)]
      simp only [List.length_cons]; omega
    · have := flt_lt e hi hg hf
      by_cases q : f c = true
      · rw [List.filter_cons_of_pos q, List.filter_cons_of_pos (hi c q)]; simp only [List.length_cons]; omega
      · rw [List.filter_cons_of_neg q]
        by_cases q2 : g c = true
        · rw [List.filter_cons_of_pos q2]; simp only [List.length_cons]; omega
        · rw [List.filter_cons_of_neg q2]; exact this
/-- all is quiet, some name was sent: one is chosen -/
theorem InvR.quiet {names : List Int} {s : RS} {h : Nat → Nat} {l : Nat → Bool} (I : InvR names s h l noEx) (hq : sumQ s.ss = 0) (hs : 1 ≤ s.sent) : s.ch ≠ [] := by
  intro hch
  have hq0 : ∀ (j : Nat) (x : Se), s.ss[j]? = some x → x.q = [] := fun j x hx => by
    have := sumQ_up (f := fun x => { x with q := [] }) hx
    simp only [List.length_nil] at this
    exact List.eq_nil_of_length_eq_zero (by omega)
  have hl : ∀ o, o < names.length → l o = false := fun o ho => by
    cases e : l o with
    | false => rfl
    | true =>
      have hj : (o + h o) % names.length < s.ss.length := by rw [I.len]; exact Nat.mod_lt _ (by omega)
      obtain ⟨x, hx⟩ := get_of_lt hj
      have := (I.mem _ x hx (nmI names o)).2 ⟨o, ho, rfl, e, rfl⟩
      rw [hq0 _ x hx] at this; cases this
  have hex : ∃ o, o < names.length ∧ 1 ≤ h o := by
    have hsm := I.sm
    have : ∀ n, 1 ≤ sumN h n → ∃ o, o < n ∧ 1 ≤ h o := by
      intro n
      induction n with
      | zero => intro q; simp [sumN] at q
      | succ n ih =>
        intro q
        simp only [sumN] at q
        rcases Nat.eq_zero_or_pos (h n) with c | c
        · obtain ⟨o, h1, h2⟩ := ih (by omega)
          exact ⟨o, by omega, h2⟩
        · exact ⟨n, by omega, c⟩
    exact this _ (by omega)
  have grow : ∀ k, ∃ o, o < names.length ∧ 1 ≤ h o ∧ k ≤ lowN names names.length o := by
    intro k
    induction k with
    | zero => obtain ⟨o, h1, h2⟩ := hex; exact ⟨o, h1, h2, Nat.zero_le _⟩
    | succ k ih =>
      obtain ⟨o, h1, h2, h3⟩ := ih
      rcases I.al o h1 h2 (fun q => q) with q | q | ⟨o', q1, q2, q3⟩
      · rw [hl o h1] at q; cases q
      · rw [hch] at q; cases q
      · refine ⟨o', q1, q2, ?_⟩
        have := flt_lt (f := lowB names o) (g := lowB names o') (List.mem_range.2 h1) (fun x hx => by
          unfold lowB at hx ⊢
          have := of_decide_eq_true hx
          exact decide_eq_true (by omega)) (decide_eq_true q3) (decide_eq_false (by omega))
        unfold lowN at h3 ⊢; omega
  obtain ⟨o, h1, h2, h3⟩ := grow (names.length + 1)
  have : lowN names names.length o ≤ names.length := Nat.le_trans (List.length_filter_le ..) (by simp)
  omega
def Dle (s s' : RS) (d : Nat) : Prop := s.sent + sumQ s'.ss + d ≤ s'.sent + sumQ s.ss
theorem Dle.refl (s : RS) : Dle s s 0 := Nat.le_refl _
theorem Dle.trans {a b c : RS} {d e : Nat} (h : Dle a b d) (h' : Dle b c e) : Dle a c (d + e) := by unfold Dle at *; omega
theorem Dle.step (s : RS) (c : Mv) : Dle s (stepR s c).2 0 := by
  unfold Dle
  rcases step_away s c with q | ⟨_, _, _, _, q⟩ <;> omega
theorem Dle.run : ∀ (cs : List Mv) (s : RS), Dle s (stR s cs) 0
  | [], s => Dle.refl s
  | c :: cs, s => (Dle.step s c).trans (Dle.run cs _)
def mv (kind i : Nat) : Mv := ⟨kind, i⟩
theorem isN_nat {n x : Nat} : isN n (x : Int) = decide (x < n) := by
  unfold isN
  by_cases h : x < n
  · rw [decide_eq_true (by omega), decide_eq_true h]
  · rw [decide_eq_false (by omega), decide_eq_false h]
theorem step_take {s : RS} {i : Nat} (hi : i < s.ss.length) : stepR s (mv 2 i) = takeR s i := by
  unfold stepR mv
  dsimp only
  rw [if_neg (by omega), isN_nat, decide_eq_true hi, if_neg (by decide), if_pos (by decide)]
  rfl
theorem take_some {s : RS} {i : Nat} {x : Se} (hx : s.ss[i]? = some x) (hq : x.q ≠ []) : Dle s (stepR s (mv 2 i)).2 1 := by
  have hi := (List.getElem?_eq_some_iff.1 hx).1
  obtain ⟨a, lq, hqe⟩ : ∃ a lq, x.q = a :: lq := by
    match e : x.q with
    | [] => exact absurd e hq
    | a :: lq => exact ⟨a, lq, rfl⟩
  rw [step_take hi]
  unfold takeR
  rw [hx]
  dsimp only
  rw [hqe]
  dsimp only
  have h1 := sumQ_up (f := fun x => { x with q := lq }) hx
  rw [hqe] at h1
  simp only [List.length_cons] at h1
  unfold Dle
  split
  · rw [sumQ_send (by dsimp only; rw [upS_len]; exact hi)]; show _ ≤ s.sent + 1 + _; first | omega | (dsimp only; omega)
  split
  · first | omega | (dsimp only; omega)
  split
  · rw [sumQ_send (by dsimp only; rw [upS_len]; exact hi)]; show _ ≤ s.sent + 1 + _; first | omega | (dsimp only; omega)
  · first | omega | (dsimp only; omega)
theorem take_none {s : RS} {i : Nat} (hi : i < s.ss.length) (h0 : sumQ s.ss = 0) : (stepR s (mv 2 i)).2 = s := by
  obtain ⟨x, hx⟩ := get_of_lt hi
  have := sumQ_up (f := fun x => { x with q := [] }) hx
  simp only [List.length_nil] at this
  have hq : x.q = [] := List.eq_nil_of_length_eq_zero (by omega)
  rw [step_take hi]
  unfold takeR
  rw [hx]; dsimp only; rw [hq]
theorem upS_fwd {l : List Se} {i j : Nat} {f : Se → Se} {x : Se} (h : l[j]? = some x) : (upS l i f)[j]? = some (if j = i then f x else x) := by
  unfold upS
  by_cases c : j = i
  · subst c
    rw [h, if_pos rfl]; exact List.getElem?_set_self (List.getElem?_eq_some_iff.1 h).1
  · rw [if_neg c]
    split
    · rw [List.getElem?_set_ne (Ne.symm c)]; exact h
    · exact h
/-- another one's take leaves what waits -/
theorem keep {s : RS} {i j : Nat} {x : Se} (hi : i < s.ss.length) (hne : j ≠ i) (hx : s.ss[j]? = some x) (hq : x.q ≠ []) : ∃ y, (stepR s (mv 2 i)).2.ss[j]? = some y ∧ y.q ≠ [] := by
  have hsend : ∀ (s1 : RS) (z : Se) (k : Nat) (a : Int), s1.ss[j]? = some z → z.q ≠ [] → ∃ y, (sendR s1 k a).ss[j]? = some y ∧ y.q ≠ [] := fun s1 z k a hz hzq => by
    refine ⟨_, upS_fwd (upS_fwd hz), ?_⟩
    by_cases c1 : j = k
    · by_cases c2 : j = (k + 1) % s1.ss.length
      · simp only [if_pos c1, if_pos c2]; simp
      · simp only [if_pos c1, if_neg c2]; exact hzq
    · by_cases c2 : j = (k + 1) % s1.ss.length
      · simp only [if_neg c1, if_pos c2]; simp
      · simp only [if_neg c1, if_neg c2]; exact hzq
  rw [step_take hi]
  unfold takeR
  split
  · exact ⟨x, hx, hq⟩
  rename_i z hz
  split
  · exact ⟨x, hx, hq⟩
  rename_i a lq hqe
  have h1 : (upS s.ss i fun x => { x with q := lq })[j]? = some x := by rw [upS_fwd hx, if_neg hne]
  split
  · exact hsend _ x _ _ h1 hq
  split
  · exact ⟨x, h1, hq⟩
  split
  · exact hsend _ x _ _ h1 hq
  · exact ⟨x, h1, hq⟩
def rowR (k : Nat) : List Mv := (List.range k).map fun i => mv 2 i
theorem rowR_succ (k : Nat) : rowR (k + 1) = rowR k ++ [mv 2 k] := by unfold rowR; rw [List.range_succ, List.map_append]; rfl
theorem rowR_len (k : Nat) : (rowR k).length = k := by simp [rowR]
theorem row_keep {s : RS} {j : Nat} {x : Se} (hx : s.ss[j]? = some x) (hq : x.q ≠ []) : ∀ k, k ≤ j → ∃ y, (stR s (rowR k)).ss[j]? = some y ∧ y.q ≠ []
  | 0, _ => ⟨x, hx, hq⟩
  | k + 1, hk => by
    obtain ⟨y, h1, h2⟩ := row_keep hx hq k (by omega)
    have hj := (List.getElem?_eq_some_iff.1 h1).1
    rw [rowR_succ, stR_app]
    exact keep (by omega) (by omega) h1 h2
theorem row_prog {s : RS} {j : Nat} {x : Se} (hx : s.ss[j]? = some x) (hq : x.q ≠ []) : ∀ k, j < k → Dle s (stR s (rowR k)) 1
  | 0, h => absurd h (Nat.not_lt_zero _)
  | k + 1, h => by
    rw [rowR_succ, stR_app]
    rcases Nat.lt_or_eq_of_le (Nat.le_of_lt_succ h) with c | c
    · exact (row_prog hx hq k c).trans (Dle.run _ _)
    · subst c
      obtain ⟨y, h1, h2⟩ := row_keep hx hq j (Nat.le_refl _)
      exact (Dle.run _ s).trans (take_some h1 h2)
theorem row_none {s : RS} (h0 : sumQ s.ss = 0) : ∀ k, k ≤ s.ss.length → stR s (rowR k) = s
  | 0, _ => rfl
  | k + 1, hk => by
    rw [rowR_succ, stR_app, row_none h0 k (by omega)]
    exact take_none (by omega) h0
def rowsR (n : Nat) : Nat → List Mv
  | 0 => []
  | k + 1 => rowsR n k ++ rowR n
theorem rowsR_len (n : Nat) : ∀ k, (rowsR n k).length = n * k
  | 0 => by simp [rowsR]
  | k + 1 => by simp only [rowsR, List.length_append, rowR_len, rowsR_len n k]; rw [Nat.mul_succ]
theorem rows_prog {s : RS} : ∀ k, sumQ (stR s (rowsR s.ss.length k)).ss = 0 ∨ Dle s (stR s (rowsR s.ss.length k)) k
  | 0 => .inr (Dle.refl s)
  | k + 1 => by
    have ih := rows_prog (s := s) k
    simp only [rowsR]
    rw [stR_app]
    obtain ⟨z, hz⟩ : ∃ z, z = stR s (rowsR s.ss.length k) := ⟨_, rfl⟩
    have hzl : z.ss.length = s.ss.length := by rw [hz, stR_len]
    rw [← hz] at ih ⊢
    by_cases h0 : sumQ z.ss = 0
    · left; rw [row_none h0 _ (by omega)]; exact h0
    · right
      have hd := ih.resolve_left h0
      have : ∃ (j : Nat) (x : Se), z.ss[j]? = some x ∧ x.q ≠ [] := by
        have key : ∀ (l : List Se), sumQ l ≠ 0 → ∃ (j : Nat) (x : Se), l[j]? = some x ∧ x.q ≠ [] := by
          intro l
          induction l with
          | nil => intro h; exact absurd rfl h
          | cons c l ih =>
            intro h
            by_cases q : c.q = []
            · obtain ⟨j, x, h1, h2⟩ := ih (by simp only [sumQ, List.map_cons, List.sum_cons, q, List.length_nil, Nat.zero_add] at h ⊢; exact h)
              exact ⟨j + 1, x, by simpa using h1, h2⟩
            · exact ⟨0, c, rfl, q⟩
        exact key _ h0
      obtain ⟨j, x, hx, hq⟩ := this
      exact hd.trans (row_prog hx hq _ (by have := (List.getElem?_eq_some_iff.1 hx).1; omega))
/-- the whole: nothing is on its way, one is chosen -/
theorem ends_run {names : List Int} {cs : List Mv} (hn : 1 ≤ names.length) (hnd : names.Nodup) (K : Nat) (hK : K = names.length * (names.length + 1) / 2) : sumQ (stR (rs0 names) (cs ++ [mv 1 0] ++ rowsR names.length K)).ss = 0 ∧ ∃ c, (stR (rs0 names) (cs ++ [mv 1 0] ++ rowsR names.length K)).ch = [c] ∧ c < names.length ∧ ∀ k, k < names.length → k ≠ c → nmI names k < nmI names c := by
  have D := Dist.of hnd
  obtain ⟨h1, l1, I1⟩ := InvR.run D cs (InvR.zero names)
  obtain ⟨h2, l2, I2⟩ := InvR.run D (cs ++ [mv 1 0]) (InvR.zero names)
  obtain ⟨h3, l3, I3⟩ := InvR.run D (cs ++ [mv 1 0] ++ rowsR names.length K) (InvR.zero names)
  have hsent : 1 ≤ (stR (rs0 names) (cs ++ [mv 1 0])).sent := by
    rw [stR_app]
    obtain ⟨x, hx⟩ : ∃ x, (stR (rs0 names) cs).ss[0]? = some x := get_of_lt (by rw [I1.len]; omega)
    show 1 ≤ (stepR _ (mv 1 0)).2.sent
    unfold stepR mv
    dsimp only
    rw [if_neg (by omega), isN_nat, decide_eq_true (by rw [I1.len]; omega), if_neg (by decide), if_neg (by decide)]
    dsimp only [Int.toNat_natCast]
    rw [hx]
    dsimp only
    by_cases hp : x.pt = true
    · rw [if_pos hp]
      obtain ⟨o, q1, q2, _⟩ := I1.pg 0 x hx hp
      have : ∀ n, o < n → 1 ≤ sumN h1 n := by
        intro n
        induction n with
        | zero => intro q; omega
        | succ n ih =>
          intro q
          simp only [sumN]
          rcases Nat.lt_or_eq_of_le (Nat.le_of_lt_succ q) with c | c
          · have := ih c; omega
          · subst c; omega
      have := this _ q1
      rw [I1.sm]; exact this
    · rw [if_neg hp]; exact Nat.succ_le_succ (Nat.zero_le _)
  have hq : sumQ (stR (rs0 names) (cs ++ [mv 1 0] ++ rowsR names.length K)).ss = 0 := by
    rw [stR_app] at I3 ⊢
    have hl := I2.len
    obtain ⟨s, hs⟩ : ∃ s, s = stR (rs0 names) (cs ++ [mv 1 0]) := ⟨_, rfl⟩
    have haw := away_le (cs ++ [mv 1 0]) (s := rs0 names) (by rw [sumQ_zero]; exact Nat.zero_le _)
    rw [← hs] at I3 hl haw hsent ⊢
    have := rows_prog (s := s) K
    rw [hl] at this
    rcases this with q | q
    · exact q
    · have hf := I3.few
      unfold Dle at q
      omega
  refine ⟨hq, ?_⟩
  have hs3 : 1 ≤ (stR (rs0 names) (cs ++ [mv 1 0] ++ rowsR names.length K)).sent := by
    rw [stR_app]; exact Nat.le_trans hsent (LeR.run _ _).sent
  have hne := I3.quiet hq hs3
  rcases I3.one with e | ⟨c, e⟩
  · exact absurd e hne
  · obtain ⟨g1, g2⟩ := I3.great (c := c) (by rw [e]; simp)
    exact ⟨c, e, g1, g2⟩
end Go.Proofs.Yteejbaindbiimaa
