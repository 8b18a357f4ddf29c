/- Bounds. Plain words. No condition. -/
import Derived.Test.YtbfcfekpfgpfbaaA2
namespace Go.Proofs.Ytbfcfekpfgpfbaa
open Go.RowKit
set_option linter.unusedVariables false
set_option linter.unusedSimpArgs false
set_option maxRecDepth 100000

def pend1 (p : Pr) : Nat := (if p.ec = true then 0 else 1) + (if p.rd = true then 0 else 1)
def pendP (ps : List Pr) : Nat := (ps.map pend1).sum
theorem pendP_set : ∀ {ps : List Pr} {i : Nat} {p q : Pr}, ps[i]? = some p → pendP (ps.set i q) + pend1 p = pendP ps + pend1 q
  | [], i, p, q, h => by simp at h
  | c :: l, 0, p, q, h => by simp at h; subst h; simp [pendP]; omega
  | c :: l, i + 1, p, q, h => by
    have := pendP_set (ps := l) (i := i) (p := p) (q := q) (by simpa using h)
    simp only [pendP, List.set_cons_succ, List.map_cons, List.sum_cons] at this ⊢; omega
/-- what a message that counts does to a process -/
theorem gotB_spec (c : Cf) (p : Pr) (m : Mg) : (gotB c p m).1.hl = putM p.hl (smN m.frm, smN m.what) m.n ∧ pend1 (gotB c p m).1 + (if (gotB c p m).2 = 0 then 0 else 1) = pend1 p ∧ ((gotB c p m).2 ≤ 3) ∧ (p.has = true → (gotB c p m).1.has = true ∧ (gotB c p m).1.val = p.val) := by
  unfold gotB
  split
  · split
    · rename_i h1 h2
      refine ⟨rfl, ?_, by dsimp only; omega, fun h => ⟨h, rfl⟩⟩
      unfold pend1; rw [h2.2]; simp only [if_true, if_false]; simp; omega
    · exact ⟨rfl, rfl, by dsimp only; omega, fun h => ⟨h, rfl⟩⟩
  · split
    · split
      · rename_i h1 h2 h3
        split
        · rename_i h4
          refine ⟨rfl, ?_, by dsimp only; omega, fun h => by rw [h4.2] at h; cases h⟩
          unfold pend1; rw [h3.2]; simp
        · refine ⟨rfl, ?_, by dsimp only; omega, fun h => ⟨h, rfl⟩⟩
          unfold pend1; rw [h3.2]; simp
      · split
        · rename_i h4
          exact ⟨rfl, rfl, by dsimp only; omega, fun h => by rw [h4.2] at h; cases h⟩
        · exact ⟨rfl, rfl, by dsimp only; omega, fun h => ⟨h, rfl⟩⟩
    · split
      · rename_i h1 h2 h3
        refine ⟨rfl, ?_, by dsimp only; omega, fun h => ⟨h, rfl⟩⟩
        unfold pend1; rw [h3.2]; simp
      · exact ⟨rfl, rfl, by dsimp only; omega, fun h => ⟨h, rfl⟩⟩
def cameN (all : List Mg) : Nat := (all.filter fun m => m.come).length
theorem cameN_le (all : List Mg) : cameN all ≤ all.length := List.length_filter_le ..
theorem cameN_set : ∀ {all : List Mg} {i : Nat} {m : Mg}, all[i]? = some m → m.come = false → cameN (all.set i { m with come := true }) = cameN all + 1
  | [], i, m, h, _ => by simp at h
  | c :: l, 0, m, h, hc => by simp at h; subst h; simp [cameN, List.filter_cons, hc]
  | c :: l, i + 1, m, h, hc => by
    have := cameN_set (all := l) (i := i) (by simpa using h) hc
    simp only [cameN, List.set_cons_succ, List.filter_cons] at this ⊢
    split <;> (try simp only [List.length_cons]) <;> omega
theorem cameN_app (a b : List Mg) (h : ∀ m ∈ b, m.come = false) : cameN (a ++ b) = cameN a := by
  unfold cameN
  have e : b.filter (fun m => m.come) = [] := List.filter_eq_nil_iff.2 fun m hm => by rw [h m hm]; decide
  rw [List.filter_append, e, List.append_nil]
def pot (c : Cf) (s : BS) : Nat := s.all.length + c.n * pendP s.ps + (if s.st = true then 0 else c.n)
structure BdB (T : Nat) (c : Cf) (s : BS) : Prop where
  len : s.ps.length = c.n
  msg : ∀ m ∈ s.all, m.to < c.n ∧ m.frm < c.n ∧ 1 ≤ m.what ∧ m.what ≤ 3
  hl : ∀ p ∈ s.ps, p.hl.length ≤ cameN s.all
  pot : pot c s ≤ T
theorem newM_mem {i w k : Nat} {x : Int} {m : Mg} (h : m ∈ newM i w x k) : m.frm = i ∧ m.to < k ∧ m.what = w ∧ m.n = x ∧ m.come = false := by
  obtain ⟨j, hj, rfl⟩ := List.mem_map.1 h
  exact ⟨rfl, List.mem_range.1 hj, rfl, rfl, rfl⟩
theorem newM_len (i w : Nat) (x : Int) (k : Nat) : (newM i w x k).length = k := by simp [newM]
theorem BdB.all_le {T : Nat} {c : Cf} {s : BS} (h : BdB T c s) : s.all.length ≤ T := by have := h.pot; unfold Go.Proofs.Ytbfcfekpfgpfbaa.pot at this; omega
theorem BdB.mono {T T' : Nat} {c : Cf} {s : BS} (h : BdB T c s) (ht : T ≤ T') : BdB T' c s := ⟨h.len, h.msg, h.hl, Nat.le_trans h.pot ht⟩
theorem BdB.cam {T at_ : Nat} {c : Cf} {s : BS} {m : Mg} (h : BdB T c s) (hm : s.all[at_]? = some m) (hc : m.come = false) : BdB T c ⟨s.all.set at_ { m with come := true }, s.ps, s.st⟩ ∧ (∀ p ∈ s.ps, p.hl.length + 1 ≤ cameN (s.all.set at_ { m with come := true })) := by
  have h1 := cameN_set hm hc
  refine ⟨⟨h.len, fun z hz => ?_, fun p hp => ?_, ?_⟩, fun p hp => ?_⟩
  · rcases List.mem_or_eq_of_mem_set hz with q | rfl
    · exact h.msg z q
    · exact h.msg m (List.mem_of_getElem? hm)
  · have := h.hl p hp; dsimp only; omega
  · have := h.pot; unfold Go.Proofs.Ytbfcfekpfgpfbaa.pot at this ⊢; dsimp only; rw [List.length_set]; exact this
  · have := h.hl p hp; omega
theorem BdB.come {T at_ : Nat} {c : Cf} {s : BS} {m : Mg} (h : BdB T c s) (hm : s.all[at_]? = some m) (hc : m.come = false) : BdB T c (comeB c s at_) := by
  obtain ⟨h1, h2⟩ := h.cam hm hc
  have hms := h.msg m (List.mem_of_getElem? hm)
  have hcam : cameB s at_ = ⟨s.all.set at_ { m with come := true }, s.ps, s.st⟩ := by unfold cameB; rw [hm]
  unfold comeB
  rw [hm]
  dsimp only
  rw [hcam]
  split
  · exact h1
  rename_i p hp
  split
  · exact h1
  obtain ⟨g1, g2, g3, g4⟩ := gotB_spec c p m
  have hset := pendP_set (q := (gotB c p m).1) hp
  have hhl : ∀ q ∈ s.ps.set m.to (gotB c p m).1, q.hl.length ≤ cameN (s.all.set at_ { m with come := true }) := fun q hq => by
    rcases List.mem_or_eq_of_mem_set hq with q1 | rfl
    · have := h2 q q1; omega
    · rw [g1, putM_length]
      have := h2 p (List.mem_of_getElem? hp)
      split <;> omega
  have hp1 := h1.pot
  unfold Go.Proofs.Ytbfcfekpfgpfbaa.pot at hp1
  dsimp only at hp1
  split
  · rename_i hk
    rw [if_pos hk] at g2
    refine ⟨by dsimp only; rw [List.length_set]; exact h.len, h1.msg, hhl, ?_⟩
    unfold Go.Proofs.Ytbfcfekpfgpfbaa.pot; dsimp only
    rw [show pendP (s.ps.set m.to (gotB c p m).1) = pendP s.ps from by omega]; exact hp1
  · rename_i hk
    rw [if_neg hk] at g2
    have hl9 : (s.ps.set m.to (gotB c p m).1).length = c.n := by rw [List.length_set]; exact h.len
    refine ⟨hl9, fun z hz => ?_, fun q hq => ?_, ?_⟩
    · rcases List.mem_append.1 hz with q | q
      · exact h1.msg z q
      · obtain ⟨q1, q2, q3, q4, q5⟩ := newM_mem q
        rw [hl9] at q2
        exact ⟨q2, by rw [q1]; exact hms.1, by omega, by omega⟩
    · show q.hl.length ≤ cameN (_ ++ _)
      rw [cameN_app _ _ fun z hz => (newM_mem hz).2.2.2.2]
      exact hhl q hq
    · show (s.all.set at_ { m with come := true } ++ newM m.to (gotB c p m).2 m.n (s.ps.set m.to (gotB c p m).1).length).length + c.n * pendP (s.ps.set m.to (gotB c p m).1) + (if s.st = true then 0 else c.n) ≤ T
      rw [List.length_append, newM_len, hl9]
      have h5 : pendP s.ps = pendP (s.ps.set m.to (gotB c p m).1) + 1 := by omega
      rw [h5, Nat.mul_add, Nat.mul_one] at hp1
      omega
theorem BdB.run_all {T : Nat} {c : Cf} : ∀ (k : Nat) {s : BS} (at_ : Nat), BdB T c s → BdB T c (allB c k s at_)
  | 0, s, at_, h => h
  | k + 1, s, at_, h => by
    unfold allB
    split
    · exact h
    · rename_i m hm
      split
      · exact BdB.run_all k _ h
      · rename_i hc
        exact BdB.run_all k _ (h.come hm (by simpa using hc))
theorem BdB.send {T i w : Nat} {x : Int} {c : Cf} {s : BS} (h : BdB T c s) (hi : i < c.n) (hw : 1 ≤ w ∧ w ≤ 3) (hs : s.st = false) : BdB T c (sendB ⟨s.all, s.ps, true⟩ i w x) := by
  have hp := h.pot
  unfold Go.Proofs.Ytbfcfekpfgpfbaa.pot at hp
  rw [hs] at hp
  refine ⟨h.len, fun z hz => ?_, fun q hq => ?_, ?_⟩
  · rcases List.mem_append.1 hz with q | q
    · exact h.msg z q
    · obtain ⟨q1, q2, q3, q4, q5⟩ := newM_mem q
      dsimp only at q2
      rw [h.len] at q2
      exact ⟨q2, by rw [q1]; exact hi, by omega, by omega⟩
  · show q.hl.length ≤ cameN (_ ++ _)
    rw [cameN_app _ _ fun z hz => (newM_mem hz).2.2.2.2]
    exact h.hl q hq
  · show (s.all ++ newM i w x s.ps.length).length + c.n * pendP s.ps + (if (true : Bool) = true then 0 else c.n) ≤ T
    rw [List.length_append, newM_len]
    rw [h.len]
    rw [if_neg (by decide)] at hp
    rw [if_pos rfl]
    omega
theorem isN_false {n : Nat} {x : Int} (h : ¬ isN n x = false) : 0 ≤ x ∧ x.toNat < n := by
  simp only [isN, Bool.not_eq_false, decide_eq_true_eq] at h; omega
theorem BdB.step {T : Nat} {c : Cf} {s : BS} (x : Mv) (h : BdB T c s) (hs : c.snd < c.n) : BdB (T + (if x.kind = 2 ∧ (stepB c s x).1 = 0 then 1 else 0)) c (stepB c s x).2 := by
  unfold stepB
  split
  · rename_i hk
    rw [if_neg (fun q => by omega)]
    split
    · exact h
    · rename_i hb
      exact h.send hs (by decide) (by cases e : s.st with | false => rfl | true => exact absurd (.inl e) hb)
  split
  · rename_i hk
    split
    · rw [if_neg (fun q => by cases q.2)]; exact h
    split
    · rw [if_neg (fun q => by cases q.2)]; exact h
    · rename_i h1 h2
      rw [if_pos ⟨hk, rfl⟩]
      obtain ⟨a1, a2⟩ := isN_false (fun q => h1 (.inl q))
      obtain ⟨b1, b2⟩ := isN_false (fun q => h1 (.inr (.inr q)))
      have hp := h.pot
      unfold Go.Proofs.Ytbfcfekpfgpfbaa.pot at hp
      refine ⟨h.len, fun z hz => ?_, fun q hq => ?_, ?_⟩
      · rcases List.mem_append.1 hz with q | q
        · exact h.msg z q
        · rw [List.mem_singleton] at q; subst q
          exact ⟨b2, a2, by dsimp only; omega, by dsimp only; omega⟩
      · show q.hl.length ≤ cameN (_ ++ _)
        rw [cameN_app _ _ fun z hz => by rw [List.mem_singleton] at hz; subst hz; rfl]
        exact h.hl q hq
      · show (_ ++ _ : List Mg).length + _ + _ ≤ T + 1
        rw [List.length_append, List.length_singleton]; dsimp only; omega
  split
  · rename_i hk
    rw [if_neg (fun q => by omega)]
    split
    · exact h
    split
    · exact h
    · rename_i m hm
      split
      · exact h
      · rename_i hc
        exact h.come hm (by simpa using hc)
  split
  · rename_i hk
    rw [if_neg (fun q => by omega)]
    exact h.run_all 2000 0
  · rename_i hk
    exact h.mono (Nat.le_add_right _ _)
theorem BdB.zero (c : Cf) : BdB (c.n * (2 * c.n) + c.n) c (bs0 c.n) := by
  refine ⟨by simp [bs0], fun m hm => (by cases hm), fun p hp => (by rw [List.eq_of_mem_replicate hp]; exact Nat.zero_le _), ?_⟩
  have : ∀ k, pendP (List.replicate k ⟨[], false, false, false, 0⟩) = 2 * k := fun k => by
    induction k with
    | zero => rfl
    | succ k ih => simp only [List.replicate_succ, pendP, List.map_cons, List.sum_cons] at ih ⊢; rw [ih]; simp [pend1]; omega
  unfold Go.Proofs.Ytbfcfekpfgpfbaa.pot bs0
  dsimp only
  rw [this]; simp
theorem codes_at {c : Cf} : ∀ {cs : List Mv} {s : BS} {i : Nat} {x : Mv}, cs[i]? = some x → (codesB c s cs)[i]? = some (stepB c (stB c s (cs.take i)) x).1
  | [], s, i, x, h => by simp at h
  | a :: l, s, 0, x, h => by simp at h; subst h; simp [codesB, stB]
  | a :: l, s, i + 1, x, h => by
    have := codes_at (c := c) (cs := l) (s := (stepB c s a).2) (i := i) (x := x) (by simpa using h)
    simp only [codesB, List.getElem?_cons_succ, List.take_succ_cons, stB]; exact this
def hitB (b : Mv → Int → Bool) (cs : List Mv) (ks : List Int) : Nat → Nat
  | 0 => 0
  | i + 1 => hitB b cs ks i + match cs[i]?, ks[i]? with
    | some c, some k => if b c k then 1 else 0
    | _, _ => 0
def forgB (x : Mv) (k : Int) : Bool := decide (x.kind = 2 ∧ k = 0)
theorem hitB_succ {b : Mv → Int → Bool} {cs : List Mv} {ks : List Int} {i : Nat} {c : Mv} {k : Int} (h1 : cs[i]? = some c) (h2 : ks[i]? = some k) : hitB b cs ks (i + 1) = hitB b cs ks i + if b c k then 1 else 0 := by
  simp only [hitB, h1, h2]
theorem hitB_le (b : Mv → Int → Bool) (cs : List Mv) (ks : List Int) : ∀ i, hitB b cs ks i ≤ i
  | 0 => Nat.le_refl _
  | i + 1 => by
    have := hitB_le b cs ks i
    simp only [hitB]
    split
    · split <;> omega
    · omega
theorem stB_snoc {c : Cf} {l : List Mv} {i : Nat} {x : Mv} {s : BS} (h : l[i]? = some x) : stB c s (l.take (i + 1)) = (stepB c (stB c s (l.take i)) x).2 := by
  rw [take_of h, stB_app]; rfl
theorem codesB_snoc {c : Cf} {l : List Mv} {i : Nat} {x : Mv} {s : BS} (h : l[i]? = some x) : codesB c s (l.take (i + 1)) = codesB c s (l.take i) ++ [(stepB c (stB c s (l.take i)) x).1] := by
  rw [take_of h, codesB_app]; rfl
theorem BdB.run {c : Cf} (hs : c.snd < c.n) {cs : List Mv} : ∀ i, i ≤ cs.length → BdB (c.n * (2 * c.n) + c.n + hitB forgB cs (codesB c (bs0 c.n) cs) i) c (stB c (bs0 c.n) (cs.take i))
  | 0, _ => BdB.zero c
  | i + 1, h => by
    obtain ⟨x, hx⟩ := get_of_lt (xs := cs) (k := i) (by omega)
    have := (BdB.run hs (cs := cs) i (by omega)).step x hs
    rw [stB_snoc hx, hitB_succ hx (codes_at hx)]
    refine this.mono ?_
    unfold forgB
    by_cases q : x.kind = 2 ∧ (stepB c (stB c (bs0 c.n) (cs.take i)) x).1 = 0
    · rw [if_pos q, if_pos (decide_eq_true q)]; omega
    · rw [if_neg q]; omega
end Go.Proofs.Ytbfcfekpfgpfbaa
