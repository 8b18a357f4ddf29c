/- The machine's changes. Plain words. No condition. -/
import Derived.Test.YtfeeociajllbhaaDoorMA5
namespace Go.Proofs.YtfeeociajllbhaaDoor.Mt
open Go.RowKit
set_option linter.unusedVariables false
set_option linter.unusedSimpArgs false
set_option maxRecDepth 100000

/-- what a step may change -/
inductive Chg (c : MC) (s : MS) : MS → Prop
  | same : Chg c s s
  | block (p r : Nat) : p < s.bl.length → rndM s p < r → r ≤ 1000 → certM c s p = true → s.bl.length ≠ 40 → Chg c s ⟨s.bl ++ [⟨(p : Int), r⟩], s.vt ++ [0], s.ms, s.lt, s.gv⟩
  | vote (i b : Nat) : i < c.n → 0 < b → b < s.bl.length → (voteM s b).testBit i = false → (liesB c.L i = false → agreesM c s i b = true) → Chg c s (votedM c s i b)
  | lie (i r b : Nat) : i < c.n → liesB c.L i = true → 1 ≤ r → r ≤ 1000 → b < s.bl.length → certM c s b = true → Chg c s ⟨s.bl, s.vt, s.ms, putM s.lt (smN r, smN i, smN (rndM s b)) 1, s.gv⟩
  | again (i r : Nat) : i < c.n → liesB c.L i = false → 1 ≤ r → r ≤ 1000 → Chg c s ⟨s.bl, s.vt, s.ms, s.lt, putM s.gv (smN i, smN r) (gaveM s.gv i r + 1)⟩
  | late (i r : Nat) : i < c.n → liesB c.L i = false → 1 ≤ r → r ≤ 1000 → Chg c s ⟨s.bl, s.vt, s.ms.set i ⟨max (memM s i).vo r, (memM s i).kn⟩, putM s.lt (smN r, smN i, smN (memM s i).kn) 1, putM s.gv (smN i, smN r) (gaveM s.gv i r + 1)⟩
  | learn (i b : Nat) : i < c.n → liesB c.L i = false → b < s.bl.length → certM c s b = true → Chg c s ⟨s.bl, s.vt, s.ms.set i ⟨(memM s i).vo, max (memM s i).kn (rndM s b)⟩, s.lt, s.gv⟩
theorem isN_nat {n : Nat} {x : Int} (h : ¬ isN n x = false) : ∃ k : Nat, x = (k : Int) ∧ k < n := by
  rw [isN_no, Classical.not_not] at h
  exact ⟨x.toNat, by omega, by omega⟩
theorem not_false' {b : Bool} (h : ¬ b = false) : b = true := by cases b <;> simp_all
theorem step_chg (c : MC) (s : MS) (x : Sy) : Chg c s (stepM c s x).2 := by
  obtain ⟨kind, who, blk, rnd, hi⟩ := x
  unfold stepM
  dsimp only
  split
  · exact .same
  split
  · unfold behindM
    dsimp only
    split
    · exact .same
    rename_i h
    simp only [not_or] at h
    obtain ⟨k, rfl, hk⟩ := isN_nat h.1
    simp only [Int.toNat_natCast] at h ⊢
    split
    · exact .same
    rename_i h2
    split
    · exact .same
    rename_i h3
    obtain ⟨r, rfl⟩ := Int.eq_ofNat_of_zero_le (a := rnd) (by omega)
    exact .block k r hk (by omega) (by omega) (not_false' h2) h3
  split
  · exact .same
  rename_i hw
  obtain ⟨i, rfl, hi9⟩ := isN_nat hw
  simp only [Int.toNat_natCast]
  split
  · unfold voteStep
    split
    · exact .same
    rename_i h
    simp only [not_or] at h
    obtain ⟨k, rfl, hk⟩ := isN_nat h.1
    simp only [Int.toNat_natCast] at h ⊢
    split
    · exact .same
    rename_i h2
    simp only [not_or, not_and] at h2
    exact .vote i k hi9 (by omega) hk (by cases e : (voteM s k).testBit i <;> simp_all) (fun hl => not_false' (h2.2 hl))
  split
  · unfold lateM
    dsimp only
    split
    · exact .same
    rename_i h
    obtain ⟨r, rfl⟩ := Int.eq_ofNat_of_zero_le (a := rnd) (by omega)
    simp only [Int.toNat_natCast]
    split
    · rename_i hl
      split
      · rename_i hr
        unfold roundM at hr
        obtain ⟨b, hb, he⟩ := List.any_eq_true.1 hr
        rw [Bool.and_eq_true, decide_eq_true_iff] at he
        obtain ⟨he, hc⟩ := he
        subst he
        exact .lie i r b hi9 hl (by omega) (by omega) (List.mem_range.1 hb) hc
      · exact .same
    rename_i hl
    split
    · exact .again i r hi9 (by simpa using hl) (by omega) (by omega)
    · exact .late i r hi9 (by simpa using hl) (by omega) (by omega)
  · unfold learnM
    split
    · exact .same
    rename_i h
    obtain ⟨k, rfl, hk⟩ := isN_nat h
    simp only [Int.toNat_natCast]
    split
    · exact .same
    rename_i h2
    simp only [not_or] at h2
    exact .learn i k hi9 (by simpa using h2.2) hk (not_false' h2.1)
theorem mem_setL {α : Type} {l : List α} {i : Nat} {a x : α} (h : x ∈ l.set i a) : x ∈ l ∨ x = a := List.mem_or_eq_of_mem_set h
theorem rndM_of {s : MS} {b : Nat} {x : Bk} (h : s.bl[b]? = some x) : rndM s b = x.rnd := by unfold rndM; rw [h]; rfl
theorem parM_of {s : MS} {b : Nat} {x : Bk} (h : s.bl[b]? = some x) : parM s b = x.par.toNat := by unfold parM; rw [h]; rfl
theorem voteM_of {s : MS} {b v : Nat} (h : s.vt[b]? = some v) : voteM s b = v := by unfold voteM; rw [h]; rfl
theorem memM_of {s : MS} {i : Nat} {m : Mm} (h : s.ms[i]? = some m) : memM s i = m := by unfold memM; rw [h]; rfl
theorem BdM.rnd_le {T : Nat} {c : MC} {s : MS} (h : BdM T c s) (b : Nat) : rndM s b ≤ 1000 := by
  unfold rndM
  cases e : s.bl[b]? with
  | none => exact Nat.zero_le _
  | some x => exact h.rnd b x e
theorem BdM.vote_lt {T : Nat} {c : MC} {s : MS} (h : BdM T c s) (b : Nat) : voteM s b < 2 ^ c.n := by
  unfold voteM
  cases e : s.vt[b]? with
  | none => exact Nat.two_pow_pos _
  | some x => exact h.vt x (List.mem_of_getElem? e)
theorem BdM.mem_le {T : Nat} {c : MC} {s : MS} (h : BdM T c s) (i : Nat) : (memM s i).vo ≤ 1000 ∧ (memM s i).kn ≤ 1000 := by
  unfold memM
  cases e : s.ms[i]? with
  | none => exact ⟨Nat.zero_le _, Nat.zero_le _⟩
  | some x => exact h.mb x (List.mem_of_getElem? e)
theorem getD_put {gv : Gv} {k : Sm × Sm} {x : Int} {T : Nat} (h : ∀ k, 0 ≤ (getM gv k).getD 0 ∧ (getM gv k).getD 0 ≤ T) (hx : 0 ≤ x ∧ x ≤ (T + 1 : Nat)) : ∀ k', 0 ≤ (getM (putM gv k x) k').getD 0 ∧ (getM (putM gv k x) k').getD 0 ≤ (T + 1 : Nat) := by
  intro k'
  rw [getM_put]
  split
  · exact hx
  · have := h k'; omega
theorem putM_le {α β : Type} [DecidableEq α] {l : List (α × β)} {a : α} {x : β} {T : Nat} (h : l.length ≤ T) : (putM l a x).length ≤ T + 1 := by rw [putM_length]; split <;> omega
theorem BdM.chg {T : Nat} {c : MC} {s s' : MS} (h : BdM T c s) (o : OkM c) (g : Chg c s s') : BdM (T + 1) c s' := by
  have h1 := h.ltl
  have h2 := h.gvl
  have h3 : ∀ k : Sm × Sm, 0 ≤ (getM s.gv k).getD 0 ∧ (getM s.gv k).getD 0 ≤ (T + 1 : Nat) := fun k => by have := h.gva k; omega
  have hn7 := o.n7
  have hmb := h.mb
  cases g with
  | same => exact ⟨h.vlen, h.b40, h.first, h.par, h.rnd, h.vt, h.mlen, h.mb, h.lt, by omega, by omega, h3⟩
  | block p r hp hr hr2 hc h40 =>
    have hb := h.b40
    refine ⟨by simp [h.vlen], by simp; omega, ?_, ?_, ?_, ?_, h.mlen, h.mb, h.lt, by dsimp only; omega, by dsimp only; omega, h3⟩
    · show (s.bl ++ _)[0]? = _
      rw [List.getElem?_append_left h.pos]; exact h.first
    · intro b x hb0 hx
      dsimp only at hx ⊢
      rcases Nat.lt_or_ge b s.bl.length with q | q
      · rw [List.getElem?_append_left q] at hx
        obtain ⟨p', y, e1, e2, e3, e4⟩ := h.par b x hb0 hx
        exact ⟨p', y, e1, e2, by rw [List.getElem?_append_left (by omega)]; exact e3, e4⟩
      · rw [List.getElem?_append_right q] at hx
        obtain ⟨q1, rfl⟩ : b - s.bl.length = 0 ∧ (⟨(p : Int), r⟩ : Bk) = x := by
          cases e : b - s.bl.length with
          | zero => rw [e] at hx; exact ⟨rfl, by simpa using hx⟩
          | succ k => rw [e] at hx; simp at hx
        obtain ⟨y, hy⟩ := get_of_lt hp
        exact ⟨p, y, rfl, by omega, by rw [List.getElem?_append_left hp]; exact hy, by rw [← rndM_of hy]; exact hr⟩
    · intro b x hx
      dsimp only at hx
      rcases List.mem_append.1 (List.mem_of_getElem? hx) with q | q
      · obtain ⟨j, hj⟩ := List.mem_iff_getElem?.1 q
        exact h.rnd j x hj
      · rw [List.mem_singleton] at q; rw [q]; exact hr2
    · intro v hv
      dsimp only at hv
      rcases List.mem_append.1 hv with q | q
      · exact h.vt v q
      · rw [List.mem_singleton] at q; rw [q]; exact Nat.two_pow_pos _
  | vote i b hi hb0 hb hbit ha =>
    unfold votedM
    refine ⟨by simp [h.vlen], h.b40, h.first, h.par, h.rnd, ?_, ?_, ?_, h.lt, by dsimp only; omega, by dsimp only; omega, h3⟩
    · intro v hv
      rcases mem_setL hv with q | q
      · exact h.vt v q
      · rw [q]; exact Nat.or_lt_two_pow (h.vote_lt b) (Nat.pow_lt_pow_right (by decide : 1 < 2) hi)
    · dsimp only
      split
      · exact h.mlen
      · rw [List.length_set]; exact h.mlen
    · intro m hm
      dsimp only at hm
      split at hm
      · exact h.mb m hm
      rcases mem_setL hm with q | q
      · exact h.mb m q
      · rw [q]; have := h.rnd_le b; have := h.rnd_le (parM s b); have := h.mem_le i; exact ⟨by assumption, by dsimp only; omega⟩
  | lie i r b hi hl hr1 hr2 hb hc =>
    refine ⟨h.vlen, h.b40, h.first, h.par, h.rnd, h.vt, h.mlen, h.mb, ?_, putM_le h1, by dsimp only; omega, h3⟩
    intro e he
    rcases mem_putM he with q | q
    · rw [q]; show (smN i).val < c.n; rw [smN_val (by omega)]; exact hi
    · exact h.lt e q.1
  | again i r hi hl hr1 hr2 =>
    exact ⟨h.vlen, h.b40, h.first, h.par, h.rnd, h.vt, h.mlen, h.mb, h.lt, by dsimp only; omega, putM_le h2, getD_put h.gva (by have := h.gva (smN i, smN r); show 0 ≤ (getM s.gv (smN i, smN r)).getD 0 + 1 ∧ (getM s.gv (smN i, smN r)).getD 0 + 1 ≤ _; omega)⟩
  | late i r hi hl hr1 hr2 =>
    refine ⟨h.vlen, h.b40, h.first, h.par, h.rnd, h.vt, by simp [h.mlen], ?_, ?_, putM_le h1, putM_le h2, getD_put h.gva (by have := h.gva (smN i, smN r); show 0 ≤ (getM s.gv (smN i, smN r)).getD 0 + 1 ∧ (getM s.gv (smN i, smN r)).getD 0 + 1 ≤ _; omega)⟩
    · intro m hm
      rcases mem_setL hm with q | q
      · exact h.mb m q
      · rw [q]; have := h.mem_le i; exact ⟨by dsimp only; omega, this.2⟩
    · intro e he
      rcases mem_putM he with q | q
      · rw [q]; show (smN i).val < c.n; rw [smN_val (by omega)]; exact hi
      · exact h.lt e q.1
  | learn i b hi hl hb hc =>
    refine ⟨h.vlen, h.b40, h.first, h.par, h.rnd, h.vt, by simp [h.mlen], ?_, h.lt, by dsimp only; omega, by dsimp only; omega, h3⟩
    intro m hm
    rcases mem_setL hm with q | q
    · exact h.mb m q
    · rw [q]; have := h.mem_le i; have := h.rnd_le b; exact ⟨by dsimp only; omega, by dsimp only; omega⟩
theorem BdM.start (c : MC) : BdM 0 c (ms0 c.n) := by
  refine ⟨rfl, by show 1 ≤ 40; decide, rfl, ?_, ?_, ?_, by simp [ms0], ?_, by simp [ms0], Nat.le_refl _, Nat.le_refl _, fun k => by simp [ms0, getM]⟩
  · intro b x h0 hx
    have := (List.getElem?_eq_some_iff.1 hx).1
    simp [ms0] at this; omega
  · intro b x hx
    have := List.mem_of_getElem? hx
    simp [ms0] at this; rw [this]; decide
  · intro v hv
    simp [ms0] at hv; rw [hv]; exact Nat.two_pow_pos _
  · intro m hm
    simp [ms0] at hm; rw [hm.2]; decide
theorem BdM.run {c : MC} (o : OkM c) : ∀ (l : List Sy) {T : Nat} {s : MS}, BdM T c s → BdM (T + l.length) c (stM c s l)
  | [], _, _, h => h
  | x :: l, T, s, h => by
    have := BdM.run o l (h.chg o (step_chg c s x))
    rw [List.length_cons, show T + (l.length + 1) = T + 1 + l.length by omega]; exact this
theorem BdM.mono {T T' : Nat} {c : MC} {s : MS} (h : BdM T c s) (hT : T ≤ T') : BdM T' c s :=
  ⟨h.vlen, h.b40, h.first, h.par, h.rnd, h.vt, h.mlen, h.mb, h.lt, Nat.le_trans h.ltl hT, Nat.le_trans h.gvl hT, fun k => by have := h.gva k; omega⟩
theorem BdM.at_ {c : MC} (o : OkM c) (l : List Sy) : BdM l.length c (stM c (ms0 c.n) l) := by have := BdM.run o l (BdM.start c); rwa [Nat.zero_add] at this
end Go.Proofs.YtfeeociajllbhaaDoor.Mt
