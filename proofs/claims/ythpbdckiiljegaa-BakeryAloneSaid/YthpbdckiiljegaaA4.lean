/- The bakery's step, whichever it is. -/
import Derived.Test.YthpbdckiiljegaaA3
namespace Go.Proofs.Ythpbdckiiljegaa
open Go.RowKit

abbrev St := List Pr × List Nat

def pStep (ps : List Pr) (p : Pr) (i : Nat) : Pr :=
  if p.at_ = 0 then { p with ch := true, k := 0, m := 0, at_ := 1 }
  else if p.at_ = 1 then lookF ps p
  else if p.at_ = 2 then { p with ch := false, k := 0, at_ := 3 }
  else if p.at_ = 3 then (if p.k = ps.length then { p with at_ := 5 } else if chOf ps p.k then p else { p with at_ := 4 })
  else if p.at_ = 4 then (if tkOf ps p.k ≠ 0 ∧ (tkOf ps p.k < p.tk ∨ tkOf ps p.k = p.tk ∧ p.k < i) then p else { p with k := p.k + 1, at_ := 3 })
  else { p with tk := 0, at_ := 0 }

def goesIn (ps : List Pr) (p : Pr) : Bool := p.at_ == 3 && p.k == ps.length

def stepS (s : St) (i : Nat) : St := match s.1[i]? with
  | none => s
  | some p => (s.1.set i (pStep s.1 p i), if goesIn s.1 p then s.2 ++ [i] else s.2)

/-- what holds of each behind j steps -/
def okP (n j : Nat) (p : Pr) : Prop := p.at_ ≤ 5 ∧ p.m ≤ j ∧ p.tk ≤ j ∧ (p.at_ = 1 → p.k ≤ n) ∧ (p.at_ = 3 → p.k ≤ n) ∧ (p.at_ = 4 → p.k < n)
def Good (n j : Nat) (s : St) : Prop := s.1.length = n ∧ s.2.length ≤ j ∧ ∀ p ∈ s.1, okP n j p

theorem tkOf_le {n j : Nat} {ps : List Pr} (h : ∀ p ∈ ps, okP n j p) (k : Nat) : tkOf ps k ≤ j := by
  unfold tkOf
  split
  · rename_i q hq; exact (h q (List.mem_of_getElem? hq)).2.2.1
  · omega

theorem okP_step {n j i : Nat} {ps : List Pr} {p : Pr} (hl : ps.length = n) (h : ∀ p ∈ ps, okP n j p) (hp : okP n j p) : okP n (j + 1) (pStep ps p i) := by
  obtain ⟨h1, h2, h3, h4, h5, h6⟩ := hp
  have ht := tkOf_le h p.k
  unfold pStep okP lookF
  repeat' split
  all_goals (refine ⟨?_, ?_, ?_, ?_, ?_, ?_⟩ <;> (try dsimp only) <;> (try intro) <;> omega)

theorem Good.step {n j i : Nat} {s : St} (h : Good n j s) : Good n (j + 1) (stepS s i) := by
  obtain ⟨hl, h2, h3⟩ := h
  have mono : ∀ p, okP n j p → okP n (j + 1) p := fun p ⟨a, b, c, d⟩ => ⟨a, by omega, by omega, d⟩
  unfold stepS
  split
  · exact ⟨hl, by omega, fun p hp => mono p (h3 p hp)⟩
  · rename_i p hp
    refine ⟨by simpa using hl, ?_, fun q hq => ?_⟩
    · show (if goesIn s.1 p then s.2 ++ [i] else s.2).length ≤ j + 1
      split
      · simp; omega
      · omega
    · rcases List.mem_or_eq_of_mem_set hq with hq | rfl
      · exact mono q (h3 q hq)
      · exact okP_step hl h3 (h3 p (List.mem_of_getElem? hp))

theorem step_any {n j S i : Nat} {s : St} {p : Pr} {w : World} {F : Nat → Prop} {B : Nat} (h : Shop w F B S s.1 s.2) (hg : Good n j s) (hi : s.1[i]? = some p) (hn : n ≤ 4) (hj : j ≤ 500) (hB : B ≤ w.heap.size) :
    StepsTo (12 + p.at_) S i w F B (stepS s i).1 (stepS s i).2 := by
  obtain ⟨hl, h2, h3⟩ := hg
  obtain ⟨q1, q2, q3, q4, q5, q6⟩ := h3 p (List.mem_of_getElem? hi)
  obtain ⟨ps, ins⟩ := s
  simp only at *
  have hs : stepS (ps, ins) i = (ps.set i (pStep ps p i), if goesIn ps p then ins ++ [i] else ins) := by unfold stepS; simp only [hi]
  rw [hs]
  rcases (by omega : p.at_ = 0 ∨ p.at_ = 1 ∨ p.at_ = 2 ∨ p.at_ = 3 ∨ p.at_ = 4 ∨ p.at_ = 5) with e | e | e | e | e | e
  · have e1 : pStep ps p i = { p with ch := true, k := 0, m := 0, at_ := 1 } := by unfold pStep; rw [if_pos e]
    have e2 : goesIn ps p = false := by unfold goesIn; rw [e]; rfl
    rw [e1, e2, e]; exact begin_any h hi
  · have e1 : pStep ps p i = lookF ps p := by unfold pStep; rw [if_neg (by omega), if_pos e]
    have e2 : goesIn ps p = false := by unfold goesIn; rw [e]; rfl
    rw [e1, e2, e]; exact look_any h hi (by rw [hl]; exact q4 e) (by omega) (by omega)
  · have e1 : pStep ps p i = { p with ch := false, k := 0, at_ := 3 } := by unfold pStep; rw [if_neg (by omega), if_neg (by omega), if_pos e]
    have e2 : goesIn ps p = false := by unfold goesIn; rw [e]; rfl
    rw [e1, e2, e]; exact chosen_any h hi
  · by_cases hk : p.k = ps.length
    · have e1 : pStep ps p i = { p with at_ := 5 } := by unfold pStep; rw [if_neg (by omega), if_neg (by omega), if_neg (by omega), if_pos e, if_pos hk]
      have e2 : goesIn ps p = true := by unfold goesIn; rw [e, hk]; simp
      rw [e1, e2, e]; exact wait_in h hi hk (by omega) (by omega) hB
    · have e2 : goesIn ps p = false := by unfold goesIn; rw [e]; simp [hk]
      obtain ⟨q, hq⟩ := get_of_lt (show p.k < ps.length by have := q5 e; omega)
      have e1 : pStep ps p i = (if q.ch then p else { p with at_ := 4 }) := by
        unfold pStep chOf; rw [if_neg (by omega), if_neg (by omega), if_neg (by omega), if_pos e, if_neg hk, hq]
      rw [e1, e2, e]; exact wait_on h hi hq (by omega)
  · have e2 : goesIn ps p = false := by unfold goesIn; rw [e]; rfl
    obtain ⟨q, hq⟩ := get_of_lt (show p.k < ps.length by have := q6 e; omega)
    have e1 : pStep ps p i = (if q.tk ≠ 0 ∧ (q.tk < p.tk ∨ q.tk = p.tk ∧ p.k < i) then p else { p with k := p.k + 1, at_ := 3 }) := by
      unfold pStep tkOf; rw [if_neg (by omega), if_neg (by omega), if_neg (by omega), if_neg (by omega), if_pos e, hq]
    rw [e1, e2, e]
    by_cases hz : q.tk = 0
    · rw [if_neg (by omega)]; exact yield_none h hi hq (by omega) hz
    · exact yield_some h hi hq (by omega) hz
  · have e1 : pStep ps p i = { p with tk := 0, at_ := 0 } := by unfold pStep; rw [if_neg (by omega), if_neg (by omega), if_neg (by omega), if_neg (by omega), if_neg (by omega)]
    have e2 : goesIn ps p = false := by unfold goesIn; rw [e]; rfl
    rw [e1, e2, e]; exact leave_any h hi

end Go.Proofs.Ythpbdckiiljegaa
