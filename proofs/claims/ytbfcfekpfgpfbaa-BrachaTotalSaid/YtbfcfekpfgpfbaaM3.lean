/- The word, and who said it. Plain words. No condition. -/
import Derived.Test.YtbfcfekpfgpfbaaM2
import Derived.Test.YtbfcfekpfgpfbaaK
namespace Go.Proofs.Ytbfcfekpfgpfbaa
open Go.RowKit
set_option linter.unusedVariables false
set_option linter.unusedSimpArgs false
set_option maxRecDepth 100000

/-- the last word that the sender started with: is there one, and which -/
def wkB (cs : List Mv) (ks : List Int) : Nat → Bool × Int
  | 0 => (false, 0)
  | i + 1 => match cs[i]?, ks[i]? with
    | some x, some k => if x.kind = 1 ∧ k = 0 then (true, x.n) else wkB cs ks i
    | _, _ => wkB cs ks i
theorem wkB_succ {cs : List Mv} {ks : List Int} {i : Nat} {x : Mv} {k : Int} (h1 : cs[i]? = some x) (h2 : ks[i]? = some k) : wkB cs ks (i + 1) = if x.kind = 1 ∧ k = 0 then (true, x.n) else wkB cs ks i := by
  simp only [wkB, h1, h2]
theorem few_liars {c : Cf} (h : fewF c.L (c.n : Int) (c.f : Int) = true) (hn : c.n ≤ 32) : liarN c ≤ c.f := by
  unfold fewF at h
  simp only [Bool.and_eq_true, decide_eq_true_eq] at h
  have h2 : (sizeF c.L : Int) ≤ c.f := h.2
  have h3 : ((List.range c.n).filter fun i => c.L.testBit i).length ≤ sizeF c.L := by
    unfold sizeF
    have : List.range 32 = List.range c.n ++ (List.range (32 - c.n)).map (c.n + ·) := by
      rw [← List.range_add]; congr 1; omega
    rw [this, List.filter_append, List.length_append]; omega
  have h4 : liarN c = ((List.range c.n).filter fun i => c.L.testBit i).length := rfl
  omega
theorem come_new {c : Cf} {s : BS} {at_ : Nat} {m : Mg} (h : m ∈ (comeB c s at_).all) : (∃ z ∈ s.all, z.frm = m.frm ∧ z.what = m.what ∧ z.n = m.n) ∨ m.what = 2 ∨ m.what = 3 := by
  cases hm : s.all[at_]? with
  | none => have e : comeB c s at_ = s := by unfold comeB; rw [hm]
            rw [e] at h; exact .inl ⟨m, h, rfl, rfl, rfl⟩
  | some m0 =>
    have hset : ∀ z ∈ s.all.set at_ { m0 with come := true }, ∃ y ∈ s.all, y.frm = z.frm ∧ y.what = z.what ∧ y.n = z.n := fun z hz => by
      rcases List.mem_or_eq_of_mem_set hz with q | rfl
      · exact ⟨z, q, rfl, rfl, rfl⟩
      · exact ⟨m0, List.mem_of_getElem? hm, rfl, rfl, rfl⟩
    have hcam : cameB s at_ = ⟨s.all.set at_ { m0 with come := true }, s.ps, s.st⟩ := by unfold cameB; rw [hm]
    unfold comeB at h
    rw [hm] at h
    dsimp only at h
    rw [hcam] at h
    split at h
    · exact .inl (hset _ h)
    split at h
    · exact .inl (hset _ h)
    rename_i p hp _
    split at h
    · exact .inl (hset _ h)
    · rename_i hk
      rcases List.mem_append.1 h with q | q
      · exact .inl (hset _ q)
      · have := (newM_mem q).2.2.1
        rcases (gotB_cases c p m0).1 with g | g | g
        · exact absurd g hk
        · exact .inr (.inl (by rw [this]; exact g.1))
        · exact .inr (.inr (by rw [this]; exact g.1))
theorem come_st (c : Cf) (s : BS) (at_ : Nat) : (comeB c s at_).st = s.st := by
  have hcam : (cameB s at_).st = s.st := by unfold cameB; split <;> rfl
  unfold comeB
  split
  · rfl
  split
  · exact hcam
  split
  · exact hcam
  split <;> rfl
theorem come_one {c : Cf} {s : BS} {at_ a : Nat} {v : Int} (h : MM (comeB c s at_) a 1 v) : MM s a 1 v := by
  obtain ⟨m, hm, h1, h2, h3⟩ := h
  rcases come_new hm with ⟨z, hz, g1, g2, g3⟩ | g | g
  · exact ⟨z, hz, by omega, by omega, by rw [g3]; exact h3⟩
  · omega
  · omega
theorem all_one {c : Cf} {a : Nat} {v : Int} : ∀ (k : Nat) {s : BS} {at_ : Nat}, MM (allB c k s at_) a 1 v → MM s a 1 v
  | 0, s, at_, h => h
  | k + 1, s, at_, h => by
    unfold allB at h
    split at h
    · exact h
    · have := all_one k h
      split at this
      · exact this
      · exact come_one this
theorem all_st {c : Cf} : ∀ (k : Nat) (s : BS) (at_ : Nat), (allB c k s at_).st = s.st
  | 0, s, at_ => rfl
  | k + 1, s, at_ => by
    unfold allB
    split
    · rfl
    · rw [all_st k]
      split
      · rfl
      · exact come_st ..
theorem step_W {c : Cf} {s : BS} {x : Mv} {w : Bool × Int} (I : InvB c s) (hst : s.st = w.1) (hv : ∀ a v, Hon c a → MM s a 1 v → w.1 = true ∧ v = w.2) :
    (stepB c s x).2.st = (if x.kind = 1 ∧ (stepB c s x).1 = 0 then (true, x.n) else w).1 ∧ ∀ a v, Hon c a → MM (stepB c s x).2 a 1 v → (if x.kind = 1 ∧ (stepB c s x).1 = 0 then (true, x.n) else w).1 = true ∧ v = (if x.kind = 1 ∧ (stepB c s x).1 = 0 then (true, x.n) else w).2 := by
  by_cases hk : x.kind = 1
  · by_cases hb : s.st = true ∨ liesB c.L c.snd = true
    · have e : stepB c s x = (6, s) := by unfold stepB; rw [if_pos hk, if_pos hb]
      rw [e, if_neg (fun q => by cases q.2)]
      exact ⟨hst, hv⟩
    · have e : stepB c s x = (0, sendB ⟨s.all, s.ps, true⟩ c.snd 1 x.n) := by unfold stepB; rw [if_pos hk, if_neg hb]
      rw [e, if_pos ⟨hk, rfl⟩]
      refine ⟨rfl, fun a v ha ⟨m, hm, h1, h2, h3⟩ => ⟨rfl, ?_⟩⟩
      rcases List.mem_append.1 hm with q | q
      · have := (I.f1 a v ha ⟨m, q, h1, h2, h3⟩).2
        exact absurd (.inl this) hb
      · rw [← h3]; exact (newM_mem q).2.2.2.1
  · rw [if_neg (fun q => hk q.1)]
    unfold stepB
    rw [if_neg hk]
    split
    · split
      · exact ⟨hst, hv⟩
      split
      · exact ⟨hst, hv⟩
      · rename_i h1 h2
        refine ⟨hst, fun a v ha ⟨m, hm, g1, g2, g3⟩ => ?_⟩
        rcases List.mem_append.1 hm with q | q
        · exact hv a v ha ⟨m, q, g1, g2, g3⟩
        · rw [List.mem_singleton] at q; subst q
          dsimp only at g1; subst g1
          exact absurd (.inr (.inl ha)) h1
    split
    · split
      · exact ⟨hst, hv⟩
      split
      · exact ⟨hst, hv⟩
      split
      · exact ⟨hst, hv⟩
      · exact ⟨(come_st ..).trans hst, fun a v ha h => hv a v ha (come_one h)⟩
    split
    · exact ⟨(all_st ..).trans hst, fun a v ha h => hv a v ha (all_one _ h)⟩
    · exact ⟨hst, hv⟩
theorem run_W {c : Cf} (hs : c.snd < c.n) (hl : liarN c ≤ c.f) (hn : c.n ≤ 2000) {cs : List Mv} : ∀ i, i ≤ cs.length →
    (stB c (bs0 c.n) (cs.take i)).st = (wkB cs (codesB c (bs0 c.n) cs) i).1 ∧ ∀ a v, Hon c a → MM (stB c (bs0 c.n) (cs.take i)) a 1 v → (wkB cs (codesB c (bs0 c.n) cs) i).1 = true ∧ v = (wkB cs (codesB c (bs0 c.n) cs) i).2
  | 0, _ => ⟨rfl, fun a v _ ⟨m, hm, _⟩ => by cases hm⟩
  | i + 1, h => by
    obtain ⟨x, hx⟩ := get_of_lt (xs := cs) (k := i) (by omega)
    obtain ⟨h1, h2⟩ := run_W hs hl hn (cs := cs) i (by omega)
    rw [stB_snoc hx, wkB_succ hx (codes_at hx)]
    exact step_W (InvB.run hs hl hn (cs := cs) i (by omega)) h1 h2
/-- whom enough echoed was said by the sender -/
theorem eq_said {T : Nat} {c : Cf} {s : BS} {v : Int} (I : InvB c s) (b : BdB T c s) (hl : liarN c ≤ c.f) (h3 : 3 * c.f < c.n) (h : EQ c s v) : MM s c.snd 1 v := by
  obtain ⟨i, p, hp, h1⟩ := h
  obtain ⟨a, ha, h2⟩ := I.say b hp (show liarN c < manyB p.hl 2 v by omega)
  exact I.j2 a v ha h2
theorem agree {c : Cf} (hs : c.snd < c.n) (hl : liarN c ≤ c.f) (hn : c.n ≤ 2000) (h3 : 3 * c.f < c.n) (cs : List Mv) :
    (∀ (i : Nat) (p : Pr), (stB c (bs0 c.n) cs).ps[i]? = some p → p.has = true → c.L.testBit c.snd = false → (wkB cs (codesB c (bs0 c.n) cs) cs.length).1 = true ∧ p.val = (wkB cs (codesB c (bs0 c.n) cs) cs.length).2) ∧
    ∀ (i j : Nat) (p q : Pr), (stB c (bs0 c.n) cs).ps[i]? = some p → (stB c (bs0 c.n) cs).ps[j]? = some q → p.has = true → q.has = true → p.val = q.val := by
  have I := InvB.run hs hl hn (cs := cs) cs.length (Nat.le_refl _)
  have B := BdB.run hs (cs := cs) cs.length (Nat.le_refl _)
  have W := run_W hs hl hn (cs := cs) cs.length (Nat.le_refl _)
  rw [List.take_length] at I B W
  exact ⟨fun i p hp hh hb => W.2 c.snd p.val hb (eq_said I B hl h3 (I.k4 i p hp hh)), fun i j p q hp hq h1 h2 => I.eq_one B hl (I.k4 i p hp h1) (I.k4 j q hq h2)⟩
end Go.Proofs.Ytbfcfekpfgpfbaa
