/- What stays. Plain words. No condition. -/
import Derived.Test.YtbfcfekpfgpfbaaA5
namespace Go.Proofs.Ytbfcfekpfgpfbaa
open Go.RowKit
set_option linter.unusedVariables false
set_option linter.unusedSimpArgs false
set_option maxRecDepth 100000

def LeQ (p p' : Pr) : Prop := p.has = true → p'.has = true ∧ p'.val = p.val
structure LeB (s s' : BS) : Prop where
  all : s.all.length ≤ s'.all.length
  ps : ∀ (i : Nat) (p : Pr), s.ps[i]? = some p → ∃ p', s'.ps[i]? = some p' ∧ LeQ p p'
theorem LeB.refl (s : BS) : LeB s s := ⟨Nat.le_refl _, fun i p h => ⟨p, h, fun h => ⟨h, rfl⟩⟩⟩
theorem LeB.trans {a b c : BS} (h : LeB a b) (h' : LeB b c) : LeB a c := ⟨Nat.le_trans h.all h'.all, fun i p hp => by
  obtain ⟨q, h1, h2⟩ := h.ps i p hp
  obtain ⟨r, h3, h4⟩ := h'.ps i q h1
  exact ⟨r, h3, fun hh => by obtain ⟨a1, a2⟩ := h2 hh; obtain ⟨b1, b2⟩ := h4 a1; exact ⟨b1, b2.trans a2⟩⟩⟩
theorem LeB.set {s : BS} {i : Nat} {p q : Pr} {all : List Mg} {st : Bool} (hp : s.ps[i]? = some p) (h : LeQ p q) (ha : s.all.length ≤ all.length) : LeB s ⟨all, s.ps.set i q, st⟩ := ⟨ha, fun j r hr => by
  by_cases c : i = j
  · subst c; cases hp.symm.trans hr
    exact ⟨q, List.getElem?_set_self (List.getElem?_eq_some_iff.1 hp).1, h⟩
  · exact ⟨r, by dsimp only; rw [List.getElem?_set_ne c]; exact hr, fun h => ⟨h, rfl⟩⟩⟩
theorem LeB.same {s : BS} {all : List Mg} {st : Bool} (ha : s.all.length ≤ all.length) : LeB s ⟨all, s.ps, st⟩ := ⟨ha, fun i p hp => ⟨p, hp, fun h => ⟨h, rfl⟩⟩⟩
theorem LeB.come (c : Cf) (s : BS) (at_ : Nat) : LeB s (comeB c s at_) := by
  unfold comeB cameB
  cases hm : s.all[at_]? with
  | none => exact LeB.refl s
  | some m =>
    have hl : (s.all.set at_ { m with come := true }).length = s.all.length := List.length_set
    dsimp only
    cases hp : s.ps[m.to]? with
    | none => exact LeB.same (by rw [hl]; exact Nat.le_refl _)
    | some p =>
      dsimp only
      split
      · exact LeB.same (by rw [hl]; exact Nat.le_refl _)
      split
      · exact LeB.set hp (gotB_spec c p m).2.2.2 (by rw [hl]; exact Nat.le_refl _)
      · exact LeB.set hp (gotB_spec c p m).2.2.2 (by rw [List.length_append, hl]; exact Nat.le_add_right _ _)
theorem LeB.run_all (c : Cf) : ∀ (k : Nat) (s : BS) (a : Nat), LeB s (allB c k s a)
  | 0, s, a => LeB.refl s
  | k + 1, s, a => by
    unfold allB
    split
    · exact LeB.refl s
    · split
      · exact LeB.run_all c k _ _
      · exact (LeB.come c s a).trans (LeB.run_all c k _ _)
theorem LeB.step (c : Cf) (s : BS) (x : Mv) : LeB s (stepB c s x).2 := by
  unfold stepB
  split
  · split
    · exact LeB.refl s
    · exact LeB.same (by rw [List.length_append]; exact Nat.le_add_right _ _)
  split
  · split
    · exact LeB.refl s
    split
    · exact LeB.refl s
    · exact LeB.same (by rw [List.length_append]; exact Nat.le_add_right _ _)
  split
  · split
    · exact LeB.refl s
    split
    · exact LeB.refl s
    · split
      · exact LeB.refl s
      · exact LeB.come c s _
  split
  · exact LeB.run_all c _ s 0
  · exact LeB.refl s
theorem LeB.run (c : Cf) : ∀ (cs : List Mv) (s : BS), LeB s (stB c s cs)
  | [], s => LeB.refl s
  | x :: cs, s => (LeB.step c s x).trans (LeB.run c cs _)
def Valid (k f : Int) (L : Nat) (d : Int) (cs : List Mv) : Prop := 1 ≤ k ∧ k ≤ 7 ∧ cs.length ≤ 120 ∧ 0 ≤ f ∧ f ≤ (((k.toNat - 1) / 3 : Nat) : Int) ∧ L >>> k.toNat = 0 ∧ 0 ≤ d ∧ d < k
theorem play_bad {W : World} {k f d : Int} {L : Nat} {sv : Value} {cs : List Mv} (hs : SlS FM 6 W sv cs) (hbad : ¬ Valid k f L d cs) :
    Calls Try.prog 7 #[.int .i64 k, .int .i64 f, .int .u32 ((L : Nat) : Int), .int .i64 d, sv] W fun e w' => ∃ v, e = .returned v ∧ (∃ z : Int, z ≠ 0 ∧ v = .tuple #[.agg #[.slice none 0 0, .slice none 0 0, .slice none 0 0, .int .i64 0, .int .i64 0], .int .i64 z]) ∧ Below W.heap.size W w' := by
  by_cases h1 : k < 1 ∨ 7 < k ∨ 120 < (cs.length : Int)
  · exact (play_no1 hs h1).mono fun e w' ⟨he, hb⟩ => ⟨_, he, ⟨1, by decide, rfl⟩, hb⟩
  obtain ⟨n, rfl⟩ : ∃ n : Nat, k = (n : Int) := ⟨k.toNat, by omega⟩
  by_cases h2 : f < 0 ∨ ((n - 1) / 3 : Nat) < f
  · exact (play_no3 hs (by omega) (by omega) (by omega) h2).mono fun e w' ⟨he, hb⟩ => ⟨_, he, ⟨3, by decide, rfl⟩, hb⟩
  obtain ⟨f', rfl⟩ : ∃ f' : Nat, f = (f' : Int) := ⟨f.toNat, by omega⟩
  refine (play_no2 hs (by omega) (by omega) (by omega) (by omega) ?_).mono fun e w' ⟨he, hb⟩ => ⟨_, he, ⟨2, by decide, rfl⟩, hb⟩
  by_cases h3 : L >>> n = 0
  · right
    by_cases h4 : d < 0
    · exact .inl h4
    · right
      by_cases h5 : (n : Int) ≤ d
      · exact h5
      · exact absurd ⟨by omega, by omega, by omega, by omega, by rw [Int.toNat_natCast]; omega, by rw [Int.toNat_natCast]; exact h3, by omega, by omega⟩ hbad
  · exact .inl h3
end Go.Proofs.Ytbfcfekpfgpfbaa
