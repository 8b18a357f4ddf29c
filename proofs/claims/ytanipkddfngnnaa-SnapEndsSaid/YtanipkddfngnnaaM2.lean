/- What was noted is small; sums over rows. In plain words. No condition. -/
import Derived.Test.YtanipkddfngnnaaM1
namespace Go.Proofs.Ytanipkddfngnnaa
open Go.RowKit
set_option linter.unusedVariables false
set_option linter.unusedSimpArgs false
set_option maxRecDepth 100000

/-- what was noted is small -/
structure BdN (M : Int) (n : Nat) (s : SS) : Prop where
  ow : ∀ p ∈ s.ps, p.ow ≤ M
  nt : ∀ a, ∀ x ∈ (s.w a).nt, -1 ≤ x ∧ x ≤ M
theorem BdN.zero {M : Int} {money : List Int} (hM : 0 ≤ M) : BdN M money.length (ss0 money) := by
  refine ⟨fun p hp => ?_, fun a x hx => (by cases hx)⟩
  simp only [ss0, List.mem_map] at hp
  obtain ⟨x, _, rfl⟩ := hp
  dsimp only; omega
theorem BdN.note {M : Int} {n m i : Nat} {s : SS} (h : BdN M n s) (hb : BdS m M n s) : BdN M n (noteS s i) := by
  refine ⟨fun p hp => ?_, fun a x hx => ?_⟩
  · unfold noteS at hp
    split at hp
    · rename_i q hq
      split at hp
      · rcases set_casesP hp with rfl | hp
        · exact hb.mo_le (List.mem_of_getElem? hq)
        · exact h.ow p hp
      · exact h.ow p hp
    · exact h.ow p hp
  · rcases note_way s i a with e | e
    · rw [e] at hx; exact h.nt a x hx
    · rw [e] at hx; exact h.nt a x hx
theorem BdN.way {M : Int} {n k : Nat} {s : SS} {p' : Pr} {a : Sm × Sm} {y : Wm} (h : BdN M n s) (h1 : p'.ow ≤ M) (h2 : ∀ x ∈ y.nt, -1 ≤ x ∧ x ≤ M) : BdN M n ⟨s.ps.set k p', upW s.w a y⟩ := by
  refine ⟨fun p hp => ?_, fun b x hx => ?_⟩
  · rcases set_casesP hp with rfl | hp
    · exact h1
    · exact h.ow p hp
  · have hx : x ∈ (upW s.w a y b).nt := hx
    unfold upW at hx; split at hx
    · exact h2 x hx
    · exact h.nt b x hx
theorem BdN.take {M : Int} {n m i f : Nat} {s : SS} (h : BdN M n s) (hb : BdS m M n s) (hn : n ≤ 6) (hi : i < n) (hf : f < n) (hne : f ≠ i) : BdN M n (takeS s i f).2 := by
  have hnk : smN f ≠ smN i := fun e => hne (smN_inj (by omega) (by omega) e)
  obtain ⟨p, hp⟩ := get_of_lt (xs := s.ps) (k := i) (by rw [hb.len]; exact hi)
  cases hq : (s.w (smN f, smN i)).q with
  | nil => unfold takeS; rw [hq]; exact h
  | cons x l =>
    by_cases hx : x = -1
    · subst hx
      rw [take_mark_eq hq hp hnk]
      have h1 := h.note (i := i) hb
      obtain ⟨p', hp'⟩ := get_of_lt (xs := (noteS s i).ps) (k := i) (by rw [(hb.note (i := i)).len]; exact hi)
      have h2 := h1.way (k := i) (p' := p') (a := (smN f, smN i)) (y := ⟨l, (s.w (smN f, smN i)).nt, true⟩) (h1.ow p' (List.mem_of_getElem? hp')) (h.nt _)
      rw [List.set_getElem?_self' hp'] at h2
      exact h2
    · unfold takeS; rw [hq]; dsimp only; rw [hp]; dsimp only; rw [if_neg hx]
      refine h.way (h.ow p (List.mem_of_getElem? hp)) fun y hy => ?_
      dsimp only at hy
      split at hy
      · rcases List.mem_append.1 hy with g | g
        · exact h.nt _ y g
        · rw [List.mem_singleton.1 g]
          exact ⟨hb.v _ x (by rw [hq]; simp), hb.q_le hf hi hq⟩
      · exact h.nt _ y hy
theorem BdN.step {M : Int} {n m : Nat} {s : SS} (h : BdN M n s) (hb : BdS m M n s) (hn : n ≤ 6) (c : Mv) : BdN M n (stepS s c).2 := by
  unfold stepS
  split
  · exact h
  · split
    · exact h
    · rename_i h2
      have h6 : isN s.ps.length c.who = true := by
        cases e : isN s.ps.length c.who
        · exact absurd e h2
        · rfl
      obtain ⟨i, e1, e2⟩ := isN_yes h6
      rw [hb.len] at e2
      split
      · split
        · split
          · exact h.note hb
          · exact h
        · exact h
      · split
        · exact h
        · rename_i h3
          have h5 : isN s.ps.length c.oth = true := by
            cases e : isN s.ps.length c.oth
            · exact absurd (.inl e) h3
            · rfl
          obtain ⟨j, e3, e4⟩ := isN_yes h5
          rw [hb.len] at e4
          have hne : j ≠ i := fun e => h3 (.inr (by rw [e1, e3, e]))
          rw [e1, e3, Int.toNat_natCast, Int.toNat_natCast]
          split
          · exact h.take hb hn e2 e4 hne
          · unfold sendS
            split
            · exact h
            · rename_i p hp
              split
              · exact h
              · exact h.way (h.ow p (List.mem_of_getElem? hp)) (h.nt _)
theorem BdN.run {M : Int} {n : Nat} (hn : n ≤ 6) : ∀ (l : List Mv) {m : Nat} {s : SS}, BdN M n s → BdS m M n s → BdN M n (stS s l)
  | [], m, s, h, _ => h
  | c :: l, m, s, h, hb => BdN.run hn l (h.step hb hn c) (hb.step hn c)
theorem lsum_bd : ∀ {l : List Int}, (∀ x ∈ l, -1 ≤ x ∧ x ≤ 6000) → -(l.length : Int) ≤ lsum l ∧ lsum l ≤ 6000 * l.length
  | [], _ => by simp [lsum]
  | a :: l, h => by have := lsum_bd (l := l) fun x hx => h x (by simp [hx]); have := h a (by simp); simp only [lsum, List.sum_cons, List.length_cons] at this ⊢; unfold lsum at *; omega
theorem lsum_snoc {l : List Int} {i : Nat} {x : Int} (h : l[i]? = some x) : lsum (l.take (i + 1)) = lsum (l.take i) + x := by
  rw [take_of h, lsum_app]; simp [lsum]
theorem take_bd {l : List Int} {i : Nat} (h : ∀ x ∈ l, -1 ≤ x ∧ x ≤ 6000) (hi : i ≤ l.length) : -(i : Int) ≤ lsum (l.take i) ∧ lsum (l.take i) ≤ 6000 * i := by
  have := lsum_bd (l := l.take i) fun x hx => h x (List.mem_of_mem_take hx)
  rw [List.length_take, Nat.min_eq_left hi] at this; exact this
def nsum (s : SS) (n : Nat) (k : Nat) : Int := sum1 (fun k => lsum (nts s n k)) k
theorem nts_bd {M : Int} {n m : Nat} {s : SS} (h : BdN M n s) (hb : BdS m M n s) (hM : M ≤ 6000) (k : Nat) : (∀ x ∈ nts s n k, -1 ≤ x ∧ x ≤ 6000) ∧ (nts s n k).length ≤ m := by
  unfold nts
  split
  · exact ⟨fun x hx => (by cases hx), Nat.zero_le _⟩
  · exact ⟨fun x hx => by have := h.nt _ x hx; omega, (hb.q _).2⟩
theorem nsum_bd {M : Int} {n : Nat} {s : SS} (h : BdN M n s) (hb : BdS 240 M n s) (hM : M ≤ 6000) : ∀ k : Nat, -240 * (k : Int) ≤ nsum s n k ∧ nsum s n k ≤ 1440000 * k
  | 0 => by simp [nsum, sum1]
  | k + 1 => by
    have ih := nsum_bd h hb hM k
    obtain ⟨h1, h2⟩ := nts_bd h hb hM k
    have h3 := lsum_bd h1
    have : nsum s n (k + 1) = nsum s n k + lsum (nts s n k) := rfl
    omega
theorem sum1_add (f : Nat → Int) (a : Nat) : ∀ b, sum1 f (a + b) = sum1 f a + sum1 (fun j => f (a + j)) b
  | 0 => by simp [sum1]
  | b + 1 => by rw [← Nat.add_assoc]; simp only [sum1]; rw [sum1_add f a b]; omega
theorem sum1_mul {n : Nat} (g : Nat → Nat → Int) (hn : 0 < n) : ∀ m, sum1 (fun k => g (k / n) (k % n)) (m * n) = sum1 (fun i => sum1 (fun j => g i j) n) m
  | 0 => by simp [sum1]
  | m + 1 => by
    rw [Nat.add_mul, Nat.one_mul, sum1_add, sum1_mul g hn m]
    simp only [sum1]
    rw [sum1_congr (f := fun j => g ((m * n + j) / n) ((m * n + j) % n)) (g := fun j => g m j) fun j hj => by
      rw [Nat.mul_comm m n, Nat.mul_add_div hn, Nat.div_eq_of_lt hj, Nat.mul_add_mod, Nat.mod_eq_of_lt hj, Nat.add_zero]]
theorem nsum_all (s : SS) {n : Nat} (hn : 0 < n) : nsum s n (n * n) = sum1 (fun i => sum1 (fun j => if i = j then 0 else lsum (s.w (smN i, smN j)).nt) n) n := by
  rw [← sum1_mul (fun i j => if i = j then 0 else lsum (s.w (smN i, smN j)).nt) hn n]
  refine sum1_congr fun k _ => ?_
  unfold nts
  split <;> rfl
theorem has_le {M : Int} {n m : Nat} {s : SS} (hb : BdS m M n s) : lsum (s.ps.map Pr.mo) ≤ M := by
  have h2 := sumP_nn (n := n) (f := fun a => qs (s.w a).q) fun a => qs_nn (hb.v a)
  have h3 := hb.tot; unfold totS at h3; omega
end Go.Proofs.Ytanipkddfngnnaa
