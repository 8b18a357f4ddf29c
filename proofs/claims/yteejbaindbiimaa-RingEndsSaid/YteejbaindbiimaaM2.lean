/- Who is chosen; how many names are sent. Plain words. No condition. -/
import Derived.Test.YteejbaindbiimaaM1
namespace Go.Proofs.Yteejbaindbiimaa
open Go.RowKit
set_option linter.unusedVariables false
set_option linter.unusedSimpArgs false
set_option maxRecDepth 100000

theorem nodup_sub : ∀ (l l' : List Nat), l.Nodup → (∀ x ∈ l, x ∈ l') → l.length ≤ l'.length
  | [], _, _, _ => Nat.zero_le _
  | a :: l, l', hn, hs => by
    obtain ⟨h1, h2⟩ := List.nodup_cons.1 hn
    have := nodup_sub l (l'.erase a) h2 fun x hx => (List.mem_erase_of_ne (fun e => by subst e; exact h1 hx)).2 (hs x (by simp [hx]))
    have h3 := List.length_erase_of_mem (hs a (by simp))
    have h4 := List.length_pos_of_mem (hs a (by simp))
    simp only [List.length_cons]; omega
/-- a chosen one has the greatest name -/
theorem InvR.great {names : List Int} {s : RS} {h : Nat → Nat} {l : Nat → Bool} {ex : Nat → Prop} (I : InvR names s h l ex) {c : Nat} (hc : c ∈ s.ch) : c < names.length ∧ ∀ k, k < names.length → k ≠ c → nmI names k < nmI names c := by
  obtain ⟨c1, c2, c3⟩ := I.chc c hc
  refine ⟨c1, fun k hk hne => ?_⟩
  rcases Nat.lt_or_ge k c with q | q
  · have := I.pa c c1 (k + names.length - c) (by omega) (by omega)
    rwa [show c + (k + names.length - c) = k + names.length from by omega, Nat.add_mod_right, Nat.mod_eq_of_lt hk] at this
  · have := I.pa c c1 (k - c) (by omega) (by omega)
    rwa [show c + (k - c) = k from by omega, Nat.mod_eq_of_lt hk] at this
theorem InvR.one {names : List Int} {s : RS} {h : Nat → Nat} {l : Nat → Bool} {ex : Nat → Prop} (I : InvR names s h l ex) : s.ch = [] ∨ ∃ c, s.ch = [c] := by
  have hn := I.chN
  match e : s.ch with
  | [] => exact .inl rfl
  | [c] => exact .inr ⟨c, rfl⟩
  | a :: b :: r =>
    rw [e] at hn
    have ha := I.great (c := a) (by rw [e]; simp)
    have hb := I.great (c := b) (by rw [e]; simp)
    have hne : a ≠ b := by
      have := (List.nodup_cons.1 hn).1
      intro q; subst q; simp at this
    have h1 := ha.2 b hb.1 (Ne.symm hne)
    have h2 := hb.2 a ha.1 hne
    omega
def lowB (names : List Int) (o p : Nat) : Bool := decide (nmI names p < nmI names o)
def lowN (names : List Int) (n o : Nat) : Nat := ((List.range n).filter (lowB names o)).length
theorem InvR.hops {names : List Int} {s : RS} {h : Nat → Nat} {l : Nat → Bool} {ex : Nat → Prop} (I : InvR names s h l ex) {o : Nat} (ho : o < names.length) : h o ≤ 1 + lowN names names.length o := by
  have hn := I.le_n ho
  have := nodup_sub ((List.range (h o - 1)).map fun d => (o + (d + 1)) % names.length) ((List.range names.length).filter (lowB names o)) (by
    rw [List.nodup_iff_pairwise_ne, List.pairwise_map]
    refine List.Pairwise.imp_of_mem (R := (· < ·)) ?_ List.pairwise_lt_range
    intro a b ha hb hab e
    simp only [List.mem_range] at ha hb
    have key : ∀ x y : Nat, x < names.length → y < names.length → x ≤ y → (o + x) % names.length = (o + y) % names.length → x = y := by
      intro x y hx hy hxy e
      have h1 : ((o + x) + (y - x)) % names.length = (o + x) % names.length := by rw [show o + x + (y - x) = o + y from by omega]; exact e.symm
      have h2 : (y - x) % names.length = 0 := by
        have h3 := Nat.sub_mod_eq_zero_of_mod_eq h1
        rwa [Nat.add_sub_cancel_left] at h3
      rw [Nat.mod_eq_of_lt (by omega)] at h2; omega
    have := key (a + 1) (b + 1) (by omega) (by omega) (by omega) e
    omega) (fun x hx => by
    obtain ⟨d, hd, rfl⟩ := List.mem_map.1 hx
    rw [List.mem_range] at hd
    exact List.mem_filter.2 ⟨List.mem_range.2 (Nat.mod_lt _ (by omega)), decide_eq_true (I.pa o ho (d + 1) (by omega) (by omega))⟩)
  rw [List.length_map, List.length_range] at this
  unfold lowN; omega
theorem sumN_le {h g : Nat → Nat} : ∀ {n : Nat}, (∀ o, o < n → h o ≤ g o) → sumN h n ≤ sumN g n
  | 0, _ => Nat.le_refl _
  | n + 1, hh => by
    have := sumN_le (h := h) (g := g) (n := n) fun o ho => hh o (by omega)
    have := hh n (by omega)
    simp only [sumN]; omega
theorem lowN_succ (names : List Int) (n o : Nat) : lowN names (n + 1) o = lowN names n o + if lowB names o n then 1 else 0 := by
  unfold lowN
  rw [List.range_succ, List.filter_append]
  by_cases q : lowB names o n = true <;> simp [q]
theorem sumN_add (h g : Nat → Nat) : ∀ n, sumN (fun o => h o + g o) n = sumN h n + sumN g n
  | 0 => rfl
  | n + 1 => by simp only [sumN]; rw [sumN_add h g n]; omega
theorem sumN_const (k : Nat) : ∀ n, sumN (fun _ => k) n = n * k
  | 0 => by simp [sumN]
  | n + 1 => by simp only [sumN]; rw [sumN_const k n, Nat.succ_mul]
theorem cross (names : List Int) (m : Nat) : ∀ n, sumN (fun o => if lowB names o m then 1 else 0) n + lowN names n m ≤ n
  | 0 => by simp [sumN, lowN]
  | n + 1 => by
    have ih := cross names m n
    rw [lowN_succ]
    simp only [sumN]
    have : (if lowB names n m then 1 else 0) + (if lowB names m n then 1 else 0) ≤ 1 := by
      unfold lowB
      by_cases q : nmI names m < nmI names n
      · rw [if_pos (decide_eq_true q), if_neg (by simp; omega)]
        decide
      · rw [if_neg (by simpa using q)]
        split <;> decide
    omega
theorem pairs_le (names : List Int) : ∀ n, 2 * sumN (lowN names n) n ≤ n * (n - 1)
  | 0 => by simp [sumN]
  | n + 1 => by
    have ih := pairs_le names n
    have h1 : sumN (lowN names (n + 1)) n = sumN (lowN names n) n + sumN (fun o => if lowB names o n then 1 else 0) n := by
      rw [← sumN_add]
      have : ∀ k, sumN (lowN names (n + 1)) k = sumN (fun o => lowN names n o + if lowB names o n then 1 else 0) k := fun k => by
        induction k with
        | zero => rfl
        | succ k ih => simp only [sumN, lowN_succ] at ih ⊢; omega
      exact this n
    have h2 : lowN names (n + 1) n = lowN names n n := by
      rw [lowN_succ]; unfold lowB; rw [if_neg (by simp)]; rfl
    have h3 := cross names n n
    have h4 : sumN (lowN names (n + 1)) (n + 1) = sumN (lowN names (n + 1)) n + lowN names (n + 1) n := rfl
    rw [h4, h1, h2]
    have h5 : (n + 1) * (n + 1 - 1) = n * (n - 1) + 2 * n := by
      cases n with
      | zero => rfl
      | succ k => simp only [Nat.add_sub_cancel]; rw [Nat.succ_mul (k + 1), Nat.mul_succ]; simp only [Nat.mul_succ, Nat.succ_mul]; omega
    omega
theorem InvR.few {names : List Int} {s : RS} {h : Nat → Nat} {l : Nat → Bool} {ex : Nat → Prop} (I : InvR names s h l ex) : s.sent ≤ names.length * (names.length + 1) / 2 := by
  rw [I.sm]
  have h1 := sumN_le (n := names.length) (h := h) (g := fun o => 1 + lowN names names.length o) fun o ho => I.hops ho
  have h2 := sumN_add (fun _ => 1) (lowN names names.length) names.length
  rw [sumN_const] at h2
  have h3 := pairs_le names names.length
  have h4 : names.length * (names.length + 1) = names.length * (names.length - 1) + 2 * names.length := by
    generalize names.length = n
    cases n with
    | zero => rfl
    | succ k => simp only [Nat.add_sub_cancel, Nat.mul_succ, Nat.succ_mul]; omega
  have h5 : sumN (fun o => (fun _ => 1) o + lowN names names.length o) names.length = sumN (fun o => 1 + lowN names names.length o) names.length := rfl
  rw [← h5, h2] at h1
  omega
/-! what is on its way -/
def sumQ (l : List Se) : Nat := (l.map fun x => x.q.length).sum
theorem away_sum : ∀ (l : List Se), awayR l l.length = sumQ l := by
  have key : ∀ (l : List Se) (k : Nat), k ≤ l.length → awayR l k = sumQ (l.take k) := by
    intro l k
    induction k with
    | zero => intro _; simp [awayR, sumQ]
    | succ k ih =>
      intro hk
      obtain ⟨x, hx⟩ := get_of_lt (xs := l) (k := k) (by omega)
      rw [awayR_succ hx, ih (by omega), take_of hx]
      simp [sumQ]
  intro l
  rw [key l l.length (Nat.le_refl _), List.take_length]
theorem sumQ_up : ∀ {l : List Se} {i : Nat} {f : Se → Se} {x : Se}, l[i]? = some x → sumQ (upS l i f) + x.q.length = sumQ l + (f x).q.length := by
  intro l i f x h
  rw [upS_at h]
  induction l generalizing i with
  | nil => simp at h
  | cons c l ih =>
    cases i with
    | zero => simp at h; subst h; simp [sumQ]; omega
    | succ i =>
      have := ih (i := i) (by simpa using h)
      simp only [sumQ, List.set_cons_succ, List.map_cons, List.sum_cons] at this ⊢; omega
theorem sumQ_send {s : RS} {i : Nat} {a : Int} (hi : i < s.ss.length) : sumQ (sendR s i a).ss = sumQ s.ss + 1 := by
  obtain ⟨x, hx⟩ := get_of_lt hi
  have h1 := sumQ_up (f := fun x => { x with pt := true }) hx
  dsimp only at h1
  have hnx : (i + 1) % s.ss.length < (upS s.ss i fun x => { x with pt := true }).length := by rw [upS_len]; exact Nat.mod_lt _ (by omega)
  obtain ⟨y, hy⟩ := get_of_lt hnx
  have h2 := sumQ_up (f := fun x => { x with q := x.q ++ [a] }) hy
  simp only [List.length_append, List.length_singleton] at h2
  show sumQ (upS (upS s.ss i _) _ _) = _
  omega
/-- how a step changes what was sent and what is on its way -/
theorem step_away (s : RS) (c : Mv) : ((stepR s c).2.sent + sumQ s.ss = s.sent + sumQ (stepR s c).2.ss) ∨ (c.kind = 2 ∧ ∃ x, s.ss[c.who.toNat]? = some x ∧ x.q ≠ [] ∧ (stepR s c).2.sent + sumQ s.ss = s.sent + sumQ (stepR s c).2.ss + 1) := by
  unfold stepR
  split
  · exact .inl rfl
  split
  · exact .inl rfl
  rename_i hk hw
  split
  · rename_i hk2
    unfold takeR
    split
    · exact .inl rfl
    rename_i x hx
    split
    · exact .inl rfl
    rename_i a lq hq
    right
    refine ⟨hk2, x, hx, by rw [hq]; simp, ?_⟩
    have hi := (List.getElem?_eq_some_iff.1 hx).1
    have h1 := sumQ_up (f := fun x => { x with q := lq }) hx
    rw [hq] at h1
    simp only [List.length_cons] at h1
    split
    · rw [sumQ_send (by dsimp only; rw [upS_len]; exact hi)]; show s.sent + 1 + _ = _; first | omega | (dsimp only; omega)
    split
    · dsimp only; omega
    split
    · rw [sumQ_send (by dsimp only; rw [upS_len]; exact hi)]; show s.sent + 1 + _ = _; first | omega | (dsimp only; omega)
    · dsimp only; omega
  · split
    · exact .inl rfl
    rename_i x hx
    split
    · exact .inl rfl
    · left
      rw [sumQ_send (List.getElem?_eq_some_iff.1 hx).1]; show s.sent + 1 + _ = _; first | omega | (dsimp only; omega)
theorem away_le : ∀ (cs : List Mv) {s : RS}, sumQ s.ss ≤ s.sent → sumQ (stR s cs).ss ≤ (stR s cs).sent
  | [], s, h => h
  | c :: cs, s, h => by
    refine away_le cs ?_
    rcases step_away s c with q | ⟨_, _, _, _, q⟩ <;> omega
theorem sumQ_zero (names : List Int) : sumQ (rs0 names).ss = 0 := by
  simp only [rs0, sumQ, List.map_map]
  induction names with
  | nil => rfl
  | cons a l ih => simp only [List.map_cons, List.sum_cons, ih]; rfl
/-! what stays -/
structure LeR (s s' : RS) : Prop where
  sent : s.sent ≤ s'.sent
  ch : s.ch <+: s'.ch
theorem LeR.refl (s : RS) : LeR s s := ⟨Nat.le_refl _, List.prefix_refl _⟩
theorem LeR.trans {a b c : RS} (h : LeR a b) (h' : LeR b c) : LeR a c := ⟨Nat.le_trans h.sent h'.sent, h.ch.trans h'.ch⟩
theorem LeR.step (s : RS) (c : Mv) : LeR s (stepR s c).2 := by
  unfold stepR takeR
  repeat' split
  all_goals first | exact LeR.refl s | exact ⟨Nat.le_succ _, List.prefix_refl _⟩ | exact ⟨Nat.le_refl _, List.prefix_append _ _⟩ | exact ⟨Nat.le_refl _, List.prefix_refl _⟩
theorem LeR.run : ∀ (cs : List Mv) (s : RS), LeR s (stR s cs)
  | [], s => LeR.refl s
  | c :: cs, s => (LeR.step s c).trans (LeR.run cs _)
end Go.Proofs.Yteejbaindbiimaa
