/- What all know. Plain words. No condition. -/
import Derived.Test.YtmkhjlmhobihmaaA5
namespace Go.Proofs.Ytmkhjlmhobihmaa
open Go.RowKit
set_option linter.unusedVariables false
set_option linter.unusedSimpArgs false
set_option maxRecDepth 100000

theorem least_in {P : Int → Prop} : ∀ (l : List Int), (∃ x ∈ l, P x) → ∃ m ∈ l, P m ∧ ∀ x ∈ l, P x → m ≤ x
  | [], ⟨x, h, _⟩ => by cases h
  | a :: l, h => by
    by_cases hl : ∃ x ∈ l, P x
    · obtain ⟨m, h1, h2, h3⟩ := least_in l hl
      by_cases ha : P a
      · rcases Int.le_total a m with q | q
        · exact ⟨a, List.mem_cons_self, ha, fun x hx hp => by
            rcases List.mem_cons.1 hx with rfl | hx
            · exact Int.le_refl _
            · exact Int.le_trans q (h3 x hx hp)⟩
        · exact ⟨m, List.mem_cons_of_mem _ h1, h2, fun x hx hp => by
            rcases List.mem_cons.1 hx with rfl | hx
            · exact q
            · exact h3 x hx hp⟩
      · exact ⟨m, List.mem_cons_of_mem _ h1, h2, fun x hx hp => by
          rcases List.mem_cons.1 hx with rfl | hx
          · exact absurd hp ha
          · exact h3 x hx hp⟩
    · obtain ⟨x, hx, hp⟩ := h
      rcases List.mem_cons.1 hx with rfl | hx
      · exact ⟨x, List.mem_cons_self, hp, fun y hy hq => by
          rcases List.mem_cons.1 hy with rfl | hy
          · exact Int.le_refl _
          · exact absurd ⟨y, hy, hq⟩ hl⟩
      · exact absurd ⟨x, hx, hp⟩ hl
theorem minP_spec {P : Int → Prop} {vs : List Int} (h : ∃ x, P x) (hs : ∀ x, P x → x ∈ vs) : P (minP P) ∧ ∀ x, P x → minP P ≤ x := by
  obtain ⟨x, hx⟩ := h
  obtain ⟨m, _, h2, h3⟩ := least_in (P := P) vs ⟨x, hs x hx, hx⟩
  have h4 : ∀ y, P y → m ≤ y := fun y hy => h3 y (hs y hy) hy
  rw [minP_of h2 h4]; exact ⟨h2, h4⟩
theorem minP_le {P Q : Int → Prop} {vs : List Int} (h : ∃ x, P x) (hQ : ∀ x, Q x → x ∈ vs) (hpq : ∀ x, P x → Q x) : minP Q ≤ minP P := by
  have h1 := minP_spec h (fun x hx => hQ x (hpq x hx))
  have h2 := minP_spec (h.imp hpq) hQ
  exact h2.2 _ (hpq _ h1.1)
theorem lst_at {cs : List Cr} {vs : List Int} {r i : Nat} (hi : i < vs.length) : (lstF cs vs r)[i]? = some (minP (Kn cs vs r i)) := by
  unfold lstF; rw [List.getElem?_map, List.getElem?_range hi]; rfl
theorem Kn.ex {cs : List Cr} {vs : List Int} {r i : Nat} (hi : i < vs.length) : ∃ x, Kn cs vs r i x := by
  obtain ⟨x, hx⟩ := get_of_lt hi
  exact ⟨x, Kn.up hx r⟩
theorem ag_mem {cs : List Cr} {vs : List Int} {r i : Nat} {y : Int} (hi : i < vs.length) (hy : (lstF cs vs r)[i]? = some y) : y ∈ vs := by
  rw [lst_at hi] at hy; cases hy
  exact (minP_spec (Kn.ex hi) fun x h => h.mem).1.mem
theorem ag_le {cs : List Cr} {vs : List Int} {r i : Nat} {x y : Int} (hx : vs[i]? = some x) (hy : (lstF cs vs r)[i]? = some y) : y ≤ x := by
  have hi := (List.getElem?_eq_some_iff.1 hx).1
  rw [lst_at hi] at hy; cases hy
  exact (minP_spec (Kn.ex hi) fun x h => h.mem).2 x (Kn.up hx r)
theorem Kn.mono {cs : List Cr} {vs : List Int} {r j : Nat} {x : Int} (h : Kn cs vs r j x) : ∀ k, Kn cs vs (r + k) j x
  | 0 => h
  | k + 1 => .inl (h.mono k)
theorem ag_none {vs : List Int} {r i : Nat} {y : Int} (hr : 0 < r) (hi : i < vs.length) (hy : (lstF [] vs r)[i]? = some y) {k : Nat} {v : Int} (hv : vs[k]? = some v) : y ≤ v := by
  rw [lst_at hi] at hy; cases hy
  refine (minP_spec (Kn.ex hi) fun x h => h.mem).2 v ?_
  have h1 : Kn [] vs 1 i v := by
    by_cases e : k = i
    · subst e; exact .inl hv
    · exact .inr ⟨k, (List.getElem?_eq_some_iff.1 hv).1, e, rfl, hv⟩
  have := h1.mono (r - 1)
  rwa [show 1 + (r - 1) = r by omega] at this
/-- a round in which nobody crashes -/
theorem calm {cs : List Cr} {R : Nat} (h : cs.length < R) : ∃ r, r < R ∧ ∀ c ∈ cs, c.rnd ≠ (r : Int) := by
  by_cases q : ∃ r, r < R ∧ ∀ c ∈ cs, c.rnd ≠ (r : Int)
  · exact q
  · exfalso
    have := nodup_subI ((List.range R).map fun (r : Nat) => (r : Int)) (cs.map Cr.rnd) (by
      rw [List.nodup_iff_pairwise_ne, List.pairwise_map]
      exact (List.nodup_iff_pairwise_ne.1 List.nodup_range).imp fun h e => h (by omega)) (fun x hx => by
      obtain ⟨r, hr, rfl⟩ := List.mem_map.1 hx
      have h1 := List.mem_range.1 hr
      by_cases q2 : ∃ c ∈ cs, c.rnd = (r : Int)
      · obtain ⟨c, h2, h3⟩ := q2
        exact List.mem_map.2 ⟨c, h2, h3⟩
      · exact absurd ⟨r, h1, fun c hc e => q2 ⟨c, hc, e⟩⟩ q)
    rw [List.length_map, List.length_map, List.length_range] at this
    omega
theorem sends_all : ∀ {cs : List Cr} {i : Int} {j j' : Nat} {r : Int}, (∀ c ∈ cs, c.rnd ≠ r) → sendsF cs i j r = true → sendsF cs i j' r = true
  | [], _, _, _, _, _, _ => rfl
  | c :: l, i, j, j', r, h, hs => by
    rw [sendsF] at hs ⊢
    split
    · rename_i e
      rw [if_pos e] at hs
      have : ¬ r = c.rnd := fun q => h c List.mem_cons_self q.symm
      rw [decide_eq_false this] at hs ⊢; exact hs
    · rename_i e
      rw [if_neg e] at hs
      exact sends_all (fun c hc => h c (List.mem_cons_of_mem _ hc)) hs
theorem sends_later : ∀ {cs : List Cr} {i : Int} {j j' : Nat} {r r' : Int}, r < r' → sendsF cs i j r' = true → sendsF cs i j' r = true
  | [], _, _, _, _, _, _, _ => rfl
  | c :: l, i, j, j', r, r', h, hs => by
    rw [sendsF] at hs ⊢
    split
    · rename_i e
      rw [if_pos e] at hs
      simp only [Bool.or_eq_true, Bool.and_eq_true, decide_eq_true_eq] at hs
      rw [decide_eq_true (show r < c.rnd by omega)]; rfl
    · rename_i e
      rw [if_neg e] at hs
      exact sends_later h hs
theorem sends_no : ∀ {cs : List Cr} {i : Int} {j : Nat} {r : Int}, (∀ c ∈ cs, c.who ≠ i) → sendsF cs i j r = true
  | [], _, _, _, _ => rfl
  | c :: l, i, j, r, h => by
    rw [sendsF, if_neg (h c List.mem_cons_self)]
    exact sends_no fun c hc => h c (List.mem_cons_of_mem _ hc)
theorem oneR {cs : List Cr} {vs : List Int} {r : Nat} (hr : ∀ c ∈ cs, c.rnd ≠ (r : Int)) : ∀ (k i : Nat) (x : Int), i < vs.length → sendsF cs (i : Int) 0 (r : Int) = true →
    (Kn cs vs (r + 1 + k) i x ↔ ∃ i0, i0 < vs.length ∧ sendsF cs (i0 : Int) 0 (r : Int) = true ∧ Kn cs vs r i0 x)
  | 0, i, x, hi, hs => by
    constructor
    · rintro (h | ⟨i', h1, h2, h3, h4⟩)
      · exact ⟨i, hi, hs, h⟩
      · exact ⟨i', h1, sends_all hr h3, h4⟩
    · rintro ⟨i0, h1, h2, h3⟩
      by_cases e : i0 = i
      · subst e; exact .inl h3
      · exact .inr ⟨i0, h1, e, sends_all hr h2, h3⟩
  | k + 1, i, x, hi, hs => by
    constructor
    · rintro (h | ⟨i', h1, h2, h3, h4⟩)
      · exact (oneR hr k i x hi hs).1 h
      · exact (oneR hr k i' x h1 (sends_later (r' := ((r + 1 + k : Nat) : Int)) (by omega) h3)).1 h4
    · intro h
      exact .inl ((oneR hr k i x hi hs).2 h)
theorem ag_same {cs : List Cr} {vs : List Int} {R i j : Nat} {x y : Int} (hR : cs.length < R) (hi : i < vs.length) (hj : j < vs.length) (ci : ∀ c ∈ cs, c.who ≠ (i : Int)) (cj : ∀ c ∈ cs, c.who ≠ (j : Int)) (hx : (lstF cs vs R)[i]? = some x) (hy : (lstF cs vs R)[j]? = some y) : x = y := by
  obtain ⟨r, h1, h2⟩ := calm hR
  rw [lst_at hi] at hx; rw [lst_at hj] at hy
  cases hx; cases hy
  have hk : r + 1 + (R - r - 1) = R := by omega
  have : Kn cs vs R i = Kn cs vs R j := by
    funext z
    have ha := oneR (vs := vs) h2 (R - r - 1) i z hi (sends_no ci)
    have hb := oneR (vs := vs) h2 (R - r - 1) j z hj (sends_no cj)
    rw [hk] at ha hb
    exact propext (ha.trans hb.symm)
  rw [this]
theorem more_up {cs : List Cr} {vs : List Int} {r k : Nat} {x y : Int} (hx : (lstF cs vs (r + 1))[k]? = some x) (hy : (lstF cs vs r)[k]? = some y) : x ≤ y := by
  have hk := (List.getElem?_eq_some_iff.1 hx).1
  rw [lst_len] at hk
  rw [lst_at hk] at hx hy
  cases hx; cases hy
  exact minP_le (vs := vs) (Kn.ex hk) (fun x h => h.mem) fun x h => .inl h
theorem Kn.less {c : Cr} {l : List Cr} {vs : List Int} (h : c.who ∉ whos l) : ∀ {r j : Nat} {x : Int}, Kn (c :: l) vs r j x → Kn l vs r j x
  | 0, j, x, q => q
  | r + 1, j, x, q => by
    rcases q with q | ⟨i, h1, h2, h3, h4⟩
    · exact .inl (Kn.less h q)
    · refine .inr ⟨i, h1, h2, ?_, Kn.less h h4⟩
      rw [sendsF] at h3
      split at h3
      · rename_i e
        exact sends_no fun d hd e2 => h (by rw [e, ← e2]; exact List.mem_map_of_mem hd)
      · exact h3
theorem more_less {c : Cr} {l : List Cr} {vs : List Int} {r k : Nat} {x y : Int} (h : c.who ∉ whos l) (hx : (lstF l vs r)[k]? = some x) (hy : (lstF (c :: l) vs r)[k]? = some y) : x ≤ y := by
  have hk := (List.getElem?_eq_some_iff.1 hx).1
  rw [lst_len] at hk
  rw [lst_at hk] at hx hy
  cases hx; cases hy
  exact minP_le (vs := vs) (Kn.ex hk) (fun x h => h.mem) fun x q => q.less h
theorem wr_zero {n : Nat} : ∀ {cs : List Cr} {s : List Int}, (∀ c ∈ cs, badC n c = false) → (s ++ whos cs).Nodup → wrC n cs s = 0
  | [], s, _, _ => rfl
  | c :: l, s, h1, h2 => by
    have hm : c.who ∉ s := fun h => by
      rw [List.nodup_append] at h2
      exact h2.2.2 _ h c.who (by simp [whos]) rfl
    rw [wrC, if_neg (by rw [h1 c List.mem_cons_self]; decide), if_neg hm]
    exact wr_zero (fun c hc => h1 c (List.mem_cons_of_mem _ hc)) (by simpa [whos] using h2)
theorem wr_tail {n : Nat} {c : Cr} {l : List Cr} (h : wrC n (c :: l) [] = 0) : wrC n l [] = 0 ∧ c.who ∉ whos l := by
  obtain ⟨h1, h2⟩ := wr_ok (by simp) h
  simp only [List.nil_append, whos, List.map_cons, List.nodup_cons] at h2
  exact ⟨wr_zero (fun c hc => h1 c (List.mem_cons_of_mem _ hc)) (by simpa [whos] using h2.2), by simpa [whos] using h2.1⟩
theorem lst_zero {cs : List Cr} {vs : List Int} : lstF cs vs 0 = vs := by
  refine List.ext_getElem? fun k => ?_
  rcases Nat.lt_or_ge k vs.length with h | h
  · obtain ⟨x, hx⟩ := get_of_lt h
    rw [lst_at h, hx]
    exact congrArg some (minP_of (P := Kn cs vs 0 k) hx fun y hy => by
      have : vs[k]? = some y := hy
      rw [hx] at this; cases this; exact Int.le_refl _)
  · rw [List.getElem?_eq_none (by rw [lst_len]; exact h), List.getElem?_eq_none h]
theorem wr_crash {n w : Nat} (h : w < n) : wrC n [⟨(w : Int), 0, 0⟩] [] = 0 := by
  have : badC n ⟨(w : Int), 0, 0⟩ = false := by
    simp only [badC, Bool.or_eq_false_iff, decide_eq_false_iff_not]
    exact ⟨⟨⟨by omega, by omega⟩, by omega⟩, by simp⟩
  rw [wrC, if_neg (by rw [this]; decide), if_neg (by simp)]; rfl
theorem crash_mute {w j r : Nat} : sendsF [⟨(w : Int), 0, 0⟩] (w : Int) j (r : Int) = false := by
  rw [sendsF, if_pos rfl, decide_eq_false (show ¬ (r : Int) < 0 by omega)]; simp
theorem Kn.other {vs : List Int} {w : Nat} {y : Int} : ∀ {r j : Nat} {x : Int}, j ≠ w → Kn [⟨(w : Int), 0, 0⟩] vs r j x → Kn [⟨(w : Int), 0, 0⟩] (vs.set w y) r j x
  | 0, j, x, hj, h => by
    show (vs.set w y)[j]? = some x
    rw [List.getElem?_set_ne (Ne.symm hj)]; exact h
  | r + 1, j, x, hj, h => by
    rcases h with h | ⟨i, h1, h2, h3, h4⟩
    · exact .inl (Kn.other hj h)
    · have hi : i ≠ w := fun e => by subst e; rw [crash_mute] at h3; cases h3
      exact .inr ⟨i, by rw [List.length_set]; exact h1, h2, h3, Kn.other hi h4⟩
theorem Kn.back {vs : List Int} {w : Nat} {y : Int} : ∀ {r j : Nat} {x : Int}, j ≠ w → Kn [⟨(w : Int), 0, 0⟩] (vs.set w y) r j x → Kn [⟨(w : Int), 0, 0⟩] vs r j x
  | 0, j, x, hj, h => by
    have h : (vs.set w y)[j]? = some x := h
    rw [List.getElem?_set_ne (Ne.symm hj)] at h; exact h
  | r + 1, j, x, hj, h => by
    rcases h with h | ⟨i, h1, h2, h3, h4⟩
    · exact .inl (Kn.back hj h)
    · have hi : i ≠ w := fun e => by subst e; rw [crash_mute] at h3; cases h3
      exact .inr ⟨i, by rw [List.length_set] at h1; exact h1, h2, h3, Kn.back hi h4⟩
theorem none_same {vs : List Int} {w r k : Nat} {y a b : Int} (hk : k ≠ w) (ha : (lstF [⟨(w : Int), 0, 0⟩] vs r)[k]? = some a) (hb : (lstF [⟨(w : Int), 0, 0⟩] (vs.set w y) r)[k]? = some b) : a = b := by
  have h1 := (List.getElem?_eq_some_iff.1 ha).1
  rw [lst_len] at h1
  rw [lst_at h1] at ha
  rw [lst_at (by rw [List.length_set]; exact h1)] at hb
  cases ha; cases hb
  rw [show Kn [⟨(w : Int), 0, 0⟩] vs r k = Kn [⟨(w : Int), 0, 0⟩] (vs.set w y) r k from funext fun x => propext ⟨Kn.other hk, Kn.back hk⟩]
end Go.Proofs.Ytmkhjlmhobihmaa
