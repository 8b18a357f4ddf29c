/- Names on their way round. Plain words. No condition. -/
import Derived.Test.YteejbaindbiimaaA5
namespace Go.Proofs.Yteejbaindbiimaa
open Go.RowKit
set_option linter.unusedVariables false
set_option linter.unusedSimpArgs false
set_option maxRecDepth 100000

theorem upS_get {l : List Se} {i j : Nat} {f : Se → Se} {y : Se} (h : (upS l i f)[j]? = some y) : ∃ x, l[j]? = some x ∧ y = if j = i then f x else x := by
  unfold upS at h
  cases e : l[i]? with
  | none =>
    rw [e] at h
    have hne : j ≠ i := fun c => by subst c; rw [e] at h; cases h
    exact ⟨y, h, by rw [if_neg hne]⟩
  | some x =>
    rw [e] at h
    dsimp only at h
    by_cases c : i = j
    · subst c
      rw [List.getElem?_set_self (List.getElem?_eq_some_iff.1 e).1] at h
      cases h; exact ⟨x, e, by rw [if_pos rfl]⟩
    · rw [List.getElem?_set_ne c] at h
      exact ⟨y, h, by rw [if_neg (Ne.symm c)]⟩
theorem sendR_get {s : RS} {i j : Nat} {a : Int} {y : Se} (h : (sendR s i a).ss[j]? = some y) : ∃ x, s.ss[j]? = some x ∧ y.nm = x.nm ∧ (y.pt = if j = i then true else x.pt) ∧ y.q = if j = (i + 1) % s.ss.length then x.q ++ [a] else x.q := by
  obtain ⟨x1, h1, rfl⟩ := upS_get h
  obtain ⟨x, h2, rfl⟩ := upS_get h1
  by_cases c1 : j = i
  · by_cases c2 : j = (i + 1) % s.ss.length
    · simp only [if_pos c1, if_pos c2]; first | exact ⟨x, h2, rfl, rfl, rfl⟩ | exact ⟨x, h2, trivial, rfl, rfl⟩ | exact ⟨x, h2, by simp⟩
    · simp only [if_pos c1, if_neg c2]; first | exact ⟨x, h2, rfl, rfl, rfl⟩ | exact ⟨x, h2, trivial, rfl, rfl⟩ | exact ⟨x, h2, by simp⟩
  · by_cases c2 : j = (i + 1) % s.ss.length
    · simp only [if_neg c1, if_pos c2]; first | exact ⟨x, h2, rfl, rfl, rfl⟩ | exact ⟨x, h2, trivial, rfl, rfl⟩ | exact ⟨x, h2, by simp⟩
    · simp only [if_neg c1, if_neg c2]; first | exact ⟨x, h2, rfl, rfl, rfl⟩ | exact ⟨x, h2, trivial, rfl, rfl⟩ | exact ⟨x, h2, by simp⟩
def nmI (names : List Int) (i : Nat) : Int := (names[i]?).getD 0
def sumN (h : Nat → Nat) : Nat → Nat
  | 0 => 0
  | n + 1 => sumN h n + h n
def upN {α : Type} (h : Nat → α) (o : Nat) (v : α) : Nat → α := fun k => if k = o then v else h k
theorem upN_self {α : Type} (h : Nat → α) (o : Nat) (v : α) : upN h o v o = v := if_pos rfl
theorem upN_ne {α : Type} {h : Nat → α} {o k : Nat} {v : α} (e : k ≠ o) : upN h o v k = h k := if_neg e
theorem sum_up (h : Nat → Nat) (o v : Nat) : ∀ n, sumN (upN h o v) n + (if o < n then h o else 0) = sumN h n + (if o < n then v else 0)
  | 0 => by simp [sumN]
  | n + 1 => by
    have ih := sum_up h o v n
    simp only [sumN]
    by_cases e : n = o
    · subst e
      rw [upN_self]
      rw [if_neg (Nat.lt_irrefl n), if_neg (Nat.lt_irrefl n)] at ih
      rw [if_pos (Nat.lt_succ_self n), if_pos (Nat.lt_succ_self n)]; omega
    · rw [upN_ne e]
      by_cases c : o < n
      · rw [if_pos c, if_pos c] at ih
        rw [if_pos (by omega), if_pos (by omega)]; omega
      · rw [if_neg c, if_neg c] at ih
        rw [if_neg (by omega), if_neg (by omega)]; omega
structure InvR (names : List Int) (s : RS) (h : Nat → Nat) (l : Nat → Bool) (ex : Nat → Prop) : Prop where
  len : s.ss.length = names.length
  nm : ∀ (i : Nat) (x : Se), s.ss[i]? = some x → x.nm = nmI names i
  mem : ∀ (j : Nat) (x : Se), s.ss[j]? = some x → ∀ a, a ∈ x.q ↔ ∃ o, o < names.length ∧ nmI names o = a ∧ l o = true ∧ (o + h o) % names.length = j
  nd : ∀ (j : Nat) (x : Se), s.ss[j]? = some x → x.q.Nodup
  lv : ∀ o, o < names.length → l o = true → 1 ≤ h o
  pa : ∀ o, o < names.length → ∀ d, 1 ≤ d → d < h o → nmI names ((o + d) % names.length) < nmI names o
  sm : s.sent = sumN h names.length
  pt : ∀ (i : Nat) (x : Se), s.ss[i]? = some x → 1 ≤ h i → x.pt = true
  pg : ∀ (i : Nat) (x : Se), s.ss[i]? = some x → x.pt = true → ∃ o, o < names.length ∧ 1 ≤ h o ∧ nmI names i ≤ nmI names o
  chN : s.ch.Nodup
  chc : ∀ c ∈ s.ch, c < names.length ∧ h c = names.length ∧ l c = false
  al : ∀ o, o < names.length → 1 ≤ h o → ¬ ex o → l o = true ∨ o ∈ s.ch ∨ ∃ o', o' < names.length ∧ 1 ≤ h o' ∧ nmI names o < nmI names o'
def Dist (names : List Int) : Prop := ∀ i j, i < names.length → j < names.length → nmI names i = nmI names j → i = j
theorem Dist.of {names : List Int} (h : names.Nodup) : Dist names := fun i j hi hj e => by
  unfold nmI at e
  rw [List.getElem?_eq_getElem hi, List.getElem?_eq_getElem hj] at e
  have e : names[i] = names[j] := e
  have := List.pairwise_iff_getElem.1 h
  rcases Nat.lt_trichotomy i j with c | c | c
  · exact absurd e (this i j hi hj c)
  · exact c
  · exact absurd e.symm (this j i hj hi c)
abbrev noEx : Nat → Prop := fun _ => False
theorem InvR.zero (names : List Int) : InvR names (rs0 names) (fun _ => 0) (fun _ => false) noEx := by
  have h0 : ∀ (i : Nat) (x : Se), (rs0 names).ss[i]? = some x → ∃ y, names[i]? = some y ∧ x = ⟨y, false, []⟩ := fun i x h => by
    simp only [rs0, List.getElem?_map, Option.map_eq_some_iff] at h
    obtain ⟨y, h1, h2⟩ := h
    exact ⟨y, h1, h2.symm⟩
  refine ⟨by simp [rs0], fun i x h => ?_, fun j x h a => ?_, fun j x h => ?_, fun o _ h => (by cases h), fun o _ d h1 h2 => (by omega), ?_, fun i x _ h => (by omega), fun i x h hp => ?_, List.nodup_nil, fun c h => (by cases h), fun o _ h => (by omega)⟩
  · obtain ⟨y, h1, rfl⟩ := h0 i x h
    unfold nmI; rw [h1]; rfl
  · obtain ⟨y, h1, rfl⟩ := h0 j x h
    exact ⟨fun h => (by cases h), fun ⟨o, _, _, h, _⟩ => (by cases h)⟩
  · obtain ⟨y, h1, rfl⟩ := h0 j x h; exact List.nodup_nil
  · have : ∀ n, sumN (fun _ => 0) n = 0 := fun n => by induction n with | zero => rfl | succ n ih => simp [sumN, ih]
    rw [this]; rfl
  · obtain ⟨y, h1, rfl⟩ := h0 i x h; cases hp
theorem InvR.le_n {names : List Int} {s : RS} {h : Nat → Nat} {l : Nat → Bool} {ex : Nat → Prop} (I : InvR names s h l ex) {o : Nat} (ho : o < names.length) : h o ≤ names.length := by
  rcases Nat.lt_or_ge names.length (h o) with c | c
  · have := I.pa o ho names.length (by omega) c
    rw [Nat.add_mod_right, Nat.mod_eq_of_lt ho] at this; omega
  · exact c
/-- the token of o comes off the queue of i -/
theorem InvR.drop {names : List Int} {s : RS} {h : Nat → Nat} {l : Nat → Bool} {i : Nat} {x : Se} {a : Int} {lq : List Int} (I : InvR names s h l noEx) (D : Dist names) (hx : s.ss[i]? = some x) (hq : x.q = a :: lq) :
    ∃ o, o < names.length ∧ nmI names o = a ∧ l o = true ∧ (o + h o) % names.length = i ∧ InvR names ⟨upS s.ss i (fun x => { x with q := lq }), s.ch, s.sent⟩ h (upN l o false) (fun k => k = o) := by
  obtain ⟨o, ho, hn, hl, hp⟩ := (I.mem i x hx a).1 (by rw [hq]; simp)
  have hnd := I.nd i x hx
  rw [hq] at hnd
  obtain ⟨n1, n2⟩ := List.nodup_cons.1 hnd
  refine ⟨o, ho, hn, hl, hp, by dsimp only; rw [upS_len]; exact I.len, fun j y hy => ?_, fun j y hy b => ?_, fun j y hy => ?_, fun k hk hlk => ?_, I.pa, I.sm, fun j y hy h1 => ?_, fun j y hy h1 => ?_, I.chN, fun c hc => ?_, fun k hk h1 hne => ?_⟩
  · obtain ⟨z, hz, rfl⟩ := upS_get hy
    have := I.nm j z hz
    split <;> exact this
  · obtain ⟨z, hz, rfl⟩ := upS_get hy
    have hm := I.mem j z hz b
    by_cases e : j = i
    · subst e
      cases hx.symm.trans hz
      rw [if_pos rfl]
      rw [hq, List.mem_cons] at hm
      constructor
      · intro hb
        obtain ⟨k, k1, k2, k3, k4⟩ := hm.1 (.inr hb)
        refine ⟨k, k1, k2, ?_, k4⟩
        rw [upN_ne]; exact k3
        intro e; subst e; rw [hn] at k2; subst k2; exact n1 hb
      · rintro ⟨k, k1, k2, k3, k4⟩
        have hne : k ≠ o := fun e => by subst e; rw [upN_self] at k3; cases k3
        rw [upN_ne hne] at k3
        rcases hm.2 ⟨k, k1, k2, k3, k4⟩ with e | e
        · rw [e] at k2; exact absurd (D k o k1 ho (k2.trans hn.symm)) hne
        · exact e
    · rw [if_neg e, hm]
      constructor
      · rintro ⟨k, k1, k2, k3, k4⟩
        refine ⟨k, k1, k2, ?_, k4⟩
        rw [upN_ne]; exact k3
        intro e2; subst e2; exact e (k4.symm.trans hp)
      · rintro ⟨k, k1, k2, k3, k4⟩
        have hne : k ≠ o := fun e => by subst e; rw [upN_self] at k3; cases k3
        rw [upN_ne hne] at k3
        exact ⟨k, k1, k2, k3, k4⟩
  · obtain ⟨z, hz, rfl⟩ := upS_get hy
    split
    · exact n2
    · exact I.nd j z hz
  · have hne : k ≠ o := fun e => by subst e; rw [upN_self] at hlk; cases hlk
    rw [upN_ne hne] at hlk; exact I.lv k hk hlk
  · obtain ⟨z, hz, rfl⟩ := upS_get hy
    have := I.pt j z hz h1
    split <;> exact this
  · obtain ⟨z, hz, rfl⟩ := upS_get hy
    refine I.pg j z hz ?_
    split at h1 <;> exact h1
  · obtain ⟨c1, c2, c3⟩ := I.chc c hc
    refine ⟨c1, c2, ?_⟩
    by_cases e : c = o
    · subst e; rw [upN_self]
    · rw [upN_ne e]; exact c3
  · rcases I.al k hk h1 (fun h => h) with q | q | q
    · left; rw [upN_ne hne]; exact q
    · exact .inr (.inl q)
    · exact .inr (.inr q)
/-- the token of o goes from i to the next one -/
theorem InvR.send {names : List Int} {s : RS} {h : Nat → Nat} {l : Nat → Bool} {ex : Nat → Prop} {i o : Nat} (I : InvR names s h l ex) (D : Dist names) (hi : i < names.length) (ho : o < names.length) (hp : (o + h o) % names.length = i) (hl : l o = false) (hc : h o = 0 ∨ nmI names i < nmI names o) :
    InvR names (sendR s i (nmI names o)) (upN h o (h o + 1)) (upN l o true) (fun k => ex k ∧ k ≠ o) := by
  have hge : ∀ k, h k ≤ upN h o (h o + 1) k := fun k => by
    by_cases e : k = o
    · subst e; rw [upN_self]; omega
    · rw [upN_ne e]; exact Nat.le_refl _
  have hoi : h o = 0 → o = i := fun e => by rw [e, Nat.add_zero, Nat.mod_eq_of_lt ho] at hp; exact hp
  have hnx : (o + (h o + 1)) % names.length = (i + 1) % names.length := by
    rw [← hp, ← Nat.add_assoc, Nat.mod_add_mod]
  have hcho : o ∉ s.ch := fun hm => by
    obtain ⟨c1, c2, c3⟩ := I.chc o hm
    rw [c2, Nat.add_mod_right, Nat.mod_eq_of_lt ho] at hp
    subst hp
    rcases hc with e | e
    · omega
    · omega
  refine ⟨by rw [sendR_len]; exact I.len, fun j y hy => ?_, fun j y hy b => ?_, fun j y hy => ?_, fun k hk hlk => ?_, fun k hk d h1 h2 => ?_, ?_, fun j y hy h1 => ?_, fun j y hy h1 => ?_, I.chN, fun c hcm => ?_, fun k hk h1 hne => ?_⟩
  · obtain ⟨z, hz, g1, g2, g3⟩ := sendR_get hy
    rw [g1]; exact I.nm j z hz
  · obtain ⟨z, hz, g1, g2, g3⟩ := sendR_get hy
    rw [I.len] at g3
    have hm := I.mem j z hz b
    have hm2 : (∃ k, k < names.length ∧ nmI names k = b ∧ upN l o true k = true ∧ (k + upN h o (h o + 1) k) % names.length = j) ↔ (b ∈ z.q ∨ (b = nmI names o ∧ j = (i + 1) % names.length)) := by
      constructor
      · rintro ⟨k, k1, k2, k3, k4⟩
        by_cases e : k = o
        · subst e
          rw [upN_self, hnx] at k4
          exact .inr ⟨k2.symm, k4.symm⟩
        · rw [upN_ne e] at k3 k4
          exact .inl (hm.2 ⟨k, k1, k2, k3, k4⟩)
      · rintro (hb | ⟨rfl, rfl⟩)
        · obtain ⟨k, k1, k2, k3, k4⟩ := hm.1 hb
          have e : k ≠ o := fun e => by subst e; rw [hl] at k3; cases k3
          exact ⟨k, k1, k2, by rw [upN_ne e]; exact k3, by rw [upN_ne e]; exact k4⟩
        · exact ⟨o, ho, rfl, upN_self _ _ _, by rw [upN_self]; exact hnx⟩
    rw [hm2, g3]
    by_cases e : j = (i + 1) % names.length
    · rw [if_pos e, List.mem_append, List.mem_singleton]
      exact ⟨fun q => q.elim .inl fun q => .inr ⟨q, e⟩, fun q => q.elim .inl fun q => .inr q.1⟩
    · rw [if_neg e]
      exact ⟨.inl, fun q => q.elim id fun q => absurd q.2 e⟩
  · obtain ⟨z, hz, g1, g2, g3⟩ := sendR_get hy
    rw [g3]
    split
    · rw [List.nodup_append]
      refine ⟨I.nd j z hz, by simp, fun u hu v hv => ?_⟩
      rw [List.mem_singleton] at hv; subst hv
      rintro rfl
      obtain ⟨k, k1, k2, k3, k4⟩ := (I.mem j z hz _).1 hu
      have := D k o k1 ho k2
      subst this; rw [hl] at k3; cases k3
    · exact I.nd j z hz
  · by_cases e : k = o
    · subst e; rw [upN_self]; omega
    · rw [upN_ne e] at hlk ⊢; exact I.lv k hk hlk
  · by_cases e : k = o
    · subst e
      rw [upN_self] at h2
      rcases Nat.lt_or_eq_of_le (Nat.le_of_lt_succ h2) with c | c
      · exact I.pa k hk d h1 c
      · rw [c, hp]
        rcases hc with e | e
        · omega
        · exact e
    · rw [upN_ne e] at h2; exact I.pa k hk d h1 h2
  · have := sum_up h o (h o + 1) names.length
    rw [if_pos ho, if_pos ho] at this
    show s.sent + 1 = _
    rw [I.sm]; omega
  · obtain ⟨z, hz, g1, g2, g3⟩ := sendR_get hy
    rw [g2]
    split
    · rfl
    · rename_i e
      refine I.pt j z hz ?_
      by_cases e2 : j = o
      · subst e2
        rcases Nat.eq_zero_or_pos (h j) with c | c
        · exact absurd (hoi c) e
        · exact c
      · rw [upN_ne e2] at h1; exact h1
  · obtain ⟨z, hz, g1, g2, g3⟩ := sendR_get hy
    rw [g2] at h1
    by_cases e : j = i
    · subst e
      refine ⟨o, ho, by rw [upN_self]; omega, ?_⟩
      rcases hc with c | c
      · rw [hoi c]; exact Int.le_refl _
      · exact Int.le_of_lt c
    · rw [if_neg e] at h1
      obtain ⟨k, k1, k2, k3⟩ := I.pg j z hz h1
      exact ⟨k, k1, Nat.le_trans k2 (hge k), k3⟩
  · obtain ⟨c1, c2, c3⟩ := I.chc c hcm
    have e : c ≠ o := fun e => by subst e; exact hcho hcm
    exact ⟨c1, by rw [upN_ne e]; exact c2, by rw [upN_ne e]; exact c3⟩
  · by_cases e : k = o
    · subst e; left; exact upN_self _ _ _
    · rw [upN_ne e] at h1
      rcases I.al k hk h1 (fun q => hne ⟨q, e⟩) with q | q | ⟨o', q1, q2, q3⟩
      · left; rw [upN_ne e]; exact q
      · exact .inr (.inl q)
      · exact .inr (.inr ⟨o', q1, Nat.le_trans q2 (hge o'), q3⟩)
theorem InvR.close {names : List Int} {s : RS} {h : Nat → Nat} {l : Nat → Bool} {ex : Nat → Prop} (I : InvR names s h l ex) (he : ∀ o, o < names.length → ex o → 1 ≤ h o → l o = true ∨ o ∈ s.ch ∨ ∃ o', o' < names.length ∧ 1 ≤ h o' ∧ nmI names o < nmI names o') : InvR names s h l noEx :=
  ⟨I.len, I.nm, I.mem, I.nd, I.lv, I.pa, I.sm, I.pt, I.pg, I.chN, I.chc, fun o ho h1 _ => by
    by_cases e : ex o
    · exact he o ho e h1
    · exact I.al o ho h1 e⟩
theorem InvR.step {names : List Int} {s : RS} {h : Nat → Nat} {l : Nat → Bool} (c : Mv) (I : InvR names s h l noEx) (D : Dist names) : ∃ h' l', InvR names (stepR s c).2 h' l' noEx := by
  unfold stepR
  split
  · exact ⟨h, l, I⟩
  split
  · exact ⟨h, l, I⟩
  rename_i hk hw
  split
  · unfold takeR
    split
    · exact ⟨h, l, I⟩
    rename_i x hx
    split
    · exact ⟨h, l, I⟩
    rename_i a lq hq
    have hi : c.who.toNat < names.length := by rw [← I.len]; exact (List.getElem?_eq_some_iff.1 hx).1
    have hnm := I.nm _ x hx
    obtain ⟨o, ho, hn, hl, hp, J⟩ := I.drop D hx hq
    split
    · rename_i hlt
      have := J.send D hi ho hp (upN_self _ _ _) (.inr (by rw [hn, ← hnm]; exact hlt))
      rw [hn] at this
      exact ⟨_, _, this.close fun k _ hk _ => absurd hk.1 hk.2⟩
    split
    · rename_i hne he
      have hoi : o = c.who.toNat := D o _ ho hi (by rw [hn, he, hnm])
      have hho : h o = names.length := by
        have h1 := I.le_n ho
        have h2 := I.lv o ho hl
        rw [← hoi] at hp
        rcases Nat.lt_or_eq_of_le h1 with q | q
        · rcases Nat.lt_or_ge (o + h o) names.length with q2 | q2
          · rw [Nat.mod_eq_of_lt q2] at hp; omega
          · rw [Nat.mod_eq_sub_mod q2, Nat.mod_eq_of_lt (by omega)] at hp; omega
        · exact q
      refine ⟨h, upN l o false, J.len, J.nm, J.mem, J.nd, J.lv, J.pa, J.sm, J.pt, J.pg, ?_, fun k hkc => ?_, fun k hk h1 _ => ?_⟩
      · show (s.ch ++ [c.who.toNat]).Nodup
        rw [List.nodup_append]
        refine ⟨I.chN, by simp, fun u hu v hv => ?_⟩
        rw [List.mem_singleton] at hv; subst hv
        rintro rfl
        have := (I.chc _ hu).2.2
        rw [← hoi, hl] at this; cases this
      · rcases List.mem_append.1 hkc with q | q
        · exact J.chc k q
        · rw [List.mem_singleton] at q; subst q
          exact ⟨hi, by rw [← hoi]; exact hho, by rw [← hoi]; exact upN_self _ _ _⟩
      · by_cases e : k = o
        · subst e; right; left; show k ∈ s.ch ++ [c.who.toNat]; rw [hoi]; simp
        · rcases J.al k hk h1 e with q | q | q
          · exact .inl q
          · exact .inr (.inl (List.mem_append_left _ q))
          · exact .inr (.inr q)
    rename_i hng hne
    have hlt : nmI names o < nmI names c.who.toNat := by rw [hn, ← hnm]; omega
    split
    · rename_i hpt
      have hh0 : h c.who.toNat = 0 := by
        rcases Nat.eq_zero_or_pos (h c.who.toNat) with q | q
        · exact q
        · have := I.pt _ x hx q; rw [hpt] at this; cases this
      have hl0 : upN l o false c.who.toNat = false := by
        by_cases e : c.who.toNat = o
        · rw [e]; exact upN_self _ _ _
        · rw [upN_ne e]
          cases q : l c.who.toNat with
          | false => rfl
          | true => have := I.lv _ hi q; omega
      have := J.send D hi hi (by rw [hh0, Nat.add_zero, Nat.mod_eq_of_lt hi]) hl0 (.inl hh0)
      rw [← hnm] at this
      refine ⟨_, _, this.close fun k hk he _ => .inr (.inr ⟨c.who.toNat, hi, by rw [upN_self]; omega, ?_⟩)⟩
      rw [he.1]; exact hlt
    · rename_i hpt
      refine ⟨_, _, J.close fun k hk he _ => .inr (.inr ?_)⟩
      subst he
      obtain ⟨o', q1, q2, q3⟩ := I.pg _ x hx (by simpa using hpt)
      exact ⟨o', q1, q2, by omega⟩
  · split
    · exact ⟨h, l, I⟩
    rename_i x hx
    split
    · exact ⟨h, l, I⟩
    rename_i hpt
    have hi : c.who.toNat < names.length := by rw [← I.len]; exact (List.getElem?_eq_some_iff.1 hx).1
    have hnm := I.nm _ x hx
    have hh0 : h c.who.toNat = 0 := by
      rcases Nat.eq_zero_or_pos (h c.who.toNat) with q | q
      · exact q
      · exact absurd (I.pt _ x hx q) hpt
    have hl0 : l c.who.toNat = false := by
      cases q : l c.who.toNat with
      | false => rfl
      | true => have := I.lv _ hi q; omega
    have := I.send D hi hi (by rw [hh0, Nat.add_zero, Nat.mod_eq_of_lt hi]) hl0 (.inl hh0)
    rw [← hnm] at this
    exact ⟨_, _, this.close fun k hk he _ => absurd he.1 (fun q => q)⟩
theorem InvR.run {names : List Int} (D : Dist names) : ∀ (cs : List Mv) {s : RS} {h : Nat → Nat} {l : Nat → Bool}, InvR names s h l noEx → ∃ h' l', InvR names (stR s cs) h' l' noEx
  | [], s, h, l, I => ⟨h, l, I⟩
  | c :: cs, s, h, l, I => by
    obtain ⟨h', l', J⟩ := I.step c D
    exact InvR.run D cs J
end Go.Proofs.Yteejbaindbiimaa
