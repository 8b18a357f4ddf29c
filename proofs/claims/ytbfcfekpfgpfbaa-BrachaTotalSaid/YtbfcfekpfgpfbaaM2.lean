/- What all hold true is one. Plain words. No condition. -/
import Derived.Test.YtbfcfekpfgpfbaaM1
namespace Go.Proofs.Ytbfcfekpfgpfbaa
open Go.RowKit
set_option linter.unusedVariables false
set_option linter.unusedSimpArgs false
set_option maxRecDepth 100000

theorem getM_notin' {α β : Type} [DecidableEq α] : ∀ {ms : List (α × β)} {a : α}, getM ms a = none → ∀ p ∈ ms, p.1 ≠ a
  | [], a, h, p, hp => by cases hp
  | (c, y) :: l, a, h, p, hp => by
    by_cases e : c = a
    · subst e; simp [getM] at h
    · simp only [getM, if_neg e] at h
      rcases List.mem_cons.1 hp with rfl | hp
      · exact e
      · exact getM_notin' h p hp
theorem nodup_sub : ∀ (l l' : List Nat), l.Nodup → (∀ x ∈ l, x ∈ l') → l.length ≤ l'.length
  | [], _, _, _ => Nat.zero_le _
  | a :: l, l', hn, hs => by
    obtain ⟨h1, h2⟩ := List.nodup_cons.1 hn
    have := nodup_sub l (l'.erase a) h2 fun x hx => (List.mem_erase_of_ne (fun e => by subst e; exact h1 hx)).2 (hs x (by simp [hx]))
    have h3 := List.length_erase_of_mem (hs a (by simp))
    have h4 := List.length_pos_of_mem (hs a (by simp))
    simp only [List.length_cons]; omega
def Hon (c : Cf) (i : Nat) : Prop := liesB c.L i = false
def liarN (c : Cf) : Nat := ((List.range c.n).filter (liesB c.L)).length
/-- who said so -/
def sayL (hl : Hl) (w : Nat) (v : Int) : List Nat := (hl.filter fun e => decide (e.1.2.val = w ∧ e.2 = v)).map fun e => e.1.1.val
theorem sayL_len (hl : Hl) (w : Nat) (v : Int) : (sayL hl w v).length = manyB hl w v := List.length_map _
theorem sayL_mem {hl : Hl} {w a : Nat} {v : Int} (h : a ∈ sayL hl w v) : ∃ k, (k, v) ∈ hl ∧ k.1.val = a ∧ k.2.val = w := by
  obtain ⟨e, h1, rfl⟩ := List.mem_map.1 h
  obtain ⟨h2, h3⟩ := List.mem_filter.1 h1
  have h4 := of_decide_eq_true h3
  exact ⟨e.1, by rw [← h4.2]; exact h2, rfl, h4.1⟩
theorem sayL_nodup {hl : Hl} (h : hl.Pairwise (fun a b => a.1 ≠ b.1)) (w : Nat) (v : Int) : (sayL hl w v).Nodup := by
  unfold sayL
  rw [List.nodup_iff_pairwise_ne, List.pairwise_map]
  refine (h.filter _).imp_of_mem fun {a b} ha hb hne e => hne ?_
  have h1 := (of_decide_eq_true (List.mem_filter.1 ha).2).1
  have h2 := (of_decide_eq_true (List.mem_filter.1 hb).2).1
  exact Prod.ext (Fin.ext e) (Fin.ext (h1.trans h2.symm))
theorem honest_in {c : Cf} {S : List Nat} (hn : S.Nodup) (hs : ∀ a ∈ S, a < c.n) (hl : liarN c < S.length) : ∃ a ∈ S, Hon c a := by
  by_cases h : ∃ a ∈ S, Hon c a
  · exact h
  · exfalso
    have := nodup_sub S ((List.range c.n).filter (liesB c.L)) hn fun a ha => List.mem_filter.2 ⟨List.mem_range.2 (hs a ha), by
      cases e : liesB c.L a with
      | true => rfl
      | false => exact absurd ⟨a, ha, e⟩ h⟩
    unfold liarN at hl; omega
theorem honest_both {c : Cf} {S T : List Nat} (hS : S.Nodup) (hT : T.Nodup) (hs : ∀ a ∈ S, a < c.n) (ht : ∀ a ∈ T, a < c.n) (hl : c.n + liarN c < S.length + T.length) : ∃ a, a ∈ S ∧ a ∈ T ∧ Hon c a := by
  have h1 := nodup_sub (S.filter (fun a => decide (a ∉ T)) ++ T) (List.range c.n) (by
    rw [List.nodup_append]
    exact ⟨hS.filter _, hT, fun a ha b hb e => by
      have := of_decide_eq_true (List.mem_filter.1 ha).2
      subst e; exact this hb⟩) (fun a ha => by
    rcases List.mem_append.1 ha with q | q
    · exact List.mem_range.2 (hs a (List.mem_filter.1 q).1)
    · exact List.mem_range.2 (ht a q))
  rw [List.length_append, List.length_range] at h1
  have h2 : (S.filter (fun a => decide (a ∈ T))).length + (S.filter (fun a => decide (a ∉ T))).length = S.length := by
    clear hS hs hl h1
    induction S with
    | nil => rfl
    | cons a S ih =>
      by_cases q : a ∈ T <;> simp only [List.filter_cons, q, List.length_cons, decide_true, decide_false, not_true, not_false_iff, if_true] <;> simp <;> simp at ih <;> omega
  obtain ⟨a, h3, h4⟩ := honest_in (c := c) (S := S.filter (fun a => decide (a ∈ T))) (hS.filter _) (fun a ha => hs a (List.mem_filter.1 ha).1) (by omega)
  obtain ⟨h5, h6⟩ := List.mem_filter.1 h3
  exact ⟨a, h5, of_decide_eq_true h6, h4⟩
/-- a said v, of kind w -/
def MM (s : BS) (a w : Nat) (v : Int) : Prop := ∃ m ∈ s.all, m.frm = a ∧ m.what = w ∧ m.n = v
def EQ (c : Cf) (s : BS) (v : Int) : Prop := ∃ (i : Nat) (p : Pr), s.ps[i]? = some p ∧ c.n + c.f < 2 * manyB p.hl 2 v
structure InvB (c : Cf) (s : BS) : Prop where
  hlm : ∀ (i : Nat) (p : Pr) (k : Sm × Sm) (v : Int), s.ps[i]? = some p → (k, v) ∈ p.hl → MM s k.1.val k.2.val v
  hln : ∀ (i : Nat) (p : Pr), s.ps[i]? = some p → p.hl.Pairwise (fun a b => a.1 ≠ b.1)
  uq : ∀ (a w : Nat) (v v' : Int), Hon c a → MM s a w v → MM s a w v' → v = v'
  f1 : ∀ (a : Nat) (v : Int), Hon c a → MM s a 1 v → a = c.snd ∧ s.st = true
  f2 : ∀ (a : Nat) (v : Int), Hon c a → MM s a 2 v → ∃ p, s.ps[a]? = some p ∧ p.ec = true
  f3 : ∀ (a : Nat) (v : Int), Hon c a → MM s a 3 v → ∃ p, s.ps[a]? = some p ∧ p.rd = true
  j2 : ∀ (a : Nat) (v : Int), Hon c a → MM s a 2 v → MM s c.snd 1 v
  k3 : ∀ (a : Nat) (v : Int), Hon c a → MM s a 3 v → EQ c s v
  k4 : ∀ (i : Nat) (p : Pr), s.ps[i]? = some p → p.has = true → EQ c s p.val
theorem InvB.zero (c : Cf) : InvB c (bs0 c.n) := by
  have hM : ∀ a w v, ¬ MM (bs0 c.n) a w v := fun a w v ⟨m, hm, _⟩ => by cases hm
  have hp : ∀ (i : Nat) (p : Pr), (bs0 c.n).ps[i]? = some p → p = ⟨[], false, false, false, 0⟩ := fun i p h => by
    simp only [bs0, List.getElem?_replicate] at h; split at h
    · cases h; rfl
    · cases h
  exact ⟨fun i p k v h hk => (by rw [hp i p h] at hk; cases hk), fun i p h => (by rw [hp i p h]; exact List.Pairwise.nil), fun a w v v' _ h => absurd h (hM _ _ _), fun a v _ h => absurd h (hM _ _ _), fun a v _ h => absurd h (hM _ _ _), fun a v _ h => absurd h (hM _ _ _), fun a v _ h => absurd h (hM _ _ _), fun a v _ h => absurd h (hM _ _ _), fun i p h hh => (by rw [hp i p h] at hh; cases hh)⟩
theorem MM_frm {T a w : Nat} {c : Cf} {s : BS} {v : Int} (b : BdB T c s) (h : MM s a w v) : a < c.n := by
  obtain ⟨m, hm, rfl, _⟩ := h; exact (b.msg m hm).2.1
theorem InvB.say {T w i : Nat} {c : Cf} {s : BS} {p : Pr} {v : Int} (I : InvB c s) (b : BdB T c s) (hp : s.ps[i]? = some p) (hl : liarN c < manyB p.hl w v) : ∃ a, Hon c a ∧ MM s a w v := by
  have hall : ∀ a ∈ sayL p.hl w v, MM s a w v := fun a ha => by
    obtain ⟨k, h1, h2, h3⟩ := sayL_mem ha
    have := I.hlm i p k v hp h1
    rw [h2, h3] at this; exact this
  obtain ⟨a, h1, h2⟩ := honest_in (sayL_nodup (I.hln i p hp) w v) (fun a ha => MM_frm b (hall a ha)) (by rw [sayL_len]; exact hl)
  exact ⟨a, h2, hall a h1⟩
/-- two values that enough echoed are one -/
theorem InvB.eq_one {T : Nat} {c : Cf} {s : BS} {v v' : Int} (I : InvB c s) (b : BdB T c s) (hl : liarN c ≤ c.f) (h : EQ c s v) (h' : EQ c s v') : v = v' := by
  obtain ⟨i, p, hp, h1⟩ := h
  obtain ⟨j, q, hq, h2⟩ := h'
  have ha : ∀ a ∈ sayL p.hl 2 v, MM s a 2 v := fun a ha => by
    obtain ⟨k, h1, h2, h3⟩ := sayL_mem ha
    have := I.hlm i p k v hp h1
    rw [h2, h3] at this; exact this
  have hb : ∀ a ∈ sayL q.hl 2 v', MM s a 2 v' := fun a ha => by
    obtain ⟨k, h1, h2, h3⟩ := sayL_mem ha
    have := I.hlm j q k v' hq h1
    rw [h2, h3] at this; exact this
  obtain ⟨a, g1, g2, g3⟩ := honest_both (sayL_nodup (I.hln i p hp) 2 v) (sayL_nodup (I.hln j q hq) 2 v') (fun a q => MM_frm b (ha a q)) (fun a q => MM_frm b (hb a q)) (by rw [sayL_len, sayL_len]; omega)
  exact I.uq a 2 v v' g3 (ha a g1) (hb a g2)
theorem MM_came {s : BS} {at_ : Nat} {m : Mg} {ps : List Pr} {st : Bool} (hm : s.all[at_]? = some m) (a w : Nat) (v : Int) : MM ⟨s.all.set at_ { m with come := true }, ps, st⟩ a w v ↔ MM s a w v := by
  constructor
  · rintro ⟨z, hz, h1⟩
    rcases List.mem_or_eq_of_mem_set hz with q | rfl
    · exact ⟨z, q, h1⟩
    · exact ⟨m, List.mem_of_getElem? hm, h1⟩
  · rintro ⟨z, hz, h1⟩
    obtain ⟨j, hj⟩ := List.getElem?_of_mem hz
    by_cases c : at_ = j
    · subst c; cases hm.symm.trans hj
      exact ⟨_, List.mem_of_getElem? (List.getElem?_set_self (List.getElem?_eq_some_iff.1 hm).1), h1⟩
    · exact ⟨z, List.mem_of_getElem? (by dsimp only; rw [List.getElem?_set_ne c]; exact hj), h1⟩
theorem MM_new {s : BS} {i w0 k : Nat} {x : Int} (hk : 0 < k) (a w : Nat) (v : Int) : MM ⟨s.all ++ newM i w0 x k, s.ps, s.st⟩ a w v ↔ (MM s a w v ∨ (a = i ∧ w = w0 ∧ v = x)) := by
  constructor
  · rintro ⟨z, hz, h1⟩
    rcases List.mem_append.1 hz with q | q
    · exact .inl ⟨z, q, h1⟩
    · obtain ⟨q1, q2, q3, q4, _⟩ := newM_mem q
      exact .inr ⟨by rw [← h1.1, q1], by rw [← h1.2.1, q3], by rw [← h1.2.2, q4]⟩
  · rintro (⟨z, hz, h1⟩ | ⟨rfl, rfl, rfl⟩)
    · exact ⟨z, List.mem_append_left _ hz, h1⟩
    · exact ⟨⟨a, 0, w, v, false⟩, List.mem_append_right _ (List.mem_map.2 ⟨0, List.mem_range.2 hk, rfl⟩), rfl, rfl, rfl⟩
theorem set_get {ps : List Pr} {i j : Nat} {q r : Pr} (h : (ps.set i q)[j]? = some r) : (j = i ∧ r = q) ∨ (j ≠ i ∧ ps[j]? = some r) := by
  by_cases e : i = j
  · subst e
    have hl := (List.getElem?_eq_some_iff.1 h).1
    rw [List.length_set] at hl
    rw [List.getElem?_set_self hl] at h; cases h; exact .inl ⟨rfl, rfl⟩
  · rw [List.getElem?_set_ne e] at h; exact .inr ⟨Ne.symm e, h⟩
theorem many_put {hl : Hl} {k : Sm × Sm} {x : Int} (h : getM hl k = none) (w : Nat) (v : Int) : manyB hl w v ≤ manyB (putM hl k x) w v := by
  rw [putM_new x (fun p hp e => getM_notin' h p hp e)]
  unfold manyB
  rw [List.filter_append, List.length_append]; exact Nat.le_add_right _ _
theorem gotB_cases (c : Cf) (p : Pr) (m : Mg) : ((gotB c p m).2 = 0 ∨ ((gotB c p m).2 = 2 ∧ m.what = 1 ∧ m.frm = c.snd ∧ p.ec = false ∧ (gotB c p m).1.ec = true) ∨ ((gotB c p m).2 = 3 ∧ p.rd = false ∧ (gotB c p m).1.rd = true ∧ ((m.what ≠ 1 ∧ m.what ≠ 3 ∧ c.n + c.f < 2 * manyB (putM p.hl (smN m.frm, smN m.what) m.n) m.what m.n) ∨ (m.what = 3 ∧ c.f + 1 ≤ manyB (putM p.hl (smN m.frm, smN m.what) m.n) m.what m.n)))) ∧ (p.ec = true → (gotB c p m).1.ec = true) ∧ (p.rd = true → (gotB c p m).1.rd = true) ∧
    ((gotB c p m).1.has = true → (p.has = true ∧ (gotB c p m).1.val = p.val) ∨ ((gotB c p m).1.val = m.n ∧ m.what = 3 ∧ 2 * c.f + 1 ≤ manyB (putM p.hl (smN m.frm, smN m.what) m.n) m.what m.n)) := by
  unfold gotB
  split
  · rename_i h1
    split
    · rename_i h2
      exact ⟨.inr (.inl ⟨rfl, h1, h2.1, h2.2, rfl⟩), fun _ => rfl, fun h => h, fun h => .inl ⟨h, rfl⟩⟩
    · exact ⟨.inl rfl, fun h => h, fun h => h, fun h => .inl ⟨h, rfl⟩⟩
  · rename_i h1
    split
    · rename_i h2
      split
      · rename_i h3
        split
        · rename_i h4
          exact ⟨.inr (.inr ⟨rfl, h3.2, rfl, .inr ⟨h2, h3.1⟩⟩), fun h => h, fun _ => rfl, fun _ => .inr ⟨rfl, h2, h4.1⟩⟩
        · exact ⟨.inr (.inr ⟨rfl, h3.2, rfl, .inr ⟨h2, h3.1⟩⟩), fun h => h, fun _ => rfl, fun h => .inl ⟨h, rfl⟩⟩
      · split
        · rename_i h4
          exact ⟨.inl rfl, fun h => h, fun h => h, fun _ => .inr ⟨rfl, h2, h4.1⟩⟩
        · exact ⟨.inl rfl, fun h => h, fun h => h, fun h => .inl ⟨h, rfl⟩⟩
    · rename_i h2
      split
      · rename_i h3
        exact ⟨.inr (.inr ⟨rfl, h3.2, rfl, .inl ⟨h1, h2, h3.1⟩⟩), fun h => h, fun _ => rfl, fun h => .inl ⟨h, rfl⟩⟩
      · exact ⟨.inl rfl, fun h => h, fun h => h, fun h => .inl ⟨h, rfl⟩⟩
/-- a message that counts has come; k: what is sent on -/
theorem InvB.got {T at_ : Nat} {c : Cf} {s : BS} {m : Mg} {p : Pr} (I : InvB c s) (b : BdB T c s) (hl : liarN c ≤ c.f) (hm : s.all[at_]? = some m) (hp : s.ps[m.to]? = some p) (hg : getM p.hl (smN m.frm, smN m.what) = none) (hn : c.n ≤ 2000) :
    InvB c (if (gotB c p m).2 = 0 then ⟨s.all.set at_ { m with come := true }, s.ps.set m.to (gotB c p m).1, s.st⟩ else sendB ⟨s.all.set at_ { m with come := true }, s.ps.set m.to (gotB c p m).1, s.st⟩ m.to (gotB c p m).2 m.n) := by
  have hmsg := b.msg m (List.mem_of_getElem? hm)
  have hto := (List.getElem?_eq_some_iff.1 hp).1
  obtain ⟨g1, g2, g3, g4⟩ := gotB_cases c p m
  have ghl := (gotB_spec c p m).1
  obtain ⟨q, hq⟩ : ∃ q, q = (gotB c p m).1 := ⟨_, rfl⟩
  obtain ⟨k, hk⟩ : ∃ k, k = (gotB c p m).2 := ⟨_, rfl⟩
  rw [← hq, ← hk] at g1
  rw [← hq] at g2 g3 g4 ghl
  rw [← hq, ← hk]
  have eK1 : (smN m.frm).val = m.frm := smN_val (by omega)
  have eK2 : (smN m.what).val = m.what := smN_val (by omega)
  have hM0 : MM s m.frm m.what m.n := ⟨m, List.mem_of_getElem? hm, rfl, rfl, rfl⟩
  have hput : q.hl = p.hl ++ [((smN m.frm, smN m.what), m.n)] := by rw [ghl]; exact putM_new m.n (fun e he h => getM_notin' hg e he h)
  -- the state before anything is sent on
  obtain ⟨s1, hs1⟩ : ∃ s1 : BS, s1 = ⟨s.all.set at_ { m with come := true }, s.ps.set m.to q, s.st⟩ := ⟨_, rfl⟩
  have hMM : ∀ a w v, MM s1 a w v ↔ MM s a w v := fun a w v => by rw [hs1]; exact MM_came hm a w v
  have hps : ∀ (j : Nat) (r : Pr), s1.ps[j]? = some r → (j = m.to ∧ r = q) ∨ (j ≠ m.to ∧ s.ps[j]? = some r) := fun j r h => by rw [hs1] at h; exact set_get h
  have hpm : s1.ps[m.to]? = some q := by rw [hs1]; exact List.getElem?_set_self hto
  have hEQ : ∀ v, EQ c s v → EQ c s1 v := fun v ⟨i, r, hr, h⟩ => by
    by_cases e : i = m.to
    · subst e; cases hp.symm.trans hr
      refine ⟨m.to, q, hpm, ?_⟩
      have := many_put (x := m.n) hg 2 v
      rw [ghl]; omega
    · exact ⟨i, r, by rw [hs1]; dsimp only; rw [List.getElem?_set_ne (Ne.symm e)]; exact hr, h⟩
  have hlm : ∀ (i : Nat) (r : Pr) (kk : Sm × Sm) (v : Int), s1.ps[i]? = some r → (kk, v) ∈ r.hl → MM s1 kk.1.val kk.2.val v := fun i r kk v hr hv => by
    rw [hMM]
    rcases hps i r hr with ⟨rfl, rfl⟩ | ⟨_, h⟩
    · rw [hput] at hv
      rcases List.mem_append.1 hv with h | h
      · exact I.hlm _ p kk v hp h
      · rw [List.mem_singleton] at h; cases h
        rw [eK1, eK2]; exact hM0
    · exact I.hlm i r kk v h hv
  have hln : ∀ (i : Nat) (r : Pr), s1.ps[i]? = some r → r.hl.Pairwise (fun a b => a.1 ≠ b.1) := fun i r hr => by
    rcases hps i r hr with ⟨rfl, rfl⟩ | ⟨_, h⟩
    · rw [hput, List.pairwise_append]
      refine ⟨I.hln _ p hp, List.pairwise_singleton .., fun e he f hf => ?_⟩
      rw [List.mem_singleton] at hf; subst hf
      exact fun h => getM_notin' hg e he h
    · exact I.hln i r h
  have hflag : ∀ (a : Nat) (r : Pr), s.ps[a]? = some r → ∃ r', s1.ps[a]? = some r' ∧ (r.ec = true → r'.ec = true) ∧ (r.rd = true → r'.rd = true) := fun a r hr => by
    by_cases e : a = m.to
    · subst e; cases hp.symm.trans hr
      exact ⟨q, hpm, g2, g3⟩
    · exact ⟨r, by rw [hs1]; dsimp only; rw [List.getElem?_set_ne (Ne.symm e)]; exact hr, fun h => h, fun h => h⟩
  -- whoever says so among more than f is no liar, one of them
  have hone : ∀ w v, c.f < manyB q.hl w v → ∃ a, Hon c a ∧ MM s a w v := fun w v h => by
    have hall : ∀ a ∈ sayL q.hl w v, MM s a w v := fun a ha => by
      obtain ⟨kk, h1, h2, h3⟩ := sayL_mem ha
      have := hlm m.to q kk v hpm h1
      rw [hMM, h2, h3] at this; exact this
    obtain ⟨a, h1, h2⟩ := honest_in (sayL_nodup (hln m.to q hpm) w v) (fun a ha => MM_frm b (hall a ha)) (by rw [sayL_len]; omega)
    exact ⟨a, h2, hall a h1⟩
  have I1 : InvB c s1 := by
    refine ⟨hlm, hln, fun a w v v' ha h h' => I.uq a w v v' ha ((hMM _ _ _).1 h) ((hMM _ _ _).1 h'), fun a v ha h => ?_, fun a v ha h => ?_, fun a v ha h => ?_, fun a v ha h => (hMM _ _ _).2 (I.j2 a v ha ((hMM _ _ _).1 h)), fun a v ha h => hEQ v (I.k3 a v ha ((hMM _ _ _).1 h)), fun i r hr hh => ?_⟩
    · rw [hs1]; exact I.f1 a v ha ((hMM _ _ _).1 h)
    · obtain ⟨r, h1, h2⟩ := I.f2 a v ha ((hMM _ _ _).1 h)
      obtain ⟨r', h3, h4, _⟩ := hflag a r h1
      exact ⟨r', h3, h4 h2⟩
    · obtain ⟨r, h1, h2⟩ := I.f3 a v ha ((hMM _ _ _).1 h)
      obtain ⟨r', h3, _, h4⟩ := hflag a r h1
      exact ⟨r', h3, h4 h2⟩
    · rcases hps i r hr with ⟨rfl, rfl⟩ | ⟨_, h⟩
      · rcases g4 hh with ⟨h1, h2⟩ | ⟨h1, h2, h3⟩
        · rw [h2]; exact hEQ _ (I.k4 _ p hp h1)
        · rw [← ghl] at h3
          obtain ⟨a, h4, h5⟩ := hone m.what m.n (by omega)
          rw [h1]; rw [h2] at h5
          exact hEQ _ (I.k3 a m.n h4 h5)
      · exact hEQ _ (I.k4 i r h hh)
  by_cases hk0 : k = 0
  · rw [if_pos hk0, ← hs1]; exact I1
  rw [if_neg hk0, ← hs1]
  have hlen : 0 < s1.ps.length := by have := (List.getElem?_eq_some_iff.1 hpm).1; omega
  have hNM : ∀ a w v, MM (sendB s1 m.to k m.n) a w v ↔ (MM s1 a w v ∨ (a = m.to ∧ w = k ∧ v = m.n)) := fun a w v => MM_new hlen a w v
  -- nothing of this kind was said before
  have hno : ∀ v, Hon c m.to → ¬ MM s1 m.to k v := fun v ha h => by
    rcases g1 with h1 | ⟨h1, _, _, h2, _⟩ | ⟨h1, h2, _⟩
    · exact hk0 h1
    · rw [h1] at h
      obtain ⟨r, h3, h4⟩ := I.f2 m.to v ha ((hMM _ _ _).1 h)
      cases hp.symm.trans h3; rw [h2] at h4; cases h4
    · rw [h1] at h
      obtain ⟨r, h3, h4⟩ := I.f3 m.to v ha ((hMM _ _ _).1 h)
      cases hp.symm.trans h3; rw [h2] at h4; cases h4
  have hk23 : k = 2 ∨ k = 3 := by rcases g1 with h1 | ⟨h1, _⟩ | ⟨h1, _⟩ <;> omega
  have hE3 : k = 3 → EQ c s1 m.n := fun h3 => by
    rcases g1 with h1 | ⟨h1, _⟩ | ⟨h1, h2, h4, ⟨h5, h6, h7⟩ | ⟨h5, h6⟩⟩
    · omega
    · omega
    · rw [← ghl] at h7
      have : m.what = 2 := by omega
      rw [this] at h7
      exact ⟨m.to, q, hpm, h7⟩
    · rw [← ghl] at h6
      obtain ⟨a, h8, h9⟩ := hone m.what m.n (by omega)
      rw [h5] at h9
      exact hEQ _ (I.k3 a m.n h8 h9)
  refine ⟨fun i r kk v hr hv => (hNM _ _ _).2 (.inl (hlm i r kk v hr hv)), hln, fun a w v v' ha h h' => ?_, fun a v ha h => ?_, fun a v ha h => ?_, fun a v ha h => ?_, fun a v ha h => ?_, fun a v ha h => ?_, I1.k4⟩
  · rcases (hNM _ _ _).1 h with ha1 | ⟨e1, e2, e3⟩
    · rcases (hNM _ _ _).1 h' with hb1 | ⟨e1, e2, e3⟩
      · exact I1.uq a w v v' ha ha1 hb1
      · rw [e1] at ha; rw [e1, e2] at ha1; exact absurd ha1 (hno v ha)
    · rcases (hNM _ _ _).1 h' with hb1 | ⟨e4, e5, e6⟩
      · rw [e1] at ha; rw [e1, e2] at hb1; exact absurd hb1 (hno v' ha)
      · rw [e3, e6]
  · rcases (hNM _ _ _).1 h with h | ⟨e1, e2, e3⟩
    · exact I1.f1 a v ha h
    · omega
  · rcases (hNM _ _ _).1 h with h | ⟨e1, e2, e3⟩
    · exact I1.f2 a v ha h
    · rcases g1 with h1 | ⟨h1, _, _, _, h2⟩ | ⟨h1, _⟩
      · omega
      · rw [e1]; exact ⟨q, hpm, h2⟩
      · omega
  · rcases (hNM _ _ _).1 h with h | ⟨e1, e2, e3⟩
    · exact I1.f3 a v ha h
    · rcases g1 with h1 | ⟨h1, _⟩ | ⟨h1, _, h2, _⟩
      · omega
      · omega
      · rw [e1]; exact ⟨q, hpm, h2⟩
  · rcases (hNM _ _ _).1 h with h | ⟨e1, e2, e3⟩
    · exact (hNM _ _ _).2 (.inl (I1.j2 a v ha h))
    · rcases g1 with h1 | ⟨h1, h2, h4, _⟩ | ⟨h1, _⟩
      · omega
      · refine (hNM _ _ _).2 (.inl ((hMM _ _ _).2 ?_))
        rw [e3, ← h4]; rw [h2] at hM0; exact hM0
      · omega
  · rcases (hNM _ _ _).1 h with h | ⟨e1, e2, e3⟩
    · exact I1.k3 a v ha h
    · rw [e3]; exact hE3 e2.symm
theorem InvB.cam {at_ : Nat} {c : Cf} {s : BS} {m : Mg} (I : InvB c s) (hm : s.all[at_]? = some m) : InvB c ⟨s.all.set at_ { m with come := true }, s.ps, s.st⟩ := by
  have hMM := fun a w v => MM_came (ps := s.ps) (st := s.st) hm a w v
  exact ⟨fun i p k v hp hk => (hMM _ _ _).2 (I.hlm i p k v hp hk), I.hln, fun a w v v' ha h h' => I.uq a w v v' ha ((hMM _ _ _).1 h) ((hMM _ _ _).1 h'), fun a v ha h => I.f1 a v ha ((hMM _ _ _).1 h), fun a v ha h => I.f2 a v ha ((hMM _ _ _).1 h), fun a v ha h => I.f3 a v ha ((hMM _ _ _).1 h), fun a v ha h => (hMM _ _ _).2 (I.j2 a v ha ((hMM _ _ _).1 h)), fun a v ha h => I.k3 a v ha ((hMM _ _ _).1 h), I.k4⟩
theorem InvB.come {T at_ : Nat} {c : Cf} {s : BS} {m : Mg} (I : InvB c s) (b : BdB T c s) (hl : liarN c ≤ c.f) (hn : c.n ≤ 2000) (hm : s.all[at_]? = some m) : InvB c (comeB c s at_) := by
  have h1 := I.cam hm
  unfold comeB cameB
  rw [hm]
  dsimp only
  split
  · exact h1
  rename_i p hp
  by_cases h2 : getM p.hl (smN m.frm, smN m.what) ≠ none ∨ liesB c.L m.to = true
  · rw [if_pos h2]; exact h1
  · rw [if_neg h2]
    exact I.got b hl hm hp (by cases e : getM p.hl (smN m.frm, smN m.what) with | none => rfl | some y => exact absurd (.inl (by rw [e]; simp)) h2) hn
theorem InvB.run_all {T : Nat} {c : Cf} (hl : liarN c ≤ c.f) (hn : c.n ≤ 2000) : ∀ (k : Nat) {s : BS} (a : Nat), InvB c s → BdB T c s → InvB c (allB c k s a)
  | 0, s, a, I, _ => I
  | k + 1, s, a, I, b => by
    unfold allB
    split
    · exact I
    · rename_i m hm
      split
      · exact InvB.run_all hl hn k _ I b
      · rename_i hc
        exact InvB.run_all hl hn k _ (I.come b hl hn hm) (b.come hm (by simpa using hc))
theorem InvB.step {T : Nat} {c : Cf} {s : BS} (x : Mv) (I : InvB c s) (b : BdB T c s) (hl : liarN c ≤ c.f) (hn : c.n ≤ 2000) (hs : c.snd < c.n) : InvB c (stepB c s x).2 := by
  unfold stepB
  split
  · split
    · exact I
    · rename_i hb
      have hlen : 0 < s.ps.length := by rw [b.len]; omega
      have hst : s.st = false := by cases e : s.st with | false => rfl | true => exact absurd (.inl e) hb
      have hNM : ∀ a w v, MM (sendB ⟨s.all, s.ps, true⟩ c.snd 1 x.n) a w v ↔ (MM s a w v ∨ (a = c.snd ∧ w = 1 ∧ v = x.n)) := fun a w v => MM_new (s := ⟨s.all, s.ps, true⟩) hlen a w v
      have hno : ∀ a v, Hon c a → ¬ MM s a 1 v := fun a v ha h => by
        have := (I.f1 a v ha h).2; rw [hst] at this; cases this
      refine ⟨fun i p k v hp hk => (hNM _ _ _).2 (.inl (I.hlm i p k v hp hk)), I.hln, fun a w v v' ha h h' => ?_, fun a v ha h => ?_, fun a v ha h => ?_, fun a v ha h => ?_, fun a v ha h => ?_, fun a v ha h => ?_, I.k4⟩
      · rcases (hNM _ _ _).1 h with h | ⟨e1, e2, e3⟩
        · rcases (hNM _ _ _).1 h' with h' | ⟨e1, e2, e3⟩
          · exact I.uq a w v v' ha h h'
          · subst e2; exact absurd h (hno a v ha)
        · rcases (hNM _ _ _).1 h' with h' | ⟨e4, e5, e6⟩
          · subst e2; exact absurd h' (hno a v' ha)
          · rw [e3, e6]
      · rcases (hNM _ _ _).1 h with h | ⟨e1, e2, e3⟩
        · exact absurd h (hno a v ha)
        · exact ⟨e1, rfl⟩
      · rcases (hNM _ _ _).1 h with h | ⟨e1, e2, e3⟩
        · exact I.f2 a v ha h
        · cases e2
      · rcases (hNM _ _ _).1 h with h | ⟨e1, e2, e3⟩
        · exact I.f3 a v ha h
        · cases e2
      · rcases (hNM _ _ _).1 h with h | ⟨e1, e2, e3⟩
        · exact (hNM _ _ _).2 (.inl (I.j2 a v ha h))
        · cases e2
      · rcases (hNM _ _ _).1 h with h | ⟨e1, e2, e3⟩
        · exact I.k3 a v ha h
        · cases e2
  split
  · split
    · exact I
    split
    · exact I
    · rename_i h1 h2
      have hlie : liesB c.L x.frm.toNat = true := by
        cases e : liesB c.L x.frm.toNat with
        | true => rfl
        | false => exact absurd (.inr (.inl e)) h1
      have hNM : ∀ a w v, Hon c a → MM ⟨s.all ++ [⟨x.frm.toNat, x.to.toNat, x.what.toNat, x.n, false⟩], s.ps, s.st⟩ a w v → MM s a w v := fun a w v ha ⟨z, hz, g1, g2, g3⟩ => by
        rcases List.mem_append.1 hz with q | q
        · exact ⟨z, q, g1, g2, g3⟩
        · rw [List.mem_singleton] at q; subst q
          dsimp only at g1; subst g1
          unfold Hon at ha; rw [hlie] at ha; cases ha
      have hUp : ∀ a w v, MM s a w v → MM ⟨s.all ++ [⟨x.frm.toNat, x.to.toNat, x.what.toNat, x.n, false⟩], s.ps, s.st⟩ a w v := fun a w v ⟨z, hz, g⟩ => ⟨z, List.mem_append_left _ hz, g⟩
      exact ⟨fun i p k v hp hk => hUp _ _ _ (I.hlm i p k v hp hk), I.hln, fun a w v v' ha h h' => I.uq a w v v' ha (hNM _ _ _ ha h) (hNM _ _ _ ha h'), fun a v ha h => I.f1 a v ha (hNM _ _ _ ha h), fun a v ha h => I.f2 a v ha (hNM _ _ _ ha h), fun a v ha h => I.f3 a v ha (hNM _ _ _ ha h), fun a v ha h => hUp _ _ _ (I.j2 a v ha (hNM _ _ _ ha h)), fun a v ha h => I.k3 a v ha (hNM _ _ _ ha h), I.k4⟩
  split
  · split
    · exact I
    split
    · exact I
    · rename_i m hm
      split
      · exact I
      · exact I.come b hl hn hm
  split
  · exact InvB.run_all hl hn 2000 0 I b
  · exact I
theorem InvB.run {c : Cf} (hs : c.snd < c.n) (hl : liarN c ≤ c.f) (hn : c.n ≤ 2000) {cs : List Mv} : ∀ i, i ≤ cs.length → InvB c (stB c (bs0 c.n) (cs.take i))
  | 0, _ => InvB.zero c
  | i + 1, h => by
    obtain ⟨x, hx⟩ := get_of_lt (xs := cs) (k := i) (by omega)
    rw [stB_snoc hx]
    exact (InvB.run hs hl hn (cs := cs) i (by omega)).step x (BdB.run hs (cs := cs) i (by omega)) hl hn hs
end Go.Proofs.Ytbfcfekpfgpfbaa
