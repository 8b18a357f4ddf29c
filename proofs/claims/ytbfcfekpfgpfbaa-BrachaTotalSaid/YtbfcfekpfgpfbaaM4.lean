/- When all has come. Plain words. No condition. -/
import Derived.Test.YtbfcfekpfgpfbaaM3
namespace Go.Proofs.Ytbfcfekpfgpfbaa
open Go.RowKit
set_option linter.unusedVariables false
set_option linter.unusedSimpArgs false
set_option maxRecDepth 100000

def Snt (s : BS) (a j w : Nat) (v : Int) : Prop := ∃ m ∈ s.all, m.frm = a ∧ m.to = j ∧ m.what = w ∧ m.n = v
def AllS (c : Cf) (s : BS) (a w : Nat) : Prop := ∃ v, ∀ j, j < c.n → Snt s a j w v
theorem Snt.mm {s : BS} {a j w : Nat} {v : Int} (h : Snt s a j w v) : MM s a w v := by obtain ⟨m, hm, h1, _, h2, h3⟩ := h; exact ⟨m, hm, h1, h2, h3⟩
theorem AllS.mono {c : Cf} {s s' : BS} {a w : Nat} (h : AllS c s a w) (hm : ∀ a j w v, Snt s a j w v → Snt s' a j w v) : AllS c s' a w := by
  obtain ⟨v, h⟩ := h; exact ⟨v, fun j hj => hm _ _ _ _ (h j hj)⟩
theorem Snt_set {s : BS} {at_ : Nat} {m : Mg} {X : List Mg} {ps : List Pr} {st : Bool} (hm : s.all[at_]? = some m) {a j w : Nat} {v : Int} (h : Snt s a j w v) : Snt ⟨s.all.set at_ { m with come := true } ++ X, ps, st⟩ a j w v := by
  obtain ⟨z, hz, h1⟩ := h
  obtain ⟨i, hi⟩ := List.getElem?_of_mem hz
  by_cases e : at_ = i
  · subst e; cases hm.symm.trans hi
    exact ⟨_, List.mem_append_left _ (List.mem_of_getElem? (List.getElem?_set_self (List.getElem?_eq_some_iff.1 hm).1)), h1⟩
  · exact ⟨z, List.mem_append_left _ (List.mem_of_getElem? (by rw [List.getElem?_set_ne e]; exact hi)), h1⟩
theorem AllS_new {c : Cf} {s : BS} {i w : Nat} {x : Int} {all : List Mg} (h : ∀ m ∈ newM i w x c.n, m ∈ all) (he : s.all = all) : AllS c s i w := ⟨x, fun j hj => ⟨⟨i, j, w, x, false⟩, by rw [he]; exact h _ (List.mem_map.2 ⟨j, List.mem_range.2 hj, rfl⟩), rfl, rfl, rfl, rfl⟩⟩
structure FlB (c : Cf) (p : Pr) : Prop where
  e1 : getM p.hl (smN c.snd, smN 1) ≠ none → p.ec = true
  r2 : ∀ v, c.n + c.f < 2 * manyB p.hl 2 v → p.rd = true
  r3 : ∀ v, c.f + 1 ≤ manyB p.hl 3 v → p.rd = true
  h3 : ∀ v, 2 * c.f + 1 ≤ manyB p.hl 3 v → p.has = true
  hv : p.has = true → 2 * c.f + 1 ≤ manyB p.hl 3 p.val
theorem many_eq {hl : Hl} {k : Sm × Sm} {x : Int} (h : getM hl k = none) (w : Nat) (v : Int) : manyB (putM hl k x) w v = manyB hl w v + if k.2.val = w ∧ x = v then 1 else 0 := by
  rw [putM_new x (fun p hp e => getM_notin' h p hp e)]
  unfold manyB
  rw [List.filter_append, List.length_append]
  congr 1
  by_cases e : k.2.val = w ∧ x = v
  · rw [if_pos e]; simp only [List.filter_cons, List.filter_nil, decide_eq_true e, if_true]; rfl
  · rw [if_neg e]; simp only [List.filter_cons, List.filter_nil, decide_eq_false e]; rfl
theorem gotB_must (c : Cf) (p : Pr) (m : Mg) : (m.what = 1 → m.frm = c.snd → (gotB c p m).1.ec = true) ∧
    (m.what = 2 → c.n + c.f < 2 * manyB (putM p.hl (smN m.frm, smN m.what) m.n) m.what m.n → (gotB c p m).1.rd = true) ∧
    (m.what = 3 → c.f + 1 ≤ manyB (putM p.hl (smN m.frm, smN m.what) m.n) m.what m.n → (gotB c p m).1.rd = true) ∧
    (m.what = 3 → 2 * c.f + 1 ≤ manyB (putM p.hl (smN m.frm, smN m.what) m.n) m.what m.n → (gotB c p m).1.has = true) ∧
    ((gotB c p m).1.ec = true → p.ec = true ∨ (gotB c p m).2 = 2) ∧ ((gotB c p m).1.rd = true → p.rd = true ∨ (gotB c p m).2 = 3) := by
  unfold gotB
  refine ⟨fun h1 h2 => ?_, fun h1 h2 => ?_, fun h1 h2 => ?_, fun h1 h2 => ?_, fun h => ?_, fun h => ?_⟩
  · rw [if_pos h1]
    split
    · rfl
    · rename_i h
      dsimp only
      cases e : p.ec with
      | true => rfl
      | false => exact absurd ⟨h2, e⟩ h
  · rw [if_neg (by omega), if_neg (by omega)]
    split
    · rfl
    · rename_i h
      dsimp only
      cases e : p.rd with
      | true => rfl
      | false => exact absurd ⟨h2, e⟩ h
  · rw [if_neg (by omega), if_pos h1]
    split
    · split <;> rfl
    · rename_i h
      have : p.rd = true := by
        cases e : p.rd with
        | true => rfl
        | false => exact absurd ⟨h2, e⟩ h
      split <;> exact this
  · rw [if_neg (by omega), if_pos h1]
    split
    · split
      · rfl
      · rename_i h
        dsimp only
        cases e : p.has with
        | true => rfl
        | false => exact absurd ⟨h2, e⟩ h
    · split
      · rfl
      · rename_i h
        dsimp only
        cases e : p.has with
        | true => rfl
        | false => exact absurd ⟨h2, e⟩ h
  · revert h
    split
    · split
      · exact fun _ => .inr rfl
      · exact fun h => .inl h
    · split
      · split
        · split <;> exact fun h => .inl h
        · split <;> exact fun h => .inl h
      · split <;> exact fun h => .inl h
  · revert h
    split
    · split <;> exact fun h => .inl h
    · split
      · split
        · exact fun _ => .inr rfl
        · split <;> exact fun h => .inl h
      · split
        · exact fun _ => .inr rfl
        · exact fun h => .inl h
theorem FlB.got {c : Cf} {p : Pr} {m : Mg} (F : FlB c p) (hg : getM p.hl (smN m.frm, smN m.what) = none) (hw : 1 ≤ m.what ∧ m.what ≤ 3) (hf : m.frm < 2000) (hs : c.snd < 2000) : FlB c (gotB c p m).1 := by
  obtain ⟨s1, s2, s3, s4, _, _⟩ := gotB_must c p m
  obtain ⟨_, g2, g3, g4⟩ := gotB_cases c p m
  obtain ⟨e1, _, _, e4⟩ := gotB_spec c p m
  have eK1 : (smN m.frm).val = m.frm := smN_val (by omega)
  have eK2 : (smN m.what).val = m.what := smN_val (by omega)
  have hM := fun w v => many_eq (x := m.n) hg w v
  simp only [eK2] at hM
  refine ⟨fun h => ?_, fun v h => ?_, fun v h => ?_, fun v h => ?_, fun h => ?_⟩
  · rw [e1, getM_put] at h
    split at h
    · rename_i hk
      have h1 := congrArg (fun z : Sm × Sm => z.1.val) hk
      have h2 := congrArg (fun z : Sm × Sm => z.2.val) hk
      dsimp only at h1 h2
      rw [eK1, smN_val (by omega)] at h1
      rw [eK2, smN_val (by omega)] at h2
      exact s1 h2 h1
    · exact g2 (F.e1 h)
  · rw [e1, hM] at h
    by_cases q : m.what = 2 ∧ m.n = v
    · rw [if_pos q] at h
      refine s2 q.1 ?_
      have h9 := hM m.what m.n
      rw [if_pos ⟨rfl, rfl⟩] at h9
      rw [h9, q.1, q.2]; exact h
    · rw [if_neg q] at h; exact g3 (F.r2 v h)
  · rw [e1, hM] at h
    by_cases q : m.what = 3 ∧ m.n = v
    · rw [if_pos q] at h
      refine s3 q.1 ?_
      have h9 := hM m.what m.n
      rw [if_pos ⟨rfl, rfl⟩] at h9
      rw [h9, q.1, q.2]; exact h
    · rw [if_neg q] at h; exact g3 (F.r3 v h)
  · rw [e1, hM] at h
    by_cases q : m.what = 3 ∧ m.n = v
    · rw [if_pos q] at h
      refine s4 q.1 ?_
      have h9 := hM m.what m.n
      rw [if_pos ⟨rfl, rfl⟩] at h9
      rw [h9, q.1, q.2]; exact h
    · rw [if_neg q] at h; exact (e4 (F.h3 v h)).1
  · rcases g4 h with ⟨h1, h2⟩ | ⟨h1, h2, h3⟩
    · have := F.hv h1
      rw [e1, h2, hM]; omega
    · rw [e1, h1]; rw [h2] at h3; rw [h2]; exact h3
structure LiB (c : Cf) (s : BS) : Prop where
  fl : ∀ (i : Nat) (p : Pr), s.ps[i]? = some p → FlB c p
  out1 : s.st = true → Hon c c.snd ∧ AllS c s c.snd 1
  out2 : ∀ (i : Nat) (p : Pr), s.ps[i]? = some p → p.ec = true → AllS c s i 2
  out3 : ∀ (i : Nat) (p : Pr), s.ps[i]? = some p → p.rd = true → AllS c s i 3
  inb : ∀ m ∈ s.all, m.come = true → Hon c m.to → ∃ p, s.ps[m.to]? = some p ∧ getM p.hl (smN m.frm, smN m.what) ≠ none
theorem LiB.zero (c : Cf) : LiB c (bs0 c.n) := by
  have hp : ∀ (i : Nat) (p : Pr), (bs0 c.n).ps[i]? = some p → p = ⟨[], false, false, false, 0⟩ := fun i p h => by
    simp only [bs0, List.getElem?_replicate] at h; split at h
    · cases h; rfl
    · cases h
  refine ⟨fun i p h => ?_, fun h => (by cases h), fun i p h hh => (by rw [hp i p h] at hh; cases hh), fun i p h hh => (by rw [hp i p h] at hh; cases hh), fun m hm => (by cases hm)⟩
  rw [hp i p h]
  exact ⟨fun h => absurd rfl h, fun v h => (by simp [manyB] at h), fun v h => (by simp [manyB] at h), fun v h => (by simp [manyB] at h), fun h => (by cases h)⟩
theorem LiB.got {T at_ : Nat} {c : Cf} {s : BS} {m : Mg} {p : Pr} {X : List Mg} (V : LiB c s) (b : BdB T c s) (hn : c.n ≤ 2000) (hs : c.snd < c.n) (hm : s.all[at_]? = some m) (hp : s.ps[m.to]? = some p) (hg : getM p.hl (smN m.frm, smN m.what) = none)
    (hX : ((gotB c p m).2 = 0 ∧ X = []) ∨ X = newM m.to (gotB c p m).2 m.n c.n) : LiB c ⟨s.all.set at_ { m with come := true } ++ X, s.ps.set m.to (gotB c p m).1, s.st⟩ := by
  have hmsg := b.msg m (List.mem_of_getElem? hm)
  have hto := (List.getElem?_eq_some_iff.1 hp).1
  obtain ⟨_, _, _, _, s5, s6⟩ := gotB_must c p m
  have e1 := (gotB_spec c p m).1
  have hF := (V.fl _ p hp).got hg hmsg.2.2 (by omega) (by omega)
  obtain ⟨q, hq⟩ : ∃ q, q = (gotB c p m).1 := ⟨_, rfl⟩
  rw [← hq] at s5 s6 e1 hF
  rw [← hq]
  have hmono : ∀ a j w v, Snt s a j w v → Snt ⟨s.all.set at_ { m with come := true } ++ X, s.ps.set m.to q, s.st⟩ a j w v := fun a j w v h => Snt_set hm h
  have hnew : ∀ k, k ≠ 0 → (gotB c p m).2 = k → AllS c ⟨s.all.set at_ { m with come := true } ++ X, s.ps.set m.to q, s.st⟩ m.to k := fun k h0 hk => by
    rcases hX with ⟨h, _⟩ | h
    · omega
    · exact AllS_new (x := m.n) (fun z hz => List.mem_append_right _ (by rw [h, hk]; exact hz)) rfl
  refine ⟨fun i r hr => ?_, fun h => ⟨(V.out1 h).1, (V.out1 h).2.mono hmono⟩, fun i r hr hh => ?_, fun i r hr hh => ?_, fun z hz hc hh => ?_⟩
  · rcases set_get hr with ⟨_, rfl⟩ | ⟨_, h⟩
    · exact hF
    · exact V.fl i r h
  · rcases set_get hr with ⟨rfl, rfl⟩ | ⟨_, h⟩
    · rcases s5 hh with h | h
      · exact (V.out2 _ p hp h).mono hmono
      · exact hnew 2 (by decide) h
    · exact (V.out2 i r h hh).mono hmono
  · rcases set_get hr with ⟨rfl, rfl⟩ | ⟨_, h⟩
    · rcases s6 hh with h | h
      · exact (V.out3 _ p hp h).mono hmono
      · exact hnew 3 (by decide) h
    · exact (V.out3 i r h hh).mono hmono
  · have hold : ∀ y ∈ s.all, y.come = true → Hon c y.to → ∃ p', (s.ps.set m.to q)[y.to]? = some p' ∧ getM p'.hl (smN y.frm, smN y.what) ≠ none := fun y hy hyc hyh => by
      obtain ⟨r, h1, h2⟩ := V.inb y hy hyc hyh
      by_cases e : y.to = m.to
      · rw [e] at h1; cases hp.symm.trans h1
        refine ⟨q, by rw [e]; exact List.getElem?_set_self hto, ?_⟩
        rw [e1, getM_put]; split
        · exact fun h => by cases h
        · exact h2
      · exact ⟨r, by rw [List.getElem?_set_ne (Ne.symm e)]; exact h1, h2⟩
    rcases List.mem_append.1 hz with h | h
    · rcases List.mem_or_eq_of_mem_set h with h | rfl
      · exact hold z h hc hh
      · refine ⟨q, List.getElem?_set_self hto, ?_⟩
        rw [e1, getM_put, if_pos rfl]; exact fun h => by cases h
    · rcases hX with ⟨_, h1⟩ | h1
      · rw [h1] at h; cases h
      · rw [h1] at h; rw [(newM_mem h).2.2.2.2] at hc; cases hc
theorem LiB.come {T at_ : Nat} {c : Cf} {s : BS} {m : Mg} (V : LiB c s) (b : BdB T c s) (hn : c.n ≤ 2000) (hs : c.snd < c.n) (hm : s.all[at_]? = some m) : LiB c (comeB c s at_) := by
  have hmsg := b.msg m (List.mem_of_getElem? hm)
  unfold comeB cameB
  rw [hm]
  dsimp only
  split
  · rename_i hp
    have := List.getElem?_eq_none_iff.1 hp
    rw [b.len] at this; omega
  rename_i p hp
  by_cases h2 : getM p.hl (smN m.frm, smN m.what) ≠ none ∨ liesB c.L m.to = true
  · rw [if_pos h2]
    have hmono : ∀ a j w v, Snt s a j w v → Snt ⟨s.all.set at_ { m with come := true }, s.ps, s.st⟩ a j w v := fun a j w v h => by
      have := Snt_set (X := []) (ps := s.ps) (st := s.st) hm h
      rwa [List.append_nil] at this
    refine ⟨V.fl, fun h => ⟨(V.out1 h).1, (V.out1 h).2.mono hmono⟩, fun i p hp h => (V.out2 i p hp h).mono hmono, fun i p hp h => (V.out3 i p hp h).mono hmono, fun z hz hc hh => ?_⟩
    rcases List.mem_or_eq_of_mem_set hz with h | rfl
    · exact V.inb z h hc hh
    · rcases h2 with h2 | h2
      · exact ⟨p, hp, h2⟩
      · unfold Hon at hh; dsimp only at hh; rw [h2] at hh; cases hh
  · rw [if_neg h2]
    have hg : getM p.hl (smN m.frm, smN m.what) = none := by cases e : getM p.hl (smN m.frm, smN m.what) with | none => rfl | some y => exact absurd (.inl (by rw [e]; simp)) h2
    split
    · rename_i h0
      have := V.got (X := []) b hn hs hm hp hg (.inl ⟨h0, rfl⟩)
      rwa [List.append_nil] at this
    · have := V.got b hn hs hm hp hg (.inr rfl)
      unfold sendB
      dsimp only
      rw [List.length_set, b.len]; exact this
theorem LiB.run_all {T : Nat} {c : Cf} (hn : c.n ≤ 2000) (hs : c.snd < c.n) : ∀ (k : Nat) {s : BS} (a : Nat), LiB c s → BdB T c s → LiB c (allB c k s a)
  | 0, s, a, V, _ => V
  | k + 1, s, a, V, b => by
    unfold allB
    split
    · exact V
    · rename_i m hm
      split
      · exact LiB.run_all hn hs k _ V b
      · rename_i hc
        exact LiB.run_all hn hs k _ (V.come b hn hs hm) (b.come hm (by simpa using hc))
theorem LiB.step {T : Nat} {c : Cf} {s : BS} (x : Mv) (V : LiB c s) (b : BdB T c s) (hn : c.n ≤ 2000) (hs : c.snd < c.n) : LiB c (stepB c s x).2 := by
  unfold stepB
  split
  · split
    · exact V
    · rename_i hb
      have hh : Hon c c.snd := by
        cases e : liesB c.L c.snd with
        | false => exact e
        | true => exact absurd (.inr e) hb
      have hmono : ∀ a j w v, Snt s a j w v → Snt (sendB ⟨s.all, s.ps, true⟩ c.snd 1 x.n) a j w v := fun a j w v ⟨z, hz, h⟩ => ⟨z, List.mem_append_left _ hz, h⟩
      refine ⟨V.fl, fun _ => ⟨hh, AllS_new (x := x.n) (fun z hz => List.mem_append_right _ (by dsimp only; rw [b.len]; exact hz)) rfl⟩, fun i p hp h => (V.out2 i p hp h).mono hmono, fun i p hp h => (V.out3 i p hp h).mono hmono, fun z hz hc => ?_⟩
      rcases List.mem_append.1 hz with q | q
      · exact V.inb z q hc
      · rw [(newM_mem q).2.2.2.2] at hc; cases hc
  split
  · split
    · exact V
    split
    · exact V
    · have hmono : ∀ a j w v, Snt s a j w v → Snt ⟨s.all ++ [⟨x.frm.toNat, x.to.toNat, x.what.toNat, x.n, false⟩], s.ps, s.st⟩ a j w v := fun a j w v ⟨z, hz, h⟩ => ⟨z, List.mem_append_left _ hz, h⟩
      refine ⟨V.fl, fun h => ⟨(V.out1 h).1, (V.out1 h).2.mono hmono⟩, fun i p hp h => (V.out2 i p hp h).mono hmono, fun i p hp h => (V.out3 i p hp h).mono hmono, fun z hz hc => ?_⟩
      rcases List.mem_append.1 hz with q | q
      · exact V.inb z q hc
      · rw [List.mem_singleton] at q; subst q; cases hc
  split
  · split
    · exact V
    split
    · exact V
    · rename_i m hm
      split
      · exact V
      · exact V.come b hn hs hm
  split
  · exact LiB.run_all hn hs 2000 0 V b
  · exact V
theorem LiB.run {c : Cf} (hs : c.snd < c.n) (hn : c.n ≤ 2000) {cs : List Mv} : ∀ i, i ≤ cs.length → LiB c (stB c (bs0 c.n) (cs.take i))
  | 0, _ => LiB.zero c
  | i + 1, h => by
    obtain ⟨x, hx⟩ := get_of_lt (xs := cs) (k := i) (by omega)
    rw [stB_snoc hx]
    exact (LiB.run hs hn (cs := cs) i (by omega)).step x (BdB.run hs (cs := cs) i (by omega)) hn hs
def AH (c : Cf) (s : BS) : Prop := ∀ (i : Nat) (p : Pr), s.ps[i]? = some p → Hon c i → p.has = true
def NH (c : Cf) (s : BS) : Prop := ∀ (i : Nat) (p : Pr), s.ps[i]? = some p → Hon c i → p.has = false
def honL (c : Cf) : List Nat := (List.range c.n).filter fun a => !liesB c.L a
theorem honL_len (c : Cf) : (honL c).length + liarN c = c.n := by
  have := (List.filter_append_perm (fun i => !liesB c.L i) (List.range c.n)).length_eq
  rw [List.length_append, List.length_range] at this
  unfold honL liarN
  simpa using this
theorem honL_mem {c : Cf} {a : Nat} (h : a ∈ honL c) : a < c.n ∧ Hon c a := by
  obtain ⟨h1, h2⟩ := List.mem_filter.1 h
  exact ⟨List.mem_range.1 h1, by simpa [Hon] using h2⟩
theorem live {T : Nat} {c : Cf} {s : BS} (I : InvB c s) (B : BdB T c s) (V : LiB c s) (hl : liarN c ≤ c.f) (h3 : 3 * c.f < c.n) (hn : c.n ≤ 2000) (hs : c.snd < c.n) (hall : ∀ m ∈ s.all, m.come = true) : AH c s ∨ (s.st = false ∧ NH c s) := by
  have hear : ∀ a w v j q, a < c.n → w ≤ 3 → Hon c a → Hon c j → s.ps[j]? = some q → Snt s a j w v → ((smN a, smN w), v) ∈ q.hl := fun a w v j q han hw ha hj hq hS => by
    obtain ⟨m, hm, h1, h2, h4, h5⟩ := hS
    obtain ⟨p, hp, hne⟩ := V.inb m hm (hall m hm) (by rw [h2]; exact hj)
    rw [h2] at hp; cases hq.symm.trans hp
    rw [h1, h4] at hne
    cases e : getM q.hl (smN a, smN w) with
    | none => exact absurd e hne
    | some v' =>
      have hmem := getM_some e
      have h6 := I.hlm j q _ v' hq hmem
      dsimp only at h6
      rw [smN_val (by omega), smN_val (by omega)] at h6
      rw [I.uq a w v v' ha ⟨m, hm, h1, h4, h5⟩ h6]; exact hmem
  have cnt : ∀ (S : List Nat) (w : Nat) (v : Int) (j : Nat) (q : Pr), S.Nodup → w ≤ 3 → Hon c j → s.ps[j]? = some q → (∀ a ∈ S, a < c.n ∧ Hon c a ∧ Snt s a j w v) → S.length ≤ manyB q.hl w v := fun S w v j q hS hw hj hq h => by
    rw [← sayL_len]
    refine nodup_sub S _ hS fun a ha => ?_
    obtain ⟨h1, h2, h4⟩ := h a ha
    have := hear a w v j q h1 hw h2 hj hq h4
    exact List.mem_map.2 ⟨_, List.mem_filter.2 ⟨this, decide_eq_true ⟨smN_val (by omega), rfl⟩⟩, smN_val (by omega)⟩
  have hHn : (honL c).Nodup := List.nodup_range.filter _
  have hHl := honL_len c
  have hps : ∀ a, a < c.n → ∃ p, s.ps[a]? = some p := fun a ha => get_of_lt (by rw [B.len]; exact ha)
  have hlt : ∀ (i : Nat) (p : Pr), s.ps[i]? = some p → i < c.n := fun i p h => by have := (List.getElem?_eq_some_iff.1 h).1; rw [B.len] at this; exact this
  have fin : (∀ (i : Nat) (p : Pr), s.ps[i]? = some p → Hon c i → p.rd = true) → AH c s := fun hr => by
    have h0 : ∀ a ∈ honL c, AllS c s a 3 := fun a ha => by
      obtain ⟨h1, h2⟩ := honL_mem ha
      obtain ⟨p, hp⟩ := hps a h1
      exact V.out3 a p hp (hr a p hp h2)
    obtain ⟨a0, ha0⟩ := List.exists_mem_of_length_pos (l := honL c) (by omega)
    obtain ⟨v, hv⟩ := h0 a0 ha0
    have hEQ : ∀ a ∈ honL c, ∀ w, (∀ j, j < c.n → Snt s a j 3 w) → EQ c s w := fun a ha w hw => I.k3 a w (honL_mem ha).2 (hw 0 (by omega)).mm
    intro i p hp hi
    refine (V.fl i p hp).h3 v ?_
    have := cnt (honL c) 3 v i p hHn (by decide) hi hp fun a ha => ⟨(honL_mem ha).1, (honL_mem ha).2, by
      obtain ⟨w, hw⟩ := h0 a ha
      rw [I.eq_one B hl (hEQ a0 ha0 v hv) (hEQ a ha w hw)]
      exact hw i (hlt i p hp)⟩
    omega
  by_cases hst : s.st = true
  · refine .inl (fin fun i p hp hi => ?_)
    obtain ⟨hsn, v, hv⟩ := V.out1 hst
    have hec : ∀ (j : Nat) (q : Pr), s.ps[j]? = some q → Hon c j → ∀ k, k < c.n → Snt s j k 2 v := fun j q hq hj k hk => by
      have h1 := hear c.snd 1 v j q hs (by decide) hsn hj hq (hv j (hlt j q hq))
      have h2 := getM_of (I.hln j q hq) h1
      have h4 := (V.fl j q hq).e1 (by rw [h2]; exact fun h => by cases h)
      obtain ⟨w, hw⟩ := V.out2 j q hq h4
      have h5 := I.j2 j w hj (hw 0 (by omega)).mm
      rw [I.uq c.snd 1 v w hsn (hv 0 (by omega)).mm h5]
      exact hw k hk
    refine (V.fl i p hp).r2 v ?_
    have := cnt (honL c) 2 v i p hHn (by decide) hi hp fun a ha => ⟨(honL_mem ha).1, (honL_mem ha).2, by
      obtain ⟨h1, h2⟩ := honL_mem ha
      obtain ⟨q, hq⟩ := hps a h1
      exact hec a q hq h2 i (hlt i p hp)⟩
    omega
  · by_cases hx : ∃ (i : Nat) (p : Pr), s.ps[i]? = some p ∧ p.has = true
    · obtain ⟨i, p, hp, hh⟩ := hx
      refine .inl (fin fun j q hq hj => ?_)
      have hv := (V.fl i p hp).hv hh
      have hln := sayL_nodup (I.hln i p hp) 3 p.val
      have hmm : ∀ a ∈ sayL p.hl 3 p.val, MM s a 3 p.val := fun a ha => by
        obtain ⟨k, h1, h2, h4⟩ := sayL_mem ha
        have := I.hlm i p k p.val hp h1
        rw [h2, h4] at this; exact this
      have hli : ((sayL p.hl 3 p.val).filter fun a => liesB c.L a).length ≤ liarN c := nodup_sub _ _ (hln.filter _) fun a ha => by
        obtain ⟨h1, h2⟩ := List.mem_filter.1 ha
        exact List.mem_filter.2 ⟨List.mem_range.2 (MM_frm B (hmm a h1)), h2⟩
      have hsum := (List.filter_append_perm (fun a => liesB c.L a) (sayL p.hl 3 p.val)).length_eq
      rw [List.length_append, sayL_len] at hsum
      refine (V.fl j q hq).r3 p.val ?_
      have := cnt ((sayL p.hl 3 p.val).filter fun a => !liesB c.L a) 3 p.val j q (hln.filter _) (by decide) hj hq fun a ha => by
        obtain ⟨h1, h2⟩ := List.mem_filter.1 ha
        have h4 : Hon c a := by simpa [Hon] using h2
        refine ⟨MM_frm B (hmm a h1), h4, ?_⟩
        obtain ⟨r, h5, h6⟩ := I.f3 a p.val h4 (hmm a h1)
        obtain ⟨w, hw⟩ := V.out3 a r h5 h6
        rw [I.uq a 3 p.val w h4 (hmm a h1) (hw 0 (by omega)).mm]
        exact hw j (hlt j q hq)
      omega
    · refine .inr ⟨by simpa using hst, fun i p hp _ => ?_⟩
      cases e : p.has with
      | false => rfl
      | true => exact absurd ⟨i, p, hp, e⟩ hx
theorem come_at {c : Cf} {s : BS} {at_ : Nat} {m : Mg} (hm : s.all[at_]? = some m) : ∀ (j : Nat) (z : Mg), s.all[j]? = some z → ∃ z', (comeB c s at_).all[j]? = some z' ∧ (z.come = true → z'.come = true) ∧ (j = at_ → z'.come = true) := fun j z hz => by
  have hset : ∃ z', (s.all.set at_ { m with come := true })[j]? = some z' ∧ (z.come = true → z'.come = true) ∧ (j = at_ → z'.come = true) := by
    by_cases e : at_ = j
    · subst e
      exact ⟨_, List.getElem?_set_self (List.getElem?_eq_some_iff.1 hm).1, fun _ => rfl, fun _ => rfl⟩
    · exact ⟨z, by rw [List.getElem?_set_ne e]; exact hz, fun h => h, fun h => absurd h.symm e⟩
  unfold comeB cameB
  rw [hm]
  dsimp only
  split
  · exact hset
  split
  · exact hset
  split
  · exact hset
  · obtain ⟨z', h1, h2⟩ := hset
    refine ⟨z', ?_, h2⟩
    unfold sendB; dsimp only
    rw [List.getElem?_append_left (List.getElem?_eq_some_iff.1 h1).1]; exact h1
theorem all_done {T : Nat} {c : Cf} : ∀ (k : Nat) {s : BS} (a : Nat), BdB T c s → T ≤ a + k → (∀ j z, j < a → s.all[j]? = some z → z.come = true) → ∀ m ∈ (allB c k s a).all, m.come = true
  | 0, s, a, b, hT, h, m, hm => by
    obtain ⟨j, hj⟩ := List.getElem?_of_mem hm
    have := (List.getElem?_eq_some_iff.1 hj).1
    have h2 := b.all_le
    exact h j m (by simp only [allB] at this; omega) hj
  | k + 1, s, a, b, hT, h, m, hm => by
    unfold allB at hm
    split at hm
    · rename_i hn
      obtain ⟨j, hj⟩ := List.getElem?_of_mem hm
      have := (List.getElem?_eq_some_iff.1 hj).1
      have h2 := List.getElem?_eq_none_iff.1 hn
      exact h j m (by omega) hj
    · rename_i m0 hm0
      split at hm
      · rename_i hc
        refine all_done k _ b (by omega) (fun j z hj hz => ?_) m hm
        by_cases e : j = a
        · subst e; cases hm0.symm.trans hz; exact hc
        · exact h j z (by omega) hz
      · rename_i hc
        refine all_done k _ (b.come hm0 (by simpa using hc)) (by omega) (fun j z hj hz => ?_) m hm
        have hja : j < s.all.length := by have := (List.getElem?_eq_some_iff.1 hm0).1; omega
        obtain ⟨y, hy⟩ := get_of_lt hja
        obtain ⟨z', h1, h2, h4⟩ := come_at (c := c) hm0 j y hy
        cases hz.symm.trans h1
        by_cases e : j = a
        · exact h4 e
        · exact h2 (h j y (by omega) hy)
theorem total {c : Cf} (hs : c.snd < c.n) (h7 : c.n ≤ 7) (h3 : 3 * c.f < c.n) {cs : List Mv} {x : Mv} (hx : x.kind = 4) (hcl : cs.length ≤ 120) :
    (∀ m ∈ (stB c (bs0 c.n) (cs ++ [x])).all, m.come = true) ∧
    (liarN c ≤ c.f → AH c (stB c (bs0 c.n) (cs ++ [x])) ∨ ((wkB (cs ++ [x]) (codesB c (bs0 c.n) (cs ++ [x])) cs.length).1 = false ∧ NH c (stB c (bs0 c.n) (cs ++ [x])))) := by
  have B := BdB.run hs (cs := cs) cs.length (Nat.le_refl _)
  rw [List.take_length] at B
  have h2 := hitB_le forgB cs (codesB c (bs0 c.n) cs) cs.length
  have h14 : c.n * (2 * c.n) ≤ 7 * 14 := Nat.mul_le_mul h7 (by omega)
  have e : stB c (bs0 c.n) (cs ++ [x]) = allB c 2000 (stB c (bs0 c.n) cs) 0 := by
    rw [stB_app]; show (stepB c _ x).2 = _
    unfold stepB; rw [if_neg (by omega), if_neg (by omega), if_neg (by omega), if_pos hx]
  have hall : ∀ m ∈ (stB c (bs0 c.n) (cs ++ [x])).all, m.come = true := by
    rw [e]; exact all_done 2000 0 B (by omega) (fun j z hj => by omega)
  refine ⟨hall, fun hl => ?_⟩
  have I := InvB.run hs hl (by omega) (cs := cs ++ [x]) (cs ++ [x]).length (Nat.le_refl _)
  have B := BdB.run hs (cs := cs ++ [x]) (cs ++ [x]).length (Nat.le_refl _)
  have V := LiB.run hs (by omega) (cs := cs ++ [x]) (cs ++ [x]).length (Nat.le_refl _)
  have W := (run_W hs hl (by omega) (cs := cs ++ [x]) (cs ++ [x]).length (Nat.le_refl _)).1
  rw [List.take_length] at I B V W
  rcases live I B V hl h3 (by omega) hs hall with h | ⟨h, h'⟩
  · exact .inl h
  · refine .inr ⟨?_, h'⟩
    rw [h, List.length_append, List.length_singleton] at W
    have hxx : (cs ++ [x])[cs.length]? = some x := by simp
    rw [wkB_succ hxx (codes_at hxx), if_neg (fun q => by have := q.1; omega)] at W
    exact W.symm
end Go.Proofs.Ytbfcfekpfgpfbaa
